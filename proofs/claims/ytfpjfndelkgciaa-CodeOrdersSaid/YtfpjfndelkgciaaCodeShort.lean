/- Shorter names for words that a long printed text uses hundreds of times. -/
import Derived.Test.YtfpjfndelkgciaaCodeB
namespace Go.Proofs.Ytfpjfndelkgciaa.Fw
open Go.RowKit Go.Proofs.YtfpjfndelkgciaaW.PrintWords

theorem sa_ {α : Type _} (l : List α) (i : Nat) (a : α) : l.toArray.setIfInBounds i a = (l.set i a).toArray := List.setIfInBounds_toArray _ _ _
theorem sz_ {α : Type _} (x : α) (l : List α) (a : α) : (x :: l).set 0 a = a :: l := List.set_cons_zero
theorem ss_ {α : Type _} (x : α) (l : List α) (n : Nat) (a : α) : (x :: l).set (n + 1) a = x :: l.set n a := List.set_cons_succ
theorem bc_ {w : World} {g : Nat} {t : TypeId} {cs : Array Value} (h : w.heap[g]? = some (.cells cs t (0, 0))) (i : Nat) : w.cell? ⟨g, i, none⟩ = cs[i]? := blk_cell h i
theorem am_ {p : Prop} (h : p) : Aside0 p := ⟨h⟩
theorem tt_ {a b : Bool} (h1 : (a == b) = true) (h2 : ¬ a = false) : b = true := by
  revert h1 h2
  cases a <;> cases b <;> decide

end Go.Proofs.Ytfpjfndelkgciaa.Fw
