/- The walks of package cell: cells that are none (nil, or never made), and cells that are. -/
import Derived.Test.YtchgkgfhkkffeaaPSpanMeetsx0
namespace Go.Proofs.Ytchgkgfhkkffeaa.Ce
open Go.RowKit Go.Proofs.YtchgkgfhkkffeaaW.PrintWords Go.Proofs.YtchgkgfhkkffeaaW.PrintLast Go.Proofs.YtchgkgfhkkffeaaW.PrintMore
set_option linter.unusedVariables false
set_option linter.unusedSimpArgs false

/-- A word: what it refers to, its tag, its id. -/
abbrev W3 := Int × Int × Int
abbrev wv (x : W3) : Value := .agg #[.int .i64 x.1, .int .i64 x.2.1, .int .i64 x.2.2]
abbrev zero : W3 := (0, 0, 0)

/-- Cells that were never made, at block e. -/
def Empty (W : World) (e : Nat) : Prop := W.heap[e]? = some (.cells #[.slice none 0 0, .int .i64 0, .bool false] 69 (0, 0))
/-- The row of words. -/
def Row (cs : Array Value) (ws : List W3) : Prop := cs.size = 3 * ws.length ∧ ∀ j (h : j < ws.length), cs[j * 3]? = some (.int .i64 ws[j].1) ∧ cs[j * 3 + 1]? = some (.int .i64 ws[j].2.1) ∧ cs[j * 3 + 2]? = some (.int .i64 ws[j].2.2)
/-- Cells at block p, their words in block g, n accesses. -/
structure IsC (W : World) (p g : Nat) (ws : List W3) (n : Int) : Prop where
  ne : p ≠ g
  head : W.heap[p]? = some (.cells #[.slice (some ⟨g, 0, none⟩) ws.length ws.length, .int .i64 n, .bool true] 69 (0, 0))
  row : ∃ cs, W.heap[g]? = some (.cells cs 47 (0, 0)) ∧ Row cs ws

theorem Empty.c {W : World} {e : Nat} (h : Empty W e) : W.cell? ⟨e, 0, none⟩ = some (.slice none 0 0) ∧ W.cell? ⟨e, 1, none⟩ = some (.int .i64 0) ∧ W.cell? ⟨e, 2, none⟩ = some (.bool false) := ⟨(blk_cell h 0).trans rfl, (blk_cell h 1).trans rfl, (blk_cell h 2).trans rfl⟩
theorem IsC.c {W : World} {p g : Nat} {ws : List W3} {n : Int} (h : IsC W p g ws n) : W.cell? ⟨p, 0, none⟩ = some (.slice (some ⟨g, 0, none⟩) ws.length ws.length) ∧ W.cell? ⟨p, 1, none⟩ = some (.int .i64 n) ∧ W.cell? ⟨p, 2, none⟩ = some (.bool true) ∧ W.frozen? ⟨p, 1, none⟩ = false := ⟨(blk_cell h.head 0).trans rfl, (blk_cell h.head 1).trans rfl, (blk_cell h.head 2).trans rfl, blk_frozen h.head 1⟩
theorem IsC.at_ {W : World} {p g : Nat} {ws : List W3} {n : Int} (h : IsC W p g ws n) (j : Nat) (hj : j < ws.length) : W.cell? ⟨g, j * 3, none⟩ = some (.int .i64 ws[j].1) ∧ W.cell? ⟨g, j * 3 + 1, none⟩ = some (.int .i64 ws[j].2.1) ∧ W.cell? ⟨g, j * 3 + 2, none⟩ = some (.int .i64 ws[j].2.2) ∧ W.frozen? ⟨g, j * 3, none⟩ = false ∧ W.frozen? ⟨g, j * 3 + 1, none⟩ = false ∧ W.frozen? ⟨g, j * 3 + 2, none⟩ = false := by
  obtain ⟨cs, hb, hr⟩ := h.row
  obtain ⟨h0, h1, h2⟩ := hr.2 j hj
  exact ⟨(blk_cell hb _).trans h0, (blk_cell hb _).trans h1, (blk_cell hb _).trans h2, blk_frozen hb _, blk_frozen hb _, blk_frozen hb _⟩

theorem has_nil (i : Int) (W : World) : Calls Try.prog 50 #[.pointer none, .int .i64 i] W fun e w' => e = .returned (.bool false) ∧ Drawn0 W w' := by
  go_enter Try.func50, Try.ntmps50
  go_wp2
  go_ret
  exact ⟨rfl, by repeat (first | exact Drawn0.refl _ | apply Drawn0.step)⟩
theorem has_empty (e : Nat) (i : Int) (W : World) (h : Empty W e) : Calls Try.prog 50 #[.pointer (some ⟨e, 0, none⟩), .int .i64 i] W fun e w' => e = .returned (.bool false) ∧ Drawn0 W w' := by
  obtain ⟨c0, c1, c2⟩ := h.c
  have hu := Try.underlying69
  clear h
  go_enter Try.func50, Try.ntmps50
  go_wp2
  go_ret
  exact ⟨rfl, by repeat (first | exact Drawn0.refl _ | apply Drawn0.step)⟩
theorem has_made (p g : Nat) (ws : List W3) (n i : Int) (b : Bool) (W : World) (h : IsC W p g ws n) (hb : decide (0 ≤ i ∧ i < ws.length) = b) : Calls Try.prog 50 #[.pointer (some ⟨p, 0, none⟩), .int .i64 i] W fun e w' => e = .returned (.bool b) ∧ Drawn0 W w' := by
  obtain ⟨c0, c1, c2, f1⟩ := h.c
  have hu := Try.underlying69
  clear h
  by_cases h0 : 0 ≤ i
  · have d0 : decide (0 ≤ i) = true := decide_eq_true h0
    have d1 : decide (i < ws.length) = b := by rw [← hb]; simp [h0]
    have HH := Aside0.mk hb
    clear hb
    go_enter Try.func50, Try.ntmps50
    go_wp2
    go_ret
    exact ⟨by first | rfl | simp [*], by repeat (first | exact Drawn0.refl _ | apply Drawn0.step)⟩
  · have d0 : decide (0 ≤ i) = false := decide_eq_false h0
    have hb2 : b = false := by rw [← hb]; simp [h0]
    subst hb2
    clear hb
    go_enter Try.func50, Try.ntmps50
    go_wp2
    go_ret
    exact ⟨rfl, by repeat (first | exact Drawn0.refl _ | apply Drawn0.step)⟩

theorem access_nil (i : Int) (W : World) : Calls Try.prog 49 #[.pointer none, .int .i64 i] W fun e w' => e = .returned (.int .i64 4) ∧ Drawn0 W w' := by
  go_enter Try.func49, Try.ntmps49
  go_wp2
  go_ret
  exact ⟨rfl, by repeat (first | exact Drawn0.refl _ | apply Drawn0.step)⟩
theorem access_empty (e : Nat) (i : Int) (W : World) (h : Empty W e) : Calls Try.prog 49 #[.pointer (some ⟨e, 0, none⟩), .int .i64 i] W fun e w' => e = .returned (.int .i64 4) ∧ Drawn0 W w' := by
  obtain ⟨c0, c1, c2⟩ := h.c
  have hu := Try.underlying69
  clear h
  go_enter Try.func49, Try.ntmps49
  go_wp2
  go_ret
  exact ⟨rfl, by repeat (first | exact Drawn0.refl _ | apply Drawn0.step)⟩
theorem access_out (p g : Nat) (ws : List W3) (n i : Int) (W : World) (h : IsC W p g ws n) (hb : decide (0 ≤ i ∧ i < ws.length) = false) : Calls Try.prog 49 #[.pointer (some ⟨p, 0, none⟩), .int .i64 i] W fun e w' => e = .returned (.int .i64 2) ∧ Drawn0 W w' := by
  have HC := Aside0.mk h
  obtain ⟨c0, c1, c2, f1⟩ := h.c
  have hu := Try.underlying69
  have HH := Aside0.mk hb
  clear h hb
  go_enter Try.func49, Try.ntmps49
  go_wp2_with (go_at_call 50; (with_reducible refine (has_made p g ws n i false _ HC.out HH.out).mono ?_); rintro e w1 ⟨rfl, ⟨k, rfl⟩⟩)
  go_ret
  exact ⟨rfl, by repeat (first | exact Drawn0.refl _ | apply Drawn0.step)⟩
theorem access_in (p g : Nat) (ws : List W3) (n i : Int) (W : World) (h : IsC W p g ws n) (hb : decide (0 ≤ i ∧ i < ws.length) = true) : Calls Try.prog 49 #[.pointer (some ⟨p, 0, none⟩), .int .i64 i] W fun e w' => e = .returned (.int .i64 0) ∧ ∃ k, w' = (W.drewN k).setCell ⟨p, 1, none⟩ (.int .i64 (wrap64 (n + 1))) := by
  have HC := Aside0.mk h
  obtain ⟨c0, c1, c2, f1⟩ := h.c
  have hu := Try.underlying69
  have HH := Aside0.mk hb
  clear h hb
  go_enter Try.func49, Try.ntmps49
  go_wp2_with (go_at_call 50; (with_reducible refine (has_made p g ws n i true _ HC.out HH.out).mono ?_); rintro e w1 ⟨rfl, ⟨k, rfl⟩⟩)
  go_ret
  exact ⟨rfl, ⟨_, rfl⟩⟩

end Go.Proofs.Ytchgkgfhkkffeaa.Ce
