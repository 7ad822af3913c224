/- The walks of package limbo's lists: lists that are none (nil, or never made), and lists that are. -/
import Derived.Test.YtjfogghpiclooaaPLimboNewx0
namespace Go.Proofs.Ytjfogghpiclooaa.Li
open Go.RowKit Go.Proofs.YtjfogghpiclooaaW.PrintWords Go.Proofs.YtjfogghpiclooaaW.PrintLast Go.Proofs.YtjfogghpiclooaaW.PrintMore
set_option linter.unusedVariables false
set_option linter.unusedSimpArgs false

/-- Lists that were never made, at block e. -/
def Empty (W : World) (e : Nat) : Prop := W.heap[e]? = some (.cells #[.slice none 0 0, .int .i64 0, .bool false] 63 (0, 0))
/-- Lists at block p, what each list holds (a slice) in block g, n steps. -/
structure IsL (W : World) (p g : Nat) (ls : List Value) (n : Int) : Prop where
  ne : p ≠ g
  head : W.heap[p]? = some (.cells #[.slice (some ⟨g, 0, none⟩) ls.length ls.length, .int .i64 n, .bool true] 63 (0, 0))
  row : W.heap[g]? = some (.cells ls.toArray 26 (0, 0))

theorem Empty.c {W : World} {e : Nat} (h : Empty W e) : W.cell? ⟨e, 0, none⟩ = some (.slice none 0 0) ∧ W.cell? ⟨e, 1, none⟩ = some (.int .i64 0) ∧ W.cell? ⟨e, 2, none⟩ = some (.bool false) := ⟨(blk_cell h 0).trans rfl, (blk_cell h 1).trans rfl, (blk_cell h 2).trans rfl⟩
theorem Empty.below {W w : World} {e : Nat} (h : Empty W e) (hb : Below W.heap.size W w) : Empty w e := blk_below h hb
theorem IsL.c {W : World} {p g : Nat} {ls : List Value} {n : Int} (h : IsL W p g ls n) : W.cell? ⟨p, 0, none⟩ = some (.slice (some ⟨g, 0, none⟩) ls.length ls.length) ∧ W.cell? ⟨p, 1, none⟩ = some (.int .i64 n) ∧ W.cell? ⟨p, 2, none⟩ = some (.bool true) ∧ W.frozen? ⟨p, 1, none⟩ = false := ⟨(blk_cell h.head 0).trans rfl, (blk_cell h.head 1).trans rfl, (blk_cell h.head 2).trans rfl, blk_frozen h.head 1⟩
theorem IsL.get {W : World} {p g : Nat} {ls : List Value} {n : Int} (h : IsL W p g ls n) {j : Nat} {v : Value} (hj : ls[j]? = some v) : W.cell? ⟨g, j, none⟩ = some v ∧ W.frozen? ⟨g, j, none⟩ = false := ⟨(blk_cell h.row j).trans (by simpa using hj), blk_frozen h.row j⟩
theorem IsL.lt_p {W : World} {p g : Nat} {ls : List Value} {n : Int} (h : IsL W p g ls n) : p < W.heap.size := blk_lt h.head
theorem IsL.lt_g {W : World} {p g : Nat} {ls : List Value} {n : Int} (h : IsL W p g ls n) : g < W.heap.size := blk_lt h.row
theorem IsL.below {W w : World} {p g : Nat} {ls : List Value} {n : Int} (h : IsL W p g ls n) (hb : Below W.heap.size W w) : IsL w p g ls n := ⟨h.ne, blk_below h.head hb, blk_below h.row hb⟩
theorem IsL.count {W : World} {p g : Nat} {ls : List Value} {n : Int} (h : IsL W p g ls n) (m : Int) : IsL (W.setCell ⟨p, 1, none⟩ (.int .i64 m)) p g ls m :=
  ⟨h.ne, blk_put (cs := #[.slice (some ⟨g, 0, none⟩) ls.length ls.length, .int .i64 n, .bool true]) h.head 1 _ rfl, blk_far h.row h.ne.symm _⟩
theorem IsL.put {W : World} {p g : Nat} {ls : List Value} {n : Int} (h : IsL W p g ls n) (j : Nat) (v : Value) : IsL (W.setCell ⟨g, j, none⟩ v) p g (ls.set j v) n := by
  refine ⟨h.ne, ?_, blk_put h.row j v (by simp)⟩
  rw [List.length_set]
  exact blk_far h.head h.ne _
theorem IsL.drewN {W : World} {p g : Nat} {ls : List Value} {n : Int} (h : IsL W p g ls n) (k : Nat) : IsL (W.drewN k) p g ls n := ⟨h.ne, h.head, h.row⟩
theorem IsL.drew {W : World} {p g : Nat} {ls : List Value} {n : Int} (h : IsL W p g ls n) : IsL W.drew p g ls n := ⟨h.ne, h.head, h.row⟩

/-- There is no such list: a step is refused with c. -/
structure Off (W : World) (pv : Value) (i c : Int) : Prop where
  ne : (c == 0) = false
  ne2 : (c != 0) = true
  acc : ∀ W', Below W.heap.size W W' → Calls Try.prog 30 #[pv, .int .i64 i] W' fun e w' => e = .returned (.int .i64 c) ∧ Drawn0 W' w'
theorem Off.below {W w : World} {pv : Value} {i c : Int} (h : Off W pv i c) (hb : Below W.heap.size W w) : Off w pv i c := ⟨h.ne, h.ne2, fun W' hw => h.acc W' (below_step hb hw)⟩

theorem step_nil (i : Int) (W : World) : Calls Try.prog 30 #[.pointer none, .int .i64 i] W fun e w' => e = .returned (.int .i64 4) ∧ Drawn0 W w' := by
  go_enter Try.func30, Try.ntmps30
  go_wp2
  go_ret
  exact ⟨rfl, by repeat (first | exact Drawn0.refl _ | apply Drawn0.step)⟩
theorem step_empty (e : Nat) (i : Int) (W : World) (h : Empty W e) : Calls Try.prog 30 #[.pointer (some ⟨e, 0, none⟩), .int .i64 i] W fun e w' => e = .returned (.int .i64 4) ∧ Drawn0 W w' := by
  obtain ⟨c0, c1, c2⟩ := h.c
  have hu := Try.underlying63
  clear h
  go_enter Try.func30, Try.ntmps30
  go_wp2
  go_ret
  exact ⟨rfl, by repeat (first | exact Drawn0.refl _ | apply Drawn0.step)⟩
theorem step_out (p g : Nat) (ls : List Value) (n i : Int) (W : World) (h : IsL W p g ls n) (hi : ¬ (0 ≤ i ∧ i < (ls.length : Int))) : Calls Try.prog 30 #[.pointer (some ⟨p, 0, none⟩), .int .i64 i] W fun e w' => e = .returned (.int .i64 2) ∧ Drawn0 W w' := by
  obtain ⟨c0, c1, c2, f1⟩ := h.c
  have hu := Try.underlying63
  obtain ⟨b0, hb0⟩ : ∃ b, decide (i < 0) = b := ⟨_, rfl⟩
  have hb1 : b0 = false → decide ((ls.length : Int) ≤ i) = true := fun hh => by subst hh; exact decide_eq_true (by have := of_decide_eq_false hb0; omega)
  clear h hi
  cases b0 with
  | true =>
    clear hb1
    go_enter Try.func30, Try.ntmps30
    go_wp2
    go_ret
    exact ⟨rfl, by repeat (first | exact Drawn0.refl _ | apply Drawn0.step)⟩
  | false =>
    have hb2 := hb1 rfl
    clear hb1
    go_enter Try.func30, Try.ntmps30
    go_wp2
    go_ret
    exact ⟨rfl, by repeat (first | exact Drawn0.refl _ | apply Drawn0.step)⟩
theorem step_in (p g : Nat) (ls : List Value) (n : Int) (j : Nat) (W : World) (h : IsL W p g ls n) (hj : j < ls.length) : Calls Try.prog 30 #[.pointer (some ⟨p, 0, none⟩), .int .i64 (j : Int)] W fun e w' => e = .returned (.int .i64 0) ∧ w' = W.setCell ⟨p, 1, none⟩ (.int .i64 (wrap64 (n + 1))) := by
  obtain ⟨c0, c1, c2, f1⟩ := h.c
  have hu := Try.underlying63
  have z0 : decide ((j : Int) < 0) = false := decide_eq_false (by omega)
  have z1 : decide ((ls.length : Int) ≤ (j : Int)) = false := decide_eq_false (by omega)
  clear h
  go_enter Try.func30, Try.ntmps30
  go_wp2
  go_ret
  exact ⟨rfl, rfl⟩
theorem off_nil (W : World) (i : Int) : Off W (.pointer none) i 4 := ⟨by decide, by decide, fun W' _ => step_nil i W'⟩
theorem off_empty (W : World) (e : Nat) (i : Int) (h : Empty W e) : Off W (.pointer (some ⟨e, 0, none⟩)) i 4 := ⟨by decide, by decide, fun W' hb => step_empty e i W' (h.below hb)⟩
theorem off_out (W : World) (p g : Nat) (ls : List Value) (n i : Int) (h : IsL W p g ls n) (hi : ¬ (0 ≤ i ∧ i < (ls.length : Int))) : Off W (.pointer (some ⟨p, 0, none⟩)) i 2 := ⟨by decide, by decide, fun W' hw => step_out p g ls n i W' (h.below hw) hi⟩

theorem grab_off (pv : Value) (i c : Int) (W : World) (h : Off W pv i c) : Calls Try.prog 21 #[pv, .int .i64 i] W fun e w' => e = .returned (.tuple #[.slice none 0 0, .int .i64 c]) ∧ Drawn0 W w' := by
  have hne := h.ne2
  have HO := Aside0.mk h
  clear h
  go_enter Try.func21, Try.ntmps21
  go_wp2_with (go_at_call 30; (with_reducible refine (HO.out.acc _ (Below.refl _ _)).mono ?_); rintro e w1 ⟨rfl, ⟨k, rfl⟩⟩)
  go_ret2
  exact ⟨rfl, by repeat (first | exact Drawn0.refl _ | apply Drawn0.step)⟩
theorem push_off (pv : Value) (i c : Int) (s : Value) (W : World) (h : Off W pv i c) : Calls Try.prog 19 #[pv, .int .i64 i, s] W fun e w' => e = .returned (.int .i64 c) ∧ Drawn0 W w' := by
  have hne := h.ne
  have HO := Aside0.mk h
  clear h
  go_enter Try.func19, Try.ntmps19
  go_wp2_with (go_at_call 30; (with_reducible refine (HO.out.acc _ (Below.refl _ _)).mono ?_); rintro e w1 ⟨rfl, ⟨k, rfl⟩⟩)
  go_ret
  exact ⟨rfl, by repeat (first | exact Drawn0.refl _ | apply Drawn0.step)⟩
theorem steps_nil (W : World) : Calls Try.prog 23 #[.pointer none] W fun e w' => e = .returned (.int .i64 0) ∧ Drawn0 W w' := by
  go_enter Try.func23, Try.ntmps23
  go_wp2
  go_ret
  exact ⟨rfl, by repeat (first | exact Drawn0.refl _ | apply Drawn0.step)⟩
theorem steps_empty (e : Nat) (W : World) (h : Empty W e) : Calls Try.prog 23 #[.pointer (some ⟨e, 0, none⟩)] W fun e w' => e = .returned (.int .i64 0) ∧ Drawn0 W w' := by
  obtain ⟨c0, c1, c2⟩ := h.c
  have hu := Try.underlying63
  clear h
  go_enter Try.func23, Try.ntmps23
  go_wp2
  go_ret
  exact ⟨rfl, by repeat (first | exact Drawn0.refl _ | apply Drawn0.step)⟩
theorem steps_made (p g : Nat) (ls : List Value) (n : Int) (W : World) (h : IsL W p g ls n) : Calls Try.prog 23 #[.pointer (some ⟨p, 0, none⟩)] W fun e w' => e = .returned (.int .i64 n) ∧ Drawn0 W w' := by
  obtain ⟨c0, c1, c2, f1⟩ := h.c
  have hu := Try.underlying63
  clear h
  go_enter Try.func23, Try.ntmps23
  go_wp2
  go_ret
  exact ⟨rfl, by repeat (first | exact Drawn0.refl _ | apply Drawn0.step)⟩
theorem all_nil (W : World) : Calls Try.prog 22 #[.pointer none] W fun e w' => e = .returned (.slice none 0 0) ∧ Drawn0 W w' := by
  go_enter Try.func22, Try.ntmps22
  go_wp2
  go_ret
  exact ⟨rfl, by repeat (first | exact Drawn0.refl _ | apply Drawn0.step)⟩
/-- No groups, copied. -/
theorem copied_nil (A : Option Addr) (c : Nat) (W : World) : Calls Try.prog 31 #[.slice A 0 c] W fun e w' => e = .returned (.slice none 0 0) ∧ Drawn0 W w' := by
  go_enter Try.func31, Try.ntmps31
  go_wp2
  go_loopg [3, 8] 2 (fun gg s3 s8 wr => gg = 2 ∧ s3 = .slice none 0 0 ∧ s8 = .int .i64 0 ∧ ∃ q, wr = W.drewN q)
  case atStart => exact ⟨rfl, rfl, rfl, 0, rfl⟩
  case round =>
    obtain ⟨rfl, rfl, rfl, q, rfl⟩ := hrel
    go_wp2
    go_ret
    exact ⟨rfl, by repeat (first | exact Drawn0.refl _ | apply Drawn0.step)⟩
theorem all_empty (e : Nat) (W : World) (h : Empty W e) : Calls Try.prog 22 #[.pointer (some ⟨e, 0, none⟩)] W fun e w' => e = .returned (.slice none 0 0) ∧ Drawn0 W w' := by
  obtain ⟨c0, c1, c2⟩ := h.c
  have hu := Try.underlying63
  clear h
  go_enter Try.func22, Try.ntmps22
  go_wp2
  go_loopg [3, 13] 2 (fun gg s3 s13 wr => gg = 2 ∧ s3 = .slice none 0 0 ∧ s13 = .int .i64 0 ∧ ∃ q, wr = W.drewN q)
  case atStart => exact ⟨rfl, rfl, rfl, 0, rfl⟩
  case round =>
    obtain ⟨rfl, rfl, rfl, q, rfl⟩ := hrel
    go_wp2
    go_ret
    exact ⟨rfl, by repeat (first | exact Drawn0.refl _ | apply Drawn0.step)⟩

end Go.Proofs.Ytjfogghpiclooaa.Li
