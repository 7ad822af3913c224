/- The walks of lists that were just made: New, Push of nothing, All. -/
import Derived.Test.YtjfogghpiclooaaLimW1
namespace Go.Proofs.Ytjfogghpiclooaa.Li
open Go.RowKit Go.Proofs.YtjfogghpiclooaaW.PrintWords Go.Proofs.YtjfogghpiclooaaW.PrintLast Go.Proofs.YtjfogghpiclooaaW.PrintMore
set_option linter.unusedVariables false
set_option linter.unusedSimpArgs false

theorem make_lists (m : Nat) (hm : m ≤ 200) (W : World) : (Instr.makeSlice 61 (.int .i64 (m : Int)) (.int .i64 (m : Int))).run Try.prog W = .ok (.slice (some ⟨W.heap.size, 0, none⟩) m m) (W.alloc (.cells (List.replicate m (Value.slice none 0 0)).toArray 26)) := by
  obtain ⟨i, hi, hz⟩ := Option.map_eq_some_iff.1 (show (Try.prog.info? 26).map (fun i => (i.zero, i.size, i.bytes)) = some (some (.slice none 0 0), 1, 24) by kernel_rfl)
  simp only [Prod.mk.injEq] at hz
  have := run_make (P := Try.prog) W 61 26 i _ Try.underlying61 hi hz.1 .i64 .i64 (m : Int) (m : Int) (by omega) (Int.le_refl _) (by rw [hz.2.2]; omega) (by omega)
  rw [hz.2.1, Int.toNat_natCast, Nat.mul_one, show (Value.slice none 0 0).cells = #[.slice none 0 0] from rfl] at this
  have e : madeCells #[Value.slice none 0 0] m = (List.replicate m (Value.slice none 0 0)).toArray := by
    rw [← toList_madeCells_one]
  rw [← e]
  exact this
theorem new_err (n : Int) (W : World) (h : n < 0 ∨ n > 64) : Calls Try.prog 17 #[.int .i64 n] W fun e w' => e = .returned (.tuple #[.pointer none, .int .i64 2]) ∧ Drawn0 W w' := by
  by_cases h0 : n < 0
  · have d0 : decide (n < 0) = true := decide_eq_true h0
    clear h
    go_enter Try.func17, Try.ntmps17
    go_wp2
    go_ret2
    exact ⟨rfl, by repeat (first | exact Drawn0.refl _ | apply Drawn0.step)⟩
  · have d0 : decide (n < 0) = false := decide_eq_false h0
    have d1 : decide (64 < n) = true := decide_eq_true (by omega)
    clear h
    go_enter Try.func17, Try.ntmps17
    go_wp2
    go_ret2
    exact ⟨rfl, by repeat (first | exact Drawn0.refl _ | apply Drawn0.step)⟩
theorem new_ok (n : Nat) (W : World) (h : n ≤ 64) : Calls Try.prog 17 #[.int .i64 (n : Int)] W fun e w' => ∃ p g, e = .returned (.tuple #[.pointer (some ⟨p, 0, none⟩), .int .i64 0]) ∧ IsL w' p g (List.replicate n (.slice none 0 0)) 0 ∧ Below W.heap.size W w' ∧ W.heap.size ≤ p ∧ W.heap.size ≤ g := by
  have d0 : decide ((n : Int) < 0) = false := decide_eq_false (by omega)
  have d1 : decide (64 < (n : Int)) = false := decide_eq_false (by omega)
  have hmk := make_lists n (by omega)
  clear h
  obtain ⟨cs, hcs⟩ : ∃ cs, cs = (List.replicate n (Value.slice none 0 0)).toArray := ⟨_, rfl⟩
  rw [← hcs] at hmk
  have HC := Aside0.mk hcs
  clear hcs
  go_enter Try.func17, Try.ntmps17
  go_wp2
  go_ret2
  refine ⟨_, W.heap.size, rfl, ⟨?_, ?_, ?_⟩, below_alloc (below_alloc (Below.refl _ _) _) _, by simp, Nat.le_refl _⟩
  · simp
  · rw [List.length_replicate]; exact (show (W.alloc (.cells cs 26)).heap.size = W.heap.size + 1 by simp) ▸ heap_alloc_new _ _
  · rw [← HC.out]; exact blk_alloc (heap_alloc_new _ _) _

theorem all_fresh (p g m : Nat) (n : Int) (W : World) (h : IsL W p g (List.replicate m (.slice none 0 0)) n) (hm : m ≤ 64) : Calls Try.prog 22 #[.pointer (some ⟨p, 0, none⟩)] W fun e w' => e = .returned (.slice none 0 0) ∧ Drawn0 W w' := by
  obtain ⟨c0, c1, c2, f1⟩ := h.c
  rw [List.length_replicate] at c0
  have hu := Try.underlying63
  have HI := Aside0.mk h
  clear h
  go_enter Try.func22, Try.ntmps22
  go_wp2
  go_loopg [3, 13] (m + 1) (fun gg s3 s13 wr => ∃ kk q : Nat, kk ≤ m ∧ m + 1 - kk ≤ gg ∧ s3 = .slice none 0 0 ∧ s13 = .int .i64 kk ∧ wr = W.drewN q)
  case atStart => exact ⟨0, 0, Nat.zero_le _, by omega, rfl, rfl, rfl⟩
  case round =>
    obtain ⟨kk, q, hkk, hg, rfl, rfl, rfl⟩ := hrel
    by_cases hk : kk < m
    · have hlt : (kk : Int) < (m : Int) := by omega
      obtain ⟨hc, -⟩ := HI.out.get (j := kk) (v := .slice none 0 0) (by rw [List.getElem?_replicate, if_pos hk])
      go_wp2_with (first | (go_at_call 31; (with_reducible refine (copied_nil none 0 _).mono ?_); rintro e w1 ⟨rfl, ⟨k, rfl⟩⟩))
      go_roundg (m + 1 - (kk + 1))
      case measure => omega
      case rel => exact ⟨kk + 1, _, by omega, by omega, rfl, by go_num, rfl⟩
    · have hlt : ¬ (kk : Int) < (m : Int) := by omega
      go_wp2
      go_ret
      exact ⟨rfl, by repeat (first | exact Drawn0.refl _ | apply Drawn0.step)⟩

theorem below_setB {b : Nat} {W w' : World} (h : Below b W w') {g : Nat} (hg : b ≤ g) (j : Nat) (v : Value) : Below b W (w'.setCell ⟨g, j, none⟩ v) :=
  ⟨h.os, h.tape, h.output, by simpa using h.size, fun k hk => (Below.heap_setCell w' ⟨g, j, none⟩ v k (by show k ≠ g; omega)).trans (h.block k hk)⟩
/-- What lay ahead of the lists' row lies; the lists' head and list j as they were. -/
structure HG (g p m j : Nat) (W w' : World) : Prop where
  bel : Below g W w'
  c0 : w'.cell? ⟨p, 0, none⟩ = some (.slice (some ⟨g, 0, none⟩) m m)
  hc : w'.cell? ⟨g, j, none⟩ = some (.slice none 0 0)
  hf : w'.frozen? ⟨g, j, none⟩ = false
theorem HG.drewN {g p m j : Nat} {W w' : World} (h : HG g p m j W w') (n : Nat) : HG g p m j W (w'.drewN n) := ⟨pw_below_drewN h.bel n, h.c0, h.hc, h.hf⟩
theorem HG.drew {g p m j : Nat} {W w' : World} (h : HG g p m j W w') : HG g p m j W w'.drew := ⟨below_drew1 h.bel, h.c0, h.hc, h.hf⟩
theorem HG.set {g p m j : Nat} {W w' : World} (h : HG g p m j W w') (hne : p ≠ g) : HG g p m j W (w'.setCell ⟨g, j, none⟩ (.slice none 0 0)) :=
  ⟨below_setB h.bel (Nat.le_refl _) _ _, (cell_far (p := ⟨g, j, none⟩) hne _).trans h.c0, World.cell?_setCell_same' _ _ _ (by rw [h.hc]; rfl), by simpa using h.hf⟩
theorem HG.all {g p m j : Nat} {W : World} : ∀ w', HG g p m j W w' → (w'.cell? ⟨p, 0, none⟩ = some (.slice (some ⟨g, 0, none⟩) m m) ∧ w'.cell? ⟨g, j, none⟩ = some (.slice none 0 0) ∧ w'.frozen? ⟨g, j, none⟩ = false ∧ HG g p m j W w') := fun w' h => ⟨h.c0, h.hc, h.hf, h⟩
/-- Nothing is pushed behind a list that holds nothing. -/
theorem push_fresh (p g m j : Nat) (n : Int) (W : World) (h : IsL W p g (List.replicate m (.slice none 0 0)) n) (hm : m ≤ 64) (hj : j < m) : Calls Try.prog 19 #[.pointer (some ⟨p, 0, none⟩), .int .i64 (j : Int), .slice none 0 0] W fun e w' => e = .returned (.int .i64 0) ∧ ∀ b, b ≤ p → b ≤ g → Below b W w' := by
  have hl : (List.replicate m (Value.slice none 0 0)).length = m := List.length_replicate
  have HS := Aside0.mk (step_in p g _ n j W h (by rw [hl]; exact hj))
  have HI := Aside0.mk (h.count (wrap64 (n + 1)))
  obtain ⟨c0, c1, c2, f1⟩ := HI.out.c
  rw [hl] at c0
  obtain ⟨hc, hf⟩ := HI.out.get (j := j) (v := .slice none 0 0) (by rw [List.getElem?_replicate, if_pos hj])
  have hlt : (j : Int) < (m : Int) := by omega
  have hj' := hj
  have hu := Try.underlying63
  clear h hl
  obtain ⟨W1, hW1⟩ : ∃ W1, W1 = W.setCell ⟨p, 1, none⟩ (.int .i64 (wrap64 (n + 1))) := ⟨_, rfl⟩
  rw [← hW1] at HS c0 c1 c2 f1 hc hf
  have HW := Aside0.mk hW1
  have h0 := HI.out.ne
  clear hW1 HI
  go_enter Try.func19, Try.ntmps19
  go_upto_region 3 with (go_at_call 30; (with_reducible refine HS.out.mono ?_); rintro e w1 ⟨rfl, rfl⟩)
  have Hne := h0
  have H0 : HG g p m j w1 w1 := ⟨Below.refl _ _, c0, hc, hf⟩
  have Hall := Aside0.mk (HG.all (g := g) (p := p) (m := m) (j := j) (W := w1))
  obtain ⟨q0, q1, q2, hheld⟩ := Hall.out w1 H0
  clear H0
  go_region_held3 (fun w' => w'.cell? ⟨p, 0, none⟩ = some (.slice (some ⟨g, 0, none⟩) m m) ∧ w'.cell? ⟨g, j, none⟩ = some (.slice none 0 0) ∧ w'.frozen? ⟨g, j, none⟩ = false ∧ HG g p m j w1 w')
    ((go_split_ands; first | exact Hall.out _ (by assumption) | exact Hall.out _ (HG.drewN (by assumption) _) | exact Hall.out _ (HG.drew (by assumption)) | exact Hall.out _ (HG.set (by assumption) Hne)))
    ((go_at_call 31; go_split_ands; (with_reducible refine (copied_nil none 0 _).mono ?_); rintro e w1 ⟨rfl, ⟨k, rfl⟩⟩))
  go_wp2
  go_split_ands
  go_ret
  refine ⟨rfl, fun b hbp hbg => ?_⟩
  have h1 : Below b W w1 := by rw [HW.out]; exact below_setB (Below.refl b W) hbp _ _
  exact h1.trans (below_setB (pw_below_drewN (Below.refl b w1) _) hbg _ _)

end Go.Proofs.Ytjfogghpiclooaa.Li
