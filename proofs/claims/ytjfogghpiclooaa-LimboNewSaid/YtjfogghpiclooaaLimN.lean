/- The walk of boscagelaw16.LimboNew. -/
import Derived.Test.YtjfogghpiclooaaLimW2
import Derived.Test.YtjfogghpiclooaaLimK
namespace Go.Proofs.Ytjfogghpiclooaa.Li
open Go.RowKit Go.Proofs.YtjfogghpiclooaaW.PrintWords Go.Proofs.YtjfogghpiclooaaW.PrintLast Go.Proofs.YtjfogghpiclooaaW.PrintMore
set_option linter.unusedVariables false
set_option linter.unusedSimpArgs false

set_option maxHeartbeats 1000000 in
theorem law_new (n i : Int) (W : World)
    (hN : (∃ q : Nat, n = q ∧ q ≤ 64) ∨ (n < 0 ∨ n > 64)) (hI : ∀ q : Nat, n = q → (∃ j : Nat, i = j ∧ j < q) ∨ decide (0 ≤ i ∧ i < (q : Int)) = false) :
    Calls Try.prog 6 #[.int .i64 n, .int .i64 i] W fun e w' => e = .returned (.bool true) ∧ Below W.heap.size W w' := by
  have HN := Aside0.mk hN
  have HII := Aside0.mk hI
  clear hN hI
  have HB0 := Aside0.mk (Below.refl W.heap.size W)
  go_enter Try.func6, Try.ntmps6
  go_upto_region 3 with (fail)
  obtain ⟨e, he⟩ : ∃ e, e = W.heap.size := ⟨_, rfl⟩
  obtain ⟨we, hwe⟩ : ∃ we, we = W.alloc (.cells #[.slice none 0 0, .int .i64 0, .bool false] 63) := ⟨_, rfl⟩
  rw [← hwe, ← he]
  have HM : Aside0 (Empty we e) := ⟨by rw [hwe, he]; exact heap_alloc_new _ _⟩
  have HB1 : Aside0 (Below W.heap.size W we) := ⟨by rw [hwe]; exact below_alloc (Below.refl _ _) _⟩
  have HE := Aside0.mk (Below.refl we.heap.size we)
  clear hwe he HB0
  go_upto_region 7 with (first
    | (go_at_call 21; (with_reducible refine (grab_off _ i 4 _ (off_nil _ i)).mono ?_); rintro x w1 ⟨rfl, ⟨k, rfl⟩⟩)
    | (go_at_call 21; (with_reducible refine (grab_off _ i 4 _ (off_empty _ e i (HM.out.below (by repeat (with_reducible first | exact HE.out | apply below_alloc | apply pw_below_drewN | apply below_drew1))))).mono ?_); rintro x w1 ⟨rfl, ⟨k, rfl⟩⟩)
    | (go_at_call 19; (with_reducible refine (push_off _ i 4 _ _ (off_nil _ i)).mono ?_); rintro x w1 ⟨rfl, ⟨k, rfl⟩⟩)
    | (go_at_call 19; (with_reducible refine (push_off _ i 4 _ _ (off_empty _ e i (HM.out.below (by repeat (with_reducible first | exact HE.out | apply below_alloc | apply pw_below_drewN | apply below_drew1))))).mono ?_); rintro x w1 ⟨rfl, ⟨k, rfl⟩⟩)
    | (go_at_call 22; (with_reducible refine (all_nil _).mono ?_); rintro x w1 ⟨rfl, ⟨k, rfl⟩⟩)
    | (go_at_call 22; (with_reducible refine (all_empty e _ (HM.out.below (by repeat (with_reducible first | exact HE.out | apply below_alloc | apply pw_below_drewN | apply below_drew1)))).mono ?_); rintro x w1 ⟨rfl, ⟨k, rfl⟩⟩)
    | (go_at_call 23; (with_reducible refine (steps_nil _).mono ?_); rintro x w1 ⟨rfl, ⟨k, rfl⟩⟩)
    | (go_at_call 23; (with_reducible refine (steps_empty e _ (HM.out.below (by repeat (with_reducible first | exact HE.out | apply below_alloc | apply pw_below_drewN | apply below_drew1)))).mono ?_); rintro x w1 ⟨rfl, ⟨k, rfl⟩⟩))
  generalize hz : we.drewN _ = wz
  have HBW : Aside0 (Below W.heap.size W wz) := ⟨hz ▸ pw_below_drewN HB1.out _⟩
  clear hz
  clear HB1 HE HM
  rcases HN.out with ⟨q, rfl, hq⟩ | hn
  · have d0 : decide ((q : Int) < 0) = false := decide_eq_false (by omega)
    have d1 : decide (64 < (q : Int)) = false := decide_eq_false (by omega)
    go_wp2_with (fail)
    refine (new_ok q _ hq).mono ?_
    rintro x w2 ⟨p, g, rfl, hi, hb, hp, hg⟩
    have HI := Aside0.mk hi
    have HB := Aside0.mk (below_step HBW.out hb)
    have HP := Aside0.mk (Nat.le_trans HBW.out.size hp)
    have HG := Aside0.mk (Nat.le_trans HBW.out.size hg)
    clear hi hb hp hg HBW HN
    rcases HII.out q rfl with ⟨j, rfl, hj⟩ | ho
    · have f0 : decide (0 ≤ (j : Int)) = true := decide_eq_true (by omega)
      have f1 : decide ((j : Int) < (q : Int)) = true := decide_eq_true (by omega)
      clear HII
      go_wp2_with (first
        | (go_at_call 22; (with_reducible refine (all_fresh p g q 0 _ (HI.out.drewN _) hq).mono ?_); rintro x w3 ⟨rfl, ⟨k, rfl⟩⟩)
        | (go_at_call 22; (with_reducible refine (all_fresh p g q 0 _ HI.out hq).mono ?_); rintro x w3 ⟨rfl, ⟨k, rfl⟩⟩)
        | (go_at_call 19; (with_reducible refine (push_fresh p g q j 0 _ (HI.out.drewN _) hq hj).mono ?_); rintro x w3 ⟨rfl, hk⟩; have HK := Aside0.mk ((pw_below_drewN HB.out _).trans (hk W.heap.size HP.out HG.out)); clear hk)
        | (go_at_call 15; (with_reducible refine (HSplit.works_true _).mono ?_); rintro x w4 ⟨rfl, hb⟩; have HW := Aside0.mk hb; clear hb))
      go_ret
      exact ⟨rfl, below_step HK.out HW.out⟩
    · have HO := Aside0.mk (show ¬ (0 ≤ i ∧ i < ((List.replicate q (Value.slice none 0 0)).length : Int)) by rw [List.length_replicate]; exact of_decide_eq_false ho)
      obtain ⟨b0, hb0⟩ : ∃ b, b = decide (0 ≤ i) := ⟨_, rfl⟩
      obtain ⟨b1, hb1⟩ : ∃ b, b = decide (i < (q : Int)) := ⟨_, rfl⟩
      have hbb : (b0 && b1) = false := by rw [hb0, hb1]; rw [← Bool.decide_and]; exact ho
      have f0 := hb0.symm
      have f1 := hb1.symm
      clear ho HII hb0 hb1
      have HF := Aside0.mk hbb
      clear hbb
      cases b0 with
      | false =>
        clear f1
        go_wp2_with (first
          | (go_at_call 22; (with_reducible refine (all_fresh p g q 0 _ HI.out hq).mono ?_); rintro x w3 ⟨rfl, ⟨k, rfl⟩⟩)
          | (go_at_call 19; (with_reducible refine (push_off _ i 2 _ _ (off_out _ p g _ 0 i (HI.out.drewN _) HO.out)).mono ?_); rintro x w3 ⟨rfl, ⟨k, rfl⟩⟩)
          | (go_at_call 15; (with_reducible refine (HSplit.works_true _).mono ?_); rintro x w4 ⟨rfl, hb⟩; have HW := Aside0.mk hb; clear hb))
        go_ret
        exact ⟨rfl, below_step (by repeat (with_reducible first | exact HB.out | apply below_alloc | apply pw_below_drewN | apply below_drew1)) HW.out⟩
      | true =>
        have f2 : decide (i < (q : Int)) = false := by rw [f1]; simpa using HF.out
        clear f1
        go_wp2_with (first
          | (go_at_call 22; (with_reducible refine (all_fresh p g q 0 _ HI.out hq).mono ?_); rintro x w3 ⟨rfl, ⟨k, rfl⟩⟩)
          | (go_at_call 19; (with_reducible refine (push_off _ i 2 _ _ (off_out _ p g _ 0 i (HI.out.drewN _) HO.out)).mono ?_); rintro x w3 ⟨rfl, ⟨k, rfl⟩⟩)
          | (go_at_call 15; (with_reducible refine (HSplit.works_true _).mono ?_); rintro x w4 ⟨rfl, hb⟩; have HW := Aside0.mk hb; clear hb))
        go_ret
        exact ⟨rfl, below_step (by repeat (with_reducible first | exact HB.out | apply below_alloc | apply pw_below_drewN | apply below_drew1)) HW.out⟩
  · have HNN := Aside0.mk hn
    obtain ⟨b0, hb0⟩ : ∃ b, b = decide (n < 0) := ⟨_, rfl⟩
    have d0 := hb0.symm
    have d1 : b0 = false → decide (64 < n) = true := fun h => by subst h; exact decide_eq_true (by have := of_decide_eq_false d0; omega)
    clear hn hb0 HN HII
    cases b0 with
    | true =>
      clear d1
      go_wp2_with (first
        | (go_at_call 17; (with_reducible refine (new_err n _ HNN.out).mono ?_); rintro x w2 ⟨rfl, ⟨k, rfl⟩⟩)
        | (go_at_call 15; (with_reducible refine (HSplit.works_true _).mono ?_); rintro x w4 ⟨rfl, hb⟩; have HW := Aside0.mk hb; clear hb))
      go_ret
      exact ⟨rfl, below_step (by repeat (with_reducible first | exact HBW.out | apply below_alloc | apply pw_below_drewN | apply below_drew1)) HW.out⟩
    | false =>
      have d2 := d1 rfl
      clear d1
      go_wp2_with (first
        | (go_at_call 17; (with_reducible refine (new_err n _ HNN.out).mono ?_); rintro x w2 ⟨rfl, ⟨k, rfl⟩⟩)
        | (go_at_call 15; (with_reducible refine (HSplit.works_true _).mono ?_); rintro x w4 ⟨rfl, hb⟩; have HW := Aside0.mk hb; clear hb))
      go_ret
      exact ⟨rfl, below_step (by repeat (with_reducible first | exact HBW.out | apply below_alloc | apply pw_below_drewN | apply below_drew1)) HW.out⟩

theorem LimboNew (n i : Int) (W : World) (hn : (Lit.int .i64 n).wf = true) (hi : (Lit.int .i64 i).wf = true) : Calls Try.prog 6 #[.int .i64 n, .int .i64 i] W fun e w' => e = .returned (.bool true) ∧ Below W.heap.size W w' := by
  refine law_new n i W ?_ ?_
  · by_cases h : 0 ≤ n ∧ n ≤ 64
    · exact Or.inl ⟨n.toNat, by omega, by omega⟩
    · exact Or.inr (by omega)
  · intro q hq
    by_cases h : 0 ≤ i ∧ i < (q : Int)
    · exact Or.inl ⟨i.toNat, by omega, by omega⟩
    · exact Or.inr (decide_eq_false h)

end Go.Proofs.Ytjfogghpiclooaa.Li
