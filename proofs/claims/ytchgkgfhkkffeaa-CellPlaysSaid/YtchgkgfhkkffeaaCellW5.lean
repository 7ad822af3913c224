/- The walks of works and of the law CellNew. -/
import Derived.Test.YtchgkgfhkkffeaaCellW4
namespace Go.Proofs.Ytchgkgfhkkffeaa.Ce
open Go.RowKit Go.Proofs.YtchgkgfhkkffeaaW.PrintWords Go.Proofs.YtchgkgfhkkffeaaW.PrintLast Go.Proofs.YtchgkgfhkkffeaaW.PrintMore
set_option linter.unusedVariables false
set_option linter.unusedSimpArgs false

theorem wf_i64 {n : Int} (h : (Lit.int .i64 n).wf = true) : -9223372036854775808 ≤ n ∧ n ≤ 9223372036854775807 := by
  simp only [Lit.wf, Bool.and_eq_true, decide_eq_true_eq] at h
  have e1 : IntKind.i64.min = -9223372036854775808 := by decide
  have e2 : IntKind.i64.max = 9223372036854775807 := by decide
  rw [e1, e2] at h
  exact h

set_option maxHeartbeats 2000000 in
set_option maxRecDepth 100000 in
theorem works_c (W : World) : Calls Try.prog 35 #[] W fun e w' => e = .returned (.bool true) ∧ Below W.heap.size W w' := by
  go_enter Try.func35, Try.ntmps35
  go_wp2_with (fail)
  refine (show Calls Try.prog 36 #[.int .i64 1] _ _ from new_ok 1 _ (by decide)).mono ?_
  rintro e w1 ⟨p, g, rfl, hi, hb, hp, hg⟩
  have HI := Aside0.mk hi
  have HB := Aside0.mk hb
  have HP := Aside0.mk hp
  have HG := Aside0.mk hg
  clear hi hb hp hg
  go_wp2_with (fail)
  refine (show Calls Try.prog 38 #[.pointer (some ⟨p, 0, none⟩), .int .i64 0, wv zero, wv (0, 1, 0)] _ _ from cas_eq p g [zero] 0 0 zero (0, 1, 0) _ HI.out rfl).mono ?_
  rintro e w2 ⟨rfl, hi, hk⟩
  have HI2 := Aside0.mk hi
  have HK := Aside0.mk hk
  clear hi hk HI
  go_wp2_with (fail)
  refine (show Calls Try.prog 38 #[.pointer (some ⟨p, 0, none⟩), .int .i64 0, wv zero, wv (0, 1, 0)] _ _ from cas_ne p g [(0, 1, 0)] (wrap64 (0 + 1)) 0 (0, 1, 0) zero (0, 1, 0) _ HI2.out rfl (by decide)).mono ?_
  rintro e w3 ⟨rfl, hi, hk⟩
  have HI3 := Aside0.mk hi
  have HK3 := Aside0.mk hk
  clear hi hk HI2
  go_wp2_with (fail)
  refine (count_made p g _ _ _ HI3.out).mono ?_
  rintro e w4 ⟨rfl, ⟨k, rfl⟩⟩
  have e2 : wrap64 (wrap64 (0 + 1) + 1) = 2 := by decide +kernel
  rw [e2]
  go_wp2
  go_ret
  exact ⟨rfl, pw_below_drewN (Kept.below (Kept.trans HK.out HK3.out) HB.out HP.out HG.out) _⟩

theorem rep_get (n j : Nat) (h : j < n) : (List.replicate n zero)[j]? = some zero := by
  rw [List.getElem?_replicate, if_pos h]

set_option maxHeartbeats 4000000 in
set_option maxRecDepth 100000 in
/-- CellNew up to the call of New. -/
theorem new_walk (n i : Int) (W : World)
    (hN : (∃ q : Nat, n = q ∧ q ≤ 200) ∨ (n < 0 ∨ n > 200)) (hI : ∀ q : Nat, n = q → (∃ j : Nat, i = j ∧ j < q) ∨ decide (0 ≤ i ∧ i < (q : Int)) = false) :
    Calls Try.prog 11 #[.int .i64 n, .int .i64 i] W fun e w' => e = .returned (.bool true) ∧ Below W.heap.size W w' := by
  have HN := Aside0.mk hN
  have HII := Aside0.mk hI
  clear hN hI
  have HB0 := Aside0.mk (Below.refl W.heap.size W)
  go_enter Try.func11, Try.ntmps11
  go_upto_region 3 with (fail)
  obtain ⟨e, he⟩ : ∃ e, e = W.heap.size := ⟨_, rfl⟩
  obtain ⟨we, hwe⟩ : ∃ we, we = W.alloc (.cells #[.slice none 0 0, .int .i64 0, .bool false] 69) := ⟨_, rfl⟩
  rw [← hwe, ← he]
  have HM : Aside0 (Empty we e) := ⟨by rw [hwe, he]; exact heap_alloc_new _ _⟩
  have HB1 : Aside0 (Below W.heap.size W we) := ⟨by rw [hwe]; exact below_alloc (Below.refl _ _) _⟩
  have HE := Aside0.mk (Below.refl we.heap.size we)
  clear hwe he HB0
  go_upto_region 8 with (first
    | (go_at_call 44; (with_reducible refine (load_off _ i 4 _ (off_nil _ i)).mono ?_); rintro x w1 ⟨rfl, hb⟩; have nH := Aside0.mk (below_step (by repeat (with_reducible first | exact HE.out | apply below_alloc | apply pw_below_drewN | apply below_drew1)) hb); clear hb HE; have HE := nH; clear nH)
    | (go_at_call 38; (with_reducible refine (cas_off _ i 4 zero (0, 1, 0) _ (off_empty _ e i (HM.out.below (by repeat (with_reducible first | exact HE.out | apply below_alloc | apply pw_below_drewN | apply below_drew1))))).mono ?_); rintro x w1 ⟨rfl, hb⟩; have nH := Aside0.mk (below_step (by repeat (with_reducible first | exact HE.out | apply below_alloc | apply pw_below_drewN | apply below_drew1)) hb); clear hb HE; have HE := nH; clear nH)
    | (go_at_call 45; (with_reducible refine (swap_off _ i 4 (0, 1, 0) _ (off_nil _ i)).mono ?_); rintro x w1 ⟨rfl, hb⟩; have nH := Aside0.mk (below_step (by repeat (with_reducible first | exact HE.out | apply below_alloc | apply pw_below_drewN | apply below_drew1)) hb); clear hb HE; have HE := nH; clear nH)
    | (go_at_call 37; (with_reducible refine (store_off _ i 4 zero _ (off_empty _ e i (HM.out.below (by repeat (with_reducible first | exact HE.out | apply below_alloc | apply pw_below_drewN | apply below_drew1))))).mono ?_); rintro x w1 ⟨rfl, hb⟩; have nH := Aside0.mk (below_step (by repeat (with_reducible first | exact HE.out | apply below_alloc | apply pw_below_drewN | apply below_drew1)) hb); clear hb HE; have HE := nH; clear nH)
    | (go_at_call 43; (with_reducible refine (count_nil _).mono ?_); rintro x w1 ⟨rfl, ⟨k, rfl⟩⟩)
    | (go_at_call 43; (with_reducible refine (count_empty e _ (HM.out.below (by repeat (with_reducible first | exact HE.out | apply below_alloc | apply pw_below_drewN | apply below_drew1)))).mono ?_); rintro x w1 ⟨rfl, ⟨k, rfl⟩⟩)
    | (go_at_call 39; (with_reducible refine (peek_nil i _).mono ?_); rintro x w1 ⟨rfl, hb⟩; have nH := Aside0.mk (below_step (by repeat (with_reducible first | exact HE.out | apply below_alloc | apply pw_below_drewN | apply below_drew1)) hb); clear hb HE; have HE := nH; clear nH)
    | (go_at_call 39; (with_reducible refine (peek_empty e i _ (HM.out.below (by repeat (with_reducible first | exact HE.out | apply below_alloc | apply pw_below_drewN | apply below_drew1)))).mono ?_); rintro x w1 ⟨rfl, hb⟩; have nH := Aside0.mk (below_step (by repeat (with_reducible first | exact HE.out | apply below_alloc | apply pw_below_drewN | apply below_drew1)) hb); clear hb HE; have HE := nH; clear nH))
  have HBW := Aside0.mk (below_step HB1.out HE.out)
  clear HB1 HE HM
  rcases HN.out with ⟨q, rfl, hq⟩ | hn
  · have d0 : decide ((q : Int) < 0) = false := decide_eq_false (by omega)
    have d1 : decide (200 < (q : Int)) = false := decide_eq_false (by omega)
    go_wp2_with (fail)
    refine (new_ok q _ hq).mono ?_
    rintro x w2 ⟨p, g, rfl, hi, hb, hp, hg⟩
    have HI := Aside0.mk hi
    have HB := Aside0.mk (below_step HBW.out hb)
    have HP := Aside0.mk (Nat.le_trans HBW.out.size hp)
    have HG := Aside0.mk (Nat.le_trans HBW.out.size hg)
    clear hi hb hp hg HBW hq HN
    rcases HII.out q rfl with ⟨j, rfl, hj⟩ | ho
    · have HJ := Aside0.mk (rep_get q j hj)
      have f0 : decide (0 ≤ (j : Int)) = true := decide_eq_true (by omega)
      have f1 : decide ((j : Int) < (q : Int)) = true := decide_eq_true (by omega)
      clear HII
      have heq := eql47 zero zero true (by decide)
      go_wp2_with (first
        | (go_at_call 44; (with_reducible refine (load_in p g _ 0 j zero _ HI.out HJ.out).mono ?_); rintro x w3 ⟨rfl, hi, hk⟩; have HK := Aside0.mk (Kept.below hk HB.out HP.out HG.out); clear hi hk)
        | (go_at_call 35; (with_reducible refine (works_c _).mono ?_); rintro x w4 ⟨rfl, hb⟩; have HW := Aside0.mk hb; clear hb))
      go_ret
      exact ⟨rfl, below_step (by repeat (with_reducible first | exact HK.out | apply below_alloc | apply pw_below_drewN | apply below_drew1)) HW.out⟩
    · have HO := Aside0.mk (show decide (0 ≤ i ∧ i < ((List.replicate q zero).length : Int)) = false by rw [List.length_replicate]; exact ho)
      obtain ⟨b0, hb0⟩ : ∃ b, b = decide (0 ≤ i) := ⟨_, rfl⟩
      obtain ⟨b1, hb1⟩ : ∃ b, b = decide (i < (q : Int)) := ⟨_, rfl⟩
      have hbb : (b0 && b1) = false := by rw [hb0, hb1]; rw [← Bool.decide_and]; exact ho
      have f0 := hb0.symm
      have f1 := hb1.symm
      clear ho HII hb0 hb1
      have heq := eql47 zero zero true (by decide)
      have HF := Aside0.mk hbb
      clear hbb
      cases b0 with
      | false =>
        clear f1
        go_wp2_with (first
          | (go_at_call 44; (with_reducible refine (load_off _ i 2 _ (off_out _ p g _ 0 i HI.out HO.out)).mono ?_); rintro x w3 ⟨rfl, hb⟩; have HK := Aside0.mk (below_step HB.out hb); clear hb)
          | (go_at_call 35; (with_reducible refine (works_c _).mono ?_); rintro x w4 ⟨rfl, hb⟩; have HW := Aside0.mk hb; clear hb))
        go_ret
        exact ⟨rfl, below_step (by repeat (with_reducible first | exact HK.out | apply below_alloc | apply pw_below_drewN | apply below_drew1)) HW.out⟩
      | true =>
        have f2 : decide (i < (q : Int)) = false := by rw [f1]; simpa using HF.out
        clear f1
        go_wp2_with (first
          | (go_at_call 44; (with_reducible refine (load_off _ i 2 _ (off_out _ p g _ 0 i HI.out HO.out)).mono ?_); rintro x w3 ⟨rfl, hb⟩; have HK := Aside0.mk (below_step HB.out hb); clear hb)
          | (go_at_call 35; (with_reducible refine (works_c _).mono ?_); rintro x w4 ⟨rfl, hb⟩; have HW := Aside0.mk hb; clear hb))
        go_ret
        exact ⟨rfl, below_step (by repeat (with_reducible first | exact HK.out | apply below_alloc | apply pw_below_drewN | apply below_drew1)) HW.out⟩
  · have HNN := Aside0.mk hn
    obtain ⟨b0, hb0⟩ : ∃ b, b = decide (n < 0) := ⟨_, rfl⟩
    have d0 := hb0.symm
    have d1 : b0 = false → decide (200 < n) = true := fun h => by subst h; exact decide_eq_true (by have := of_decide_eq_false d0; omega)
    clear hn hb0 HN HII
    cases b0 with
    | true =>
      clear d1
      go_wp2_with (first
        | (go_at_call 36; (with_reducible refine (new_err n _ HNN.out).mono ?_); rintro x w2 ⟨rfl, ⟨k, rfl⟩⟩)
        | (go_at_call 35; (with_reducible refine (works_c _).mono ?_); rintro x w4 ⟨rfl, hb⟩; have HW := Aside0.mk hb; clear hb))
      go_ret
      exact ⟨rfl, below_step (by repeat (with_reducible first | exact HBW.out | apply below_alloc | apply pw_below_drewN | apply below_drew1)) HW.out⟩
    | false =>
      have d2 := d1 rfl
      clear d1
      go_wp2_with (first
        | (go_at_call 36; (with_reducible refine (new_err n _ HNN.out).mono ?_); rintro x w2 ⟨rfl, ⟨k, rfl⟩⟩)
        | (go_at_call 35; (with_reducible refine (works_c _).mono ?_); rintro x w4 ⟨rfl, hb⟩; have HW := Aside0.mk hb; clear hb))
      go_ret
      exact ⟨rfl, below_step (by repeat (with_reducible first | exact HBW.out | apply below_alloc | apply pw_below_drewN | apply below_drew1)) HW.out⟩

theorem CellNew (n i : Int) (W : World) (wn : (Lit.int .i64 n).wf = true) (wi : (Lit.int .i64 i).wf = true) :
    Calls Try.prog 11 #[.int .i64 n, .int .i64 i] W fun e w' => e = .returned (.bool true) ∧ Below W.heap.size W w' := by
  refine new_walk n i W ?_ ?_
  · by_cases h : n < 0 ∨ n > 200
    · exact .inr h
    · exact .inl ⟨n.toNat, by omega, by omega⟩
  · intro q _
    by_cases h : 0 ≤ i ∧ i < (q : Int)
    · exact .inl ⟨i.toNat, by omega, by omega⟩
    · exact .inr (decide_eq_false h)

end Go.Proofs.Ytchgkgfhkkffeaa.Ce
