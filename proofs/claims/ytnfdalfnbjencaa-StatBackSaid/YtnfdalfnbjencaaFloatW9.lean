/- The walk of the law FloatBest. -/
import Derived.Test.YtnfdalfnbjencaaFloatW8
namespace Go.Proofs.Ytnfdalfnbjencaa.Fw
open Go.RowKit Go.Proofs.Ytnfdalfnbjencaa.Fl Go.Proofs.YtnfdalfnbjencaaW.PrintWords Go.Proofs.YtnfdalfnbjencaaW.PrintMore
set_option linter.unusedVariables false
set_option linter.unusedSimpArgs false

theorem least_lt (l : List Nat) (hl : ∀ x ∈ l, x < full) : least l < full := best_lt _ _ (by decide) l hl
theorem most_lt (l : List Nat) (hl : ∀ x ∈ l, x < full) : most l < full := best_lt _ _ (by decide) l hl

theorem few_rf (A : Option Addr) (c : Nat) (l : List Int) (w : World) (hr : Kd.C (Kd.int .u64) w A l.length l) (hc : l.length ≤ c) (ys : List Nat) (hy : ys = (l.take (min l.length 200)).map Int.toNat) (W : World) (hb : Below w.heap.size w W) :
    Calls Try.prog 19 #[.slice A l.length c] W fun e w' => ∃ A1 c1, e = .returned (.slice A1 ys.length c1) ∧ RF w' A1 ys ∧ Below W.heap.size W w' :=
  (few_c A c l W (Kd.C_below hr hb) hc _ rfl).mono fun e w' ⟨v, h1, h2, h3⟩ => by
    rw [← hy] at h2
    obtain ⟨A1, c1, hv, _, hf⟩ := RF.of_R h2
    exact ⟨A1, c1, by rw [h1, hv], hf, h3⟩

set_option maxHeartbeats 4000000 in
set_option maxRecDepth 100000 in
theorem best_walk (A : Option Addr) (n c : Nat) (ys : List Nat) (w : World) (hy : ∀ x ∈ ys, x < full)
    (HF : Aside0 (∀ W, Below w.heap.size w W → Calls Try.prog 19 #[.slice A n c] W fun e w' => ∃ A1 c1, e = .returned (.slice A1 ys.length c1) ∧ RF w' A1 ys ∧ Below W.heap.size W w')) :
    Calls Try.prog 4 #[.slice A n c] w fun e w' => e = .returned (.bool true) ∧ Below w.heap.size w w' := by
  have HY := Aside0.mk hy
  have HL := Aside0.mk (least_lt ys hy)
  have HM := Aside0.mk (most_lt ys hy)
  clear hy
  go_enter Try.func4, Try.ntmps4
  go_wp2_with (fail)
  refine (HF.out _ (Below.refl _ _)).mono ?_
  rintro e w1 ⟨A1, c1, rfl, hf1, hb1⟩
  have HF1 := Aside0.mk hf1
  have HB1 := Aside0.mk hb1
  clear hf1 hb1
  go_wp2_with (fail)
  refine (HF.out _ HB1.out).mono ?_
  rintro e w2 ⟨A2, c2, rfl, hf2, hb2⟩
  have HF2 := Aside0.mk hf2
  have HB := Aside0.mk (below_step HB1.out hb2)
  replace HF1 := Aside0.mk (HF1.out.below hb2)
  clear hf2 hb2 HB1 HF
  go_wp2_with (first
    | (go_at_call 20; (with_reducible refine (least_c A1 c1 ys _ ?hr HY.out).mono ?_); (case hr => first | exact HF1.out | exact HF1.out.drewN _); rintro e w3 ⟨rfl, ⟨n1, rfl⟩⟩)
    | (go_at_call 21; (with_reducible refine (rleast_c A2 c2 ys _ ?hr HY.out).mono ?_); (case hr => first | exact HF2.out | exact HF2.out.drewN _); rintro e w3 ⟨rfl, ⟨n2, rfl⟩⟩)
    | (go_at_call 17; (with_reducible refine (rsame_c (least ys) (least ys) true _ HL.out HL.out (same_refl _ HL.out)).mono ?_); rintro e w3 ⟨rfl, ⟨n3, rfl⟩⟩)
    | (go_at_call 22; (with_reducible refine (most_c A1 c1 ys _ ?hr HY.out).mono ?_); (case hr => first | exact HF1.out | exact HF1.out.drewN _); rintro e w3 ⟨rfl, ⟨n4, rfl⟩⟩)
    | (go_at_call 23; (with_reducible refine (rmost_c A2 c2 ys _ ?hr HY.out).mono ?_); (case hr => first | exact HF2.out | exact HF2.out.drewN _); rintro e w3 ⟨rfl, ⟨n5, rfl⟩⟩)
    | (go_at_call 17; (with_reducible refine (rsame_c (most ys) (most ys) true _ HM.out HM.out (same_refl _ HM.out)).mono ?_); rintro e w3 ⟨rfl, ⟨n6, rfl⟩⟩)
    | (go_at_call 24; (with_reducible refine (sum_c A1 c1 ys _ ?hr HY.out).mono ?_); (case hr => first | exact HF1.out | exact HF1.out.drewN _); rintro e w3 ⟨s1, rfl, hs1, ⟨n7, rfl⟩⟩; have HS1 := Aside0.mk hs1; clear hs1)
    | (go_at_call 25; (with_reducible refine (rsum_c A2 c2 ys _ ?hr HY.out).mono ?_); (case hr => first | exact HF2.out | exact HF2.out.drewN _); rintro e w3 ⟨s2, rfl, hs2, ⟨n8, rfl⟩⟩; have HS2 := Aside0.mk hs2; clear hs2)
    | (go_at_call 17; (with_reducible refine (rsame_c s1 s2 true _ (rep_lt HS1.out) (rep_lt HS2.out) (rep_same HS1.out HS2.out)).mono ?_); rintro e w3 ⟨rfl, ⟨n9, rfl⟩⟩)
    | (go_at_call 26; (with_reducible refine (mean_c A1 c1 ys _ ?hr HY.out).mono ?_); (case hr => first | exact HF1.out | exact HF1.out.drewN _); rintro e w3 ⟨m1, rfl, hm1, ⟨n10, rfl⟩⟩; have HM1 := Aside0.mk hm1; clear hm1)
    | (go_at_call 27; (with_reducible refine (rmean_c A2 c2 ys _ ?hr HY.out).mono ?_); (case hr => first | exact HF2.out | exact HF2.out.drewN _); rintro e w3 ⟨m2, rfl, hm2, ⟨n11, rfl⟩⟩; have HM2 := Aside0.mk hm2; clear hm2)
    | (go_at_call 17; (with_reducible refine (rsame_c m1 m2 true _ (rep_lt HM1.out) (rep_lt HM2.out) (rep_same HM1.out HM2.out)).mono ?_); rintro e w3 ⟨rfl, ⟨n12, rfl⟩⟩)
    | (go_at_call 18; (with_reducible refine (works_c _).mono ?_); rintro e w4 ⟨rfl, hb⟩; have HB4 := Aside0.mk hb; clear hb))
  go_ret
  exact ⟨rfl, below_step (by repeat (first | exact HB.out | apply pw_below_drewN)) HB4.out⟩

theorem nat_lt (l : List Int) (h : ∀ x ∈ l, (Lit.int .u64 x).wf = true) (m : Nat) : ∀ x ∈ (l.take m).map Int.toNat, x < full := by
  intro x hx
  obtain ⟨z, hz, rfl⟩ := List.mem_map.1 hx
  obtain ⟨b, rfl, hb⟩ := wf_u64 (h z (List.mem_of_mem_take hz))
  simpa using hb

theorem FloatBest (a0 : Option Addr) (len0 cap0 : Nat) (z0 : List Int) (w : World) (w0 : (a0 = none ∧ len0 = 0 ∧ cap0 = 0 ∧ z0 = []) ∨ ∃ x, a0 = some x ∧ len0 ≤ cap0 ∧ cap0 ≤ maxLen ∧ z0.length = cap0 ∧ (∀ i, i < z0.length → w.cell? (x.add i) = some (.int .u64 (z0.getD i 0))) ∧ ∀ n ∈ z0, (Lit.int .u64 n).wf = true) :
    Calls Try.prog 4 #[.slice a0 len0 cap0] w fun e w' => e = .returned (.bool true) ∧ Below w.heap.size w w' := by
  obtain ⟨l, rfl, hr, hm, hw, hc⟩ := ReadsInt.ofRowC w0
  exact best_walk a0 l.length cap0 _ w (nat_lt l hw _) ⟨fun W hb => few_rf a0 cap0 l w (Kd.C_of_reads (d := (0 : Int)) (h1 := fun _ => rfl) hr) hc _ rfl W hb⟩

end Go.Proofs.Ytnfdalfnbjencaa.Fw
