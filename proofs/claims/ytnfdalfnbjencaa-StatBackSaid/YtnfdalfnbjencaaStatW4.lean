/- The walk of the law StatOf. -/
import Derived.Test.YtnfdalfnbjencaaStatW3
namespace Go.Proofs.Ytnfdalfnbjencaa.Fw
open Go.RowKit Go.Proofs.Ytnfdalfnbjencaa.Fl Go.Proofs.YtnfdalfnbjencaaW.PrintWords Go.Proofs.YtnfdalfnbjencaaW.PrintMore
attribute [local go_sem ↓] Go.wp_at_zero Go.wp_at_succ
set_option linter.unusedVariables false
set_option linter.unusedSimpArgs false

/-- All that lay in a world still lies. -/
structure Held (W w' : World) : Prop where mk :: (out : Below W.heap.size W w')
theorem Held.refl (W : World) : Held W W := ⟨Below.refl _ _⟩
theorem Held.drewN {W w' : World} (h : Held W w') (n : Nat) : Held W (w'.drewN n) := ⟨pw_below_drewN h.out n⟩
theorem Held.drew {W w' : World} (h : Held W w') : Held W w'.drew := ⟨below_drew1 h.out⟩
theorem Held.below {W w' w2 : World} (h : Held W w') (hb : Below w'.heap.size w' w2) : Held W w2 := ⟨below_step h.out hb⟩

set_option maxHeartbeats 8000000 in
set_option maxRecDepth 100000 in
theorem of_walk (A : Option Addr) (n c : Nat) (ys : List Nat) (w : World) (hy : ∀ x ∈ ys, x < full)
    (HF : Aside0 (∀ W, Below w.heap.size w W → Calls Try.prog 31 #[.slice A n c] W fun e w' => ∃ A1 c1, e = .returned (.slice A1 ys.length c1) ∧ RF w' A1 ys ∧ Below W.heap.size W w')) :
    Calls Try.prog 6 #[.slice A n c] w fun e w' => e = .returned (.bool true) ∧ Below w.heap.size w w' := by
  have HY := Aside0.mk hy
  have HL := Aside0.mk (least_lt ys hy)
  have HM := Aside0.mk (most_lt ys hy)
  clear hy
  go_enter Try.func6, Try.ntmps6
  go_wp2_with (fail)
  refine (HF.out _ (Below.refl _ _)).mono ?_
  rintro e w1 ⟨A1, c1, rfl, hf1, hb1⟩
  have HF1 := Aside0.mk hf1
  have HB1 := Aside0.mk hb1
  clear hf1 hb1
  go_wp2_with (fail)
  refine (of_c A1 c1 ys _ HF1.out HY.out).mono ?_
  rintro e w2 ⟨v, rfl, ⟨s, m, d, rfl, hs, hm, hd⟩, hb2⟩
  have HS := Aside0.mk hs
  have HMe := Aside0.mk hm
  have HD := Aside0.mk hd
  have HB2 := Aside0.mk (below_step HB1.out hb2)
  clear hs hm hd hb2 HF1
  go_wp2_with (fail)
  refine (HF.out _ HB2.out).mono ?_
  rintro e w3 ⟨A2, c2, rfl, hf2, hb3⟩
  have HB3 := Aside0.mk (below_step HB2.out hb3)
  have HF2 := Aside0.mk (fun o => hf2.below (below_alloc (Below.refl w3.heap.size w3) o))
  clear hf2 hb3 HF HB1 HB2
  have hlen : (ys.length : Int) ≤ 9223372036854775807 := (HF2.out (.cells #[] 0)).len
  go_wp2_with (first
    | (go_at_call 21; (with_reducible refine (rleast_c A2 c2 ys _ ?hr HY.out).mono ?_); (case hr => first | exact HF2.out _ | exact (HF2.out _).drewN _); rintro e w4 ⟨rfl, ⟨n2, rfl⟩⟩)
    | (go_at_call 23; (with_reducible refine (rmost_c A2 c2 ys _ ?hr HY.out).mono ?_); (case hr => first | exact HF2.out _ | exact (HF2.out _).drewN _); rintro e w4 ⟨rfl, ⟨n5, rfl⟩⟩))
  obtain ⟨W4, hW4⟩ : ∃ W4, W4 = ((w3.alloc (.cells #[.int .i64 ys.length, .float .f64 s, .float .f64 m, .float .f64 (least ys), .float .f64 (most ys), .float .f64 d] 39)).drewN (n2 + n5)) := ⟨_, rfl⟩
  rw [← hW4]
  obtain ⟨g, hg⟩ : ∃ g, g = w3.heap.size := ⟨_, rfl⟩
  rw [← hg]
  have hall : ∀ w', Held W4 w' → (w'.cell? ⟨g, 0, none⟩ = some (.int .i64 ys.length) ∧ w'.cell? ⟨g, 1, none⟩ = some (.float .f64 s) ∧ w'.cell? ⟨g, 2, none⟩ = some (.float .f64 m) ∧ w'.cell? ⟨g, 3, none⟩ = some (.float .f64 (least ys)) ∧ w'.cell? ⟨g, 4, none⟩ = some (.float .f64 (most ys)) ∧ w'.cell? ⟨g, 5, none⟩ = some (.float .f64 d) ∧ Held W4 w') := by
    intro w' hh
    have hlt : g < W4.heap.size := by rw [hW4, hg]; simp
    refine ⟨?_, ?_, ?_, ?_, ?_, ?_, hh⟩
    all_goals
      refine (hh.out.cell (p := ⟨g, _, none⟩) hlt).trans ?_
      rw [hW4, hg]
      go_simp
  have hrf : RF W4 A2 ys := by rw [hW4]; exact (HF2.out _).drewN _
  have HB4 : Aside0 (Below w.heap.size w W4) := ⟨by rw [hW4]; exact pw_below_drewN (below_alloc HB3.out _) _⟩
  have Hall := Aside0.mk hall
  have HR := Aside0.mk hrf
  clear hrf hall hW4 hg HF2 HB3
  rcases sub_all Try.prog 23 (most ys) (least ys) with ⟨d2, hd2, hrun⟩ | ⟨hd2, hrun⟩
  · have HD2 := Aside0.mk hd2
    clear hd2
    obtain ⟨h0, h1, h2, h3, h4, h5, hheld⟩ := Hall.out W4 (Held.refl W4)
    go_region_held3 (fun w' => w'.cell? ⟨g, 0, none⟩ = some (.int .i64 ys.length) ∧ w'.cell? ⟨g, 1, none⟩ = some (.float .f64 s) ∧ w'.cell? ⟨g, 2, none⟩ = some (.float .f64 m) ∧ w'.cell? ⟨g, 3, none⟩ = some (.float .f64 (least ys)) ∧ w'.cell? ⟨g, 4, none⟩ = some (.float .f64 (most ys)) ∧ w'.cell? ⟨g, 5, none⟩ = some (.float .f64 d) ∧ Held W4 w')
      ((go_split_ands; first | exact Hall.out _ (by assumption) | exact Hall.out _ (Held.drewN (by assumption) _) | exact Hall.out _ (Held.drew (by assumption)) | exact Hall.out _ (Held.below (by assumption) (by assumption))))
      (first
        | (go_at_call 25; go_split_ands; (with_reducible refine (rsum_c A2 c2 ys _ ?hr HY.out).mono ?_); (case hr => exact (HR.out.below (Held.out (by assumption)))); rintro e w4 ⟨s2, rfl, hs2, ⟨n8, rfl⟩⟩; have HS2 := Aside0.mk hs2; clear hs2)
        | (go_at_call 27; go_split_ands; (with_reducible refine (rmean_c A2 c2 ys _ ?hr HY.out).mono ?_); (case hr => exact (HR.out.below (Held.out (by assumption)))); rintro e w4 ⟨m2, rfl, hm2, ⟨n11, rfl⟩⟩; have HM2 := Aside0.mk hm2; clear hm2)
        | (go_at_call 17; (with_reducible refine (rsame_c s s2 true _ (rep_lt HS.out) (rep_lt HS2.out) (rep_same HS.out HS2.out)).mono ?_); rintro e w4 ⟨rfl, ⟨n9, rfl⟩⟩)
        | (go_at_call 17; (with_reducible refine (rsame_c m m2 true _ (rep_lt HMe.out) (rep_lt HM2.out) (rep_same HMe.out HM2.out)).mono ?_); rintro e w4 ⟨rfl, ⟨n12, rfl⟩⟩)
        | (go_at_call 17; (with_reducible refine (rsame_c (least ys) (least ys) true _ HL.out HL.out (same_refl _ HL.out)).mono ?_); rintro e w4 ⟨rfl, ⟨n13, rfl⟩⟩)
        | (go_at_call 17; (with_reducible refine (rsame_c (most ys) (most ys) true _ HM.out HM.out (same_refl _ HM.out)).mono ?_); rintro e w4 ⟨rfl, ⟨n14, rfl⟩⟩)
        | (go_at_call 17; (with_reducible refine (rsame_c d d2 true _ (rep_lt HD.out) (rep_lt HD2.out) (rep_same HD.out HD2.out)).mono ?_); rintro e w4 ⟨rfl, ⟨n15, rfl⟩⟩)
        | (go_at_call 32; (with_reducible refine (works41_c _).mono ?_); rintro e w4 ⟨rfl, hb⟩))
    go_wp2
    go_ret
    go_split_ands
    exact ⟨rfl, below_step HB4.out (Held.out (by assumption))⟩
  · rw [hd2] at HD
    clear hd2
    obtain ⟨h0, h1, h2, h3, h4, h5, hheld⟩ := Hall.out W4 (Held.refl W4)
    clear hheld Hall
    have hRF : ∀ W, Held W4 W → RF W A2 ys := fun W h => HR.out.below h.out
    have HRF := Aside0.mk hRF
    clear hRF HR
    go_region_with (first
        | (go_at_call 25; (with_reducible refine (rsum_c A2 c2 ys _ ?hr HY.out).mono ?_); (case hr => exact HRF.out _ (by repeat (with_reducible first | exact Held.refl _ | apply Held.drewN | apply Held.drew))); rintro e w4 ⟨s2, rfl, hs2, ⟨n8, rfl⟩⟩; have HS2 := Aside0.mk hs2; clear hs2)
        | (go_at_call 27; (with_reducible refine (rmean_c A2 c2 ys _ ?hr HY.out).mono ?_); (case hr => exact HRF.out _ (by repeat (with_reducible first | exact Held.refl _ | apply Held.drewN | apply Held.drew))); rintro e w4 ⟨m2, rfl, hm2, ⟨n11, rfl⟩⟩; have HM2 := Aside0.mk hm2; clear hm2)
        | (go_at_call 17; (with_reducible refine (rsame_c s s2 true _ (rep_lt HS.out) (rep_lt HS2.out) (rep_same HS.out HS2.out)).mono ?_); rintro e w4 ⟨rfl, ⟨n9, rfl⟩⟩)
        | (go_at_call 17; (with_reducible refine (rsame_c m m2 true _ (rep_lt HMe.out) (rep_lt HM2.out) (rep_same HMe.out HM2.out)).mono ?_); rintro e w4 ⟨rfl, ⟨n12, rfl⟩⟩)
        | (go_at_call 17; (with_reducible refine (rsame_c (least ys) (least ys) true _ HL.out HL.out (same_refl _ HL.out)).mono ?_); rintro e w4 ⟨rfl, ⟨n13, rfl⟩⟩)
        | (go_at_call 17; (with_reducible refine (rsame_c (most ys) (most ys) true _ HM.out HM.out (same_refl _ HM.out)).mono ?_); rintro e w4 ⟨rfl, ⟨n14, rfl⟩⟩)
        | (go_at_call 17; (with_reducible refine (rsame_c d (nanv (most ys) (least ys) _) true _ (rep_lt HD.out) (rep_lt (nanv_rep _ _ _)) (rep_same HD.out (nanv_rep _ _ _))).mono ?_); rintro e w4 ⟨rfl, ⟨n15, rfl⟩⟩)
        | (go_at_call 32; (with_reducible refine (works41_c _).mono ?_); rintro e w4 ⟨rfl, hb⟩))
    all_goals
      go_wp2
      go_ret
      exact ⟨rfl, below_step HB4.out (below_step (by repeat (with_reducible first | exact Below.refl _ _ | apply pw_below_drewN | apply below_drew1)) hb)⟩

theorem StatOf (a0 : Option Addr) (len0 cap0 : Nat) (z0 : List Int) (w : World) (w0 : (a0 = none ∧ len0 = 0 ∧ cap0 = 0 ∧ z0 = []) ∨ ∃ x, a0 = some x ∧ len0 ≤ cap0 ∧ cap0 ≤ maxLen ∧ z0.length = cap0 ∧ (∀ i, i < z0.length → w.cell? (x.add i) = some (.int .u64 (z0.getD i 0))) ∧ ∀ n ∈ z0, (Lit.int .u64 n).wf = true) :
    Calls Try.prog 6 #[.slice a0 len0 cap0] w fun e w' => e = .returned (.bool true) ∧ Below w.heap.size w w' := by
  obtain ⟨l, rfl, hr, hm, hw, hc⟩ := ReadsInt.ofRowC w0
  exact of_walk a0 l.length cap0 _ w (nat_lt l hw _) ⟨fun W hb => few41_rf a0 cap0 l w (Kd.C_of_reads (d := (0 : Int)) (h1 := fun _ => rfl) hr) hc _ rfl W hb⟩

end Go.Proofs.Ytnfdalfnbjencaa.Fw
