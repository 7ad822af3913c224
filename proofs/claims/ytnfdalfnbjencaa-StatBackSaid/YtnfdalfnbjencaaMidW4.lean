/- The walk of the law StatMiddle. -/
import Derived.Test.YtnfdalfnbjencaaMidW3
namespace Go.Proofs.Ytnfdalfnbjencaa.Fw
open Go.RowKit Go.Proofs.Ytnfdalfnbjencaa.Fl Go.Proofs.YtnfdalfnbjencaaW.PrintWords Go.Proofs.YtnfdalfnbjencaaW.PrintMore
set_option linter.unusedVariables false
set_option linter.unusedSimpArgs false

theorem MidIs.lt {ys : List Nat} {m : Nat} (h : MidIs ys m) : m < full := h.1

set_option maxHeartbeats 8000000 in
set_option maxRecDepth 100000 in
theorem mid_walk (A : Option Addr) (n c : Nat) (p q : Int) (ys : List Nat) (w : World) (hy : ∀ x ∈ ys, x < full) (hl : ys.length ≤ 1000000)
    (HF : Aside0 (∀ W, Below w.heap.size w W → Calls Try.prog 31 #[.slice A n c] W fun e w' => ∃ A1 c1, e = .returned (.slice A1 ys.length c1) ∧ RF w' A1 ys ∧ Below W.heap.size W w')) :
    Calls Try.prog 9 #[.slice A n c, .int .i64 p, .int .i64 q] w fun e w' => e = .returned (.bool true) ∧ Below w.heap.size w w' := by
  have HY := Aside0.mk hy
  have HL := Aside0.mk hl
  clear hy hl
  go_enter Try.func9, Try.ntmps9
  go_wp2_with (fail)
  refine (HF.out _ (Below.refl _ _)).mono ?_
  rintro e w1 ⟨A1, c1, rfl, hf1, hb1⟩
  have HF1 := Aside0.mk hf1
  have HB1 := Aside0.mk hb1
  clear hf1 hb1
  go_wp2_with (fail)
  refine (middle_c A1 c1 ys _ HF1.out HY.out HL.out).mono ?_
  rintro e w2 ⟨m, rfl, hm, hb2⟩
  have HM := Aside0.mk hm
  have HB2 := Aside0.mk (below_step HB1.out hb2)
  clear hm hb2 HF1
  go_wp2_with (fail)
  refine (HF.out _ HB2.out).mono ?_
  rintro e w3 ⟨A2, c2, rfl, hf2, hb3⟩
  have HF2 := Aside0.mk hf2
  have HB3 := Aside0.mk (below_step HB2.out hb3)
  clear hf2 hb3 HF HB1 HB2
  go_wp2_with (fail)
  refine (rmiddle_c A2 c2 ys _ HF2.out HY.out HL.out).mono ?_
  rintro e w4 ⟨r, rfl, hr, hrr, ⟨n4, rfl⟩⟩
  have HS := Aside0.mk (mid_true ys HY.out m r HM.out hr hrr)
  have HR := Aside0.mk hr
  clear hr hrr HF2
  have HML := Aside0.mk HM.out.1
  rcases div_all Try.prog 23 (floatOfInt .f64 p) (floatOfInt .f64 q) with ⟨d, hd, hrun⟩ | ⟨hd, hrun⟩
  · have HD : Aside0 (Rep d (shareO p q)) := ⟨hd⟩
    clear hd
    go_wp2_with (first
      | (go_at_call 17; (with_reducible refine (rsame_c m r true _ HML.out HR.out HS.out).mono ?_); rintro e w5 ⟨rfl, ⟨n5, rfl⟩⟩)
      | (go_at_call 40; (with_reducible refine (share_c p q _).mono ?_); rintro e w6 ⟨s, rfl, hs, ⟨n6, rfl⟩⟩; have HSh := Aside0.mk hs; clear hs)
      | (go_at_call 17; (with_reducible refine (rsame_c s d true _ (rep_lt HSh.out) (rep_lt HD.out) (rep_same HSh.out HD.out)).mono ?_); rintro e w7 ⟨rfl, ⟨n7, rfl⟩⟩)
      | (go_at_call 32; (with_reducible refine (works41_c _).mono ?_); rintro e w8 ⟨rfl, hb⟩; have HB8 := Aside0.mk hb; clear hb))
    go_ret
    exact ⟨rfl, below_step HB3.out (below_step (by repeat (with_reducible first | exact Below.refl _ _ | apply pw_below_drewN | apply below_drew1)) HB8.out)⟩
  · have HD : Aside0 (shareO p q = none) := ⟨hd⟩
    clear hd
    go_wp2_with (first
      | (go_at_call 17; (with_reducible refine (rsame_c m r true _ HML.out HR.out HS.out).mono ?_); rintro e w5 ⟨rfl, ⟨n5, rfl⟩⟩)
      | (go_at_call 40; (with_reducible refine (share_c p q _).mono ?_); rintro e w6 ⟨s, rfl, hs, ⟨n6, rfl⟩⟩; have HSh := Aside0.mk hs; clear hs)
      | (go_at_call 17; (with_reducible refine (rsame_c s (nanv (floatOfInt .f64 p) (floatOfInt .f64 q) _) true _ (rep_lt HSh.out) (rep_lt (nanv_rep _ _ _)) (rep_same HSh.out (by rw [HD.out]; exact nanv_rep _ _ _))).mono ?_); rintro e w7 ⟨rfl, ⟨n7, rfl⟩⟩)
      | (go_at_call 32; (with_reducible refine (works41_c _).mono ?_); rintro e w8 ⟨rfl, hb⟩; have HB8 := Aside0.mk hb; clear hb))
    go_ret
    exact ⟨rfl, below_step HB3.out (below_step (by repeat (with_reducible first | exact Below.refl _ _ | apply pw_below_drewN | apply below_drew1)) HB8.out)⟩

theorem StatMiddle (a0 : Option Addr) (len0 cap0 : Nat) (z0 : List Int) (p q : Int) (w : World) (w0 : (a0 = none ∧ len0 = 0 ∧ cap0 = 0 ∧ z0 = []) ∨ ∃ x, a0 = some x ∧ len0 ≤ cap0 ∧ cap0 ≤ maxLen ∧ z0.length = cap0 ∧ (∀ i, i < z0.length → w.cell? (x.add i) = some (.int .u64 (z0.getD i 0))) ∧ ∀ n ∈ z0, (Lit.int .u64 n).wf = true) (wp : (Lit.int .i64 p).wf = true) (wq : (Lit.int .i64 q).wf = true) :
    Calls Try.prog 9 #[.slice a0 len0 cap0, .int .i64 p, .int .i64 q] w fun e w' => e = .returned (.bool true) ∧ Below w.heap.size w w' := by
  obtain ⟨l, rfl, hr, hm, hw, hc⟩ := ReadsInt.ofRowC w0
  exact mid_walk a0 l.length cap0 p q _ w (nat_lt l hw _) (by rw [List.length_map, List.length_take]; omega) ⟨fun W hb => few41_rf a0 cap0 l w (Kd.C_of_reads (d := (0 : Int)) (h1 := fun _ => rfl) hr) hc _ rfl W hb⟩

end Go.Proofs.Ytnfdalfnbjencaa.Fw
