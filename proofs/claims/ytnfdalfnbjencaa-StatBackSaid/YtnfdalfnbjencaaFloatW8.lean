/- The walks of the laws FloatUnranks, FloatBack, FloatBest. -/
import Derived.Test.YtnfdalfnbjencaaFloatW7
namespace Go.Proofs.Ytnfdalfnbjencaa.Fw
open Go.RowKit Go.Proofs.Ytnfdalfnbjencaa.Fl Go.Proofs.YtnfdalfnbjencaaW.PrintWords Go.Proofs.YtnfdalfnbjencaaW.PrintMore
set_option linter.unusedVariables false
set_option linter.unusedSimpArgs false

set_option maxHeartbeats 2000000 in
set_option maxRecDepth 100000 in
theorem FloatUnranks (a : Int) (w : World) (wa : (Lit.int .u64 a).wf = true) :
    Calls Try.prog 5 #[.int .u64 a] w fun e w' => e = .returned (.bool true) ∧ Below w.heap.size w w' := by
  obtain ⟨n, rfl, hn⟩ := wf_u64 wa
  clear wa
  obtain ⟨f, is, hu⟩ : ∃ f is, unrank n = (f, is) := ⟨_, _, rfl⟩
  have hf : f < full := by have := unrank_lt n hn; rw [hu] at this; exact this
  obtain ⟨g, hs, hg, _⟩ := refUnrank_c n f is w hn hu
  have HU := Aside0.mk hu
  have HC : Aside0 (∀ m, ∃ g, same f g = true ∧ g < full ∧ Calls Try.prog 29 #[.int .u64 (n : Int)] (w.drewN m) fun e w' => e = .returned (.tuple #[.float .f64 g, .bool is]) ∧ Drawn0 (w.drewN m) w') := ⟨fun m => refUnrank_c n f is _ hn hu⟩
  clear hu hs hg
  go_enter Try.func5, Try.ntmps5
  go_wp2_with (first
    | (go_at_call 28; (with_reducible refine (unrank_c n f is _ hn HU.out).mono ?_); rintro e w1 ⟨rfl, ⟨n1, rfl⟩⟩; obtain ⟨g, hs, hg, hc⟩ := HC.out n1; have HS := Aside0.mk hs; have HG := Aside0.mk hc; clear hs hc)
    | (go_at_call 29; (with_reducible refine HG.out.mono ?_); rintro e w1 ⟨rfl, ⟨n2, rfl⟩⟩)
    | (go_at_call 17; (with_reducible refine (rsame_c f g true _ hf hg HS.out).mono ?_); rintro e w1 ⟨rfl, ⟨n6, rfl⟩⟩)
    | (go_at_call 18; (with_reducible refine (works_c _).mono ?_); rintro e w1 ⟨rfl, hb⟩; have HB := Aside0.mk hb; clear hb))
  go_ret
  exact ⟨rfl, below_step (by repeat (first | exact Below.refl _ _ | apply pw_below_drewN)) HB.out⟩

theorem back_same (x : Nat) (hx : x < full) : same (if isNaN x then nanBits else x) x = true := by
  by_cases h : isNaN x = true
  · rw [if_pos h]; exact nan_same _ _ (by decide) hx nan_nan h
  · rw [if_neg h]; exact same_refl _ hx
theorem back_lt (x : Nat) (hx : x < full) : (if isNaN x then nanBits else x) < full := by
  split
  · decide
  · exact hx

set_option maxHeartbeats 2000000 in
set_option maxRecDepth 100000 in
theorem back_true (x y f rx ry : Nat) (w : World) (hx : x < full) (hy : y < full) (hf : f < full) (hrx : rx < full) (HX : Aside0 (rank x = rx)) (HY : Aside0 (rank y = ry)) (HU : Aside0 (unrank rx = (f, true))) (HS : Aside0 (same f x = true)) (l m : Bool) (HL : Aside0 (less x y = l)) (HM : Aside0 (less y x = m)) (hlt : decide ((rx : Int) < (ry : Int)) = l) (hlm : (l && m) = false) :
    Calls Try.prog 7 #[.int .u64 (x : Int), .int .u64 (y : Int)] w fun e w' => e = .returned (.bool true) ∧ Below w.heap.size w w' := by
  have h1 := fun w => frombits_nat x w
  have h2 := fun w => frombits_nat y w
  have HLT := Aside0.mk hlt
  clear hlt
  cases l with
  | true =>
    obtain rfl : m = false := by simpa using hlm
    have hlt' : (rx : Int) < (ry : Int) := by simpa using HLT.out
    clear hlm
    go_enter Try.func7, Try.ntmps7
    go_wp2_with (first
      | (go_at_call 18; (with_reducible refine (works_c _).mono ?_); rintro e w1 ⟨rfl, hb⟩; have HB := Aside0.mk hb; clear hb)
      | (go_at_call 12; (with_reducible refine (rank_c x rx _ hx HX.out).mono ?_); rintro e w1 ⟨rfl, ⟨n1, rfl⟩⟩)
      | (go_at_call 12; (with_reducible refine (rank_c y ry _ hy HY.out).mono ?_); rintro e w1 ⟨rfl, ⟨n2, rfl⟩⟩)
      | (go_at_call 28; (with_reducible refine (unrank_c rx f true _ hrx HU.out).mono ?_); rintro e w1 ⟨rfl, ⟨n3, rfl⟩⟩)
      | (go_at_call 16; (with_reducible refine (fsame_c f x true _ hf hx HS.out).mono ?_); rintro e w1 ⟨rfl, ⟨n4, rfl⟩⟩)
      | (go_at_call 14; (with_reducible refine (fless_c x y true _ hx hy HL.out).mono ?_); rintro e w1 ⟨rfl, ⟨n5, rfl⟩⟩)
      | (go_at_call 14; (with_reducible refine (fless_c y x false _ hy hx HM.out).mono ?_); rintro e w1 ⟨rfl, ⟨n6, rfl⟩⟩))
    go_ret
    exact ⟨rfl, by repeat (first | exact HB.out | apply pw_below_drewN)⟩
  | false =>
    have hlt' : ¬ (rx : Int) < (ry : Int) := by simpa using HLT.out
    clear hlm
    go_enter Try.func7, Try.ntmps7
    go_wp2_with (first
      | (go_at_call 18; (with_reducible refine (works_c _).mono ?_); rintro e w1 ⟨rfl, hb⟩; have HB := Aside0.mk hb; clear hb)
      | (go_at_call 12; (with_reducible refine (rank_c x rx _ hx HX.out).mono ?_); rintro e w1 ⟨rfl, ⟨n1, rfl⟩⟩)
      | (go_at_call 12; (with_reducible refine (rank_c y ry _ hy HY.out).mono ?_); rintro e w1 ⟨rfl, ⟨n2, rfl⟩⟩)
      | (go_at_call 28; (with_reducible refine (unrank_c rx f true _ hrx HU.out).mono ?_); rintro e w1 ⟨rfl, ⟨n3, rfl⟩⟩)
      | (go_at_call 16; (with_reducible refine (fsame_c f x true _ hf hx HS.out).mono ?_); rintro e w1 ⟨rfl, ⟨n4, rfl⟩⟩)
      | (go_at_call 14; (with_reducible refine (fless_c x y false _ hx hy HL.out).mono ?_); rintro e w1 ⟨rfl, ⟨n5, rfl⟩⟩))
    go_ret
    exact ⟨ret_bool (by have h9 := HLT.out; rw [decide_eq_false_iff_not] at h9; rw [Bool.not_eq_true', decide_eq_false_iff_not]; omega), by repeat (first | exact HB.out | apply pw_below_drewN)⟩

theorem FloatBack (a b : Int) (w : World) (wa : (Lit.int .u64 a).wf = true) (wb : (Lit.int .u64 b).wf = true) :
    Calls Try.prog 7 #[.int .u64 a, .int .u64 b] w fun e w' => e = .returned (.bool true) ∧ Below w.heap.size w w' := by
  obtain ⟨x, rfl, hx⟩ := wf_u64 wa
  obtain ⟨y, rfl, hy⟩ := wf_u64 wb
  refine back_true x y _ _ _ w hx hy (back_lt x hx) (rank_lt x hx) ⟨rfl⟩ ⟨rfl⟩ ⟨unrank_rank x hx⟩ ⟨back_same x hx⟩ _ _ ⟨rfl⟩ ⟨rfl⟩ ?_ (less_anti x y hx hy)
  rw [less_rank x y hx hy, decide_eq_decide]
  omega

end Go.Proofs.Ytnfdalfnbjencaa.Fw
