/- The walks of the document's Least and Most. -/
import Derived.Test.YtnfdalfnbjencaaFloatW4
namespace Go.Proofs.Ytnfdalfnbjencaa.Fw
open Go.RowKit Go.Proofs.Ytnfdalfnbjencaa.Fl Go.Proofs.YtnfdalfnbjencaaW.PrintWords
set_option linter.unusedVariables false
set_option linter.unusedSimpArgs false

set_option maxHeartbeats 1000000 in
theorem rleast_c (A : Option Addr) (c : Nat) (xs : List Nat) (w : World) (hr : RF w A xs) (hx : ∀ x ∈ xs, x < full) :
    Calls Try.prog 21 #[.slice A xs.length c] w fun e w' => e = .returned (.float .f64 (least xs)) ∧ Drawn0 w w' := by
  have HR := Aside0.mk hr
  have HX := Aside0.mk hx
  have hlen := hr.len
  clear hr hx
  go_enter Try.func21, Try.ntmps21
  go_wp2_with (go_at_call 47; (with_reducible refine (inf_c _).mono ?_); rintro e w1 ⟨rfl, ⟨n0, rfl⟩⟩)
  go_loopg [3, 4] (xs.length + 1) (fun gg s3 s4 wr => ∃ kk q r : Nat, kk ≤ xs.length ∧ xs.length + 1 - kk ≤ gg ∧ s4 = .int .i64 kk ∧ s3 = .float .f64 r ∧ Aside0 (r = least (xs.take kk)) ∧ wr = w.drewN q)
  case atStart => exact ⟨0, n0, infBits, Nat.zero_le _, by omega, rfl, rfl, ⟨rfl⟩, rfl⟩
  case round =>
    obtain ⟨kk, q, r, hkk, hg, rfl, rfl, HP, rfl⟩ := hrel
    by_cases hk : kk < xs.length
    · have hlt : (kk : Int) < (xs.length : Int) := by omega
      obtain ⟨ad, e, hc⟩ := HR.out.at_ kk hk
      cases e
      have HS := Aside0.mk (take_snoc xs kk hk)
      have HB := Aside0.mk (HX.out xs[kk] (List.getElem_mem hk))
      generalize xs[kk] = x at hc HS HB
      by_cases h0 : kk = 0
      · subst h0
        rw [add0] at hc
        go_wp2
        go_roundg (xs.length + 1 - 1)
        case measure => omega
        case rel => exact ⟨1, q, x, by omega, by omega, rfl, rfl, ⟨by rw [HS.out]; rfl⟩, rfl⟩
      · have h0' : ((kk : Int) == 0) = false := by rw [beq_eq_false_iff_ne]; omega
        have HN := Aside0.mk (take_ne xs kk (by omega) (by omega))
        have hrl : r < full := by rw [HP.out]; exact best_lt _ _ (by decide) _ (fun y hy => HX.out y (List.mem_of_mem_take hy))
        have HL := Aside0.mk hrl
        clear hrl
        cases hq : less x r with
        | true =>
          have HC := Aside0.mk (rless_c x r true (w.drewN q) HB.out HL.out hq)
          have HQ := Aside0.mk hq
          clear hq
          go_wp2_with (go_at_call 15; (with_reducible refine HC.out.mono ?_); rintro e w' ⟨rfl, ⟨q', rfl⟩⟩)
          go_roundg (xs.length + 1 - (kk + 1))
          case measure => omega
          case rel => exact ⟨kk + 1, _, x, by omega, by omega, by go_num, rfl, ⟨by unfold least; rw [HS.out, best_snoc _ _ _ _ HN.out]; exact (if_pos (by have := HP.out; unfold least at this; rw [← this]; exact HQ.out)).symm⟩, rfl⟩
        | false =>
          have HC := Aside0.mk (rless_c x r false (w.drewN q) HB.out HL.out hq)
          have HQ := Aside0.mk hq
          clear hq
          go_wp2_with (go_at_call 15; (with_reducible refine HC.out.mono ?_); rintro e w' ⟨rfl, ⟨q', rfl⟩⟩)
          go_roundg (xs.length + 1 - (kk + 1))
          case measure => omega
          case rel => exact ⟨kk + 1, _, r, by omega, by omega, by go_num, rfl, ⟨by have h1 := HP.out; unfold least at h1 ⊢; rw [HS.out, best_snoc _ _ _ _ HN.out, if_neg (by rw [← h1, HQ.out]; decide)]; exact h1⟩, rfl⟩
    · have hlt : ¬ (kk : Int) < (xs.length : Int) := by omega
      have HE := Aside0.mk (List.take_of_length_le (show xs.length ≤ kk by omega))
      go_wp2
      go_ret
      exact ⟨ret_f (by rw [HP.out, HE.out]), by repeat (first | exact Drawn0.refl _ | apply Drawn0.step)⟩

set_option maxHeartbeats 1000000 in
theorem rmost_c (A : Option Addr) (c : Nat) (xs : List Nat) (w : World) (hr : RF w A xs) (hx : ∀ x ∈ xs, x < full) :
    Calls Try.prog 23 #[.slice A xs.length c] w fun e w' => e = .returned (.float .f64 (most xs)) ∧ Drawn0 w w' := by
  have HR := Aside0.mk hr
  have HX := Aside0.mk hx
  have hlen := hr.len
  clear hr hx
  go_enter Try.func23, Try.ntmps23
  go_wp2_with (go_at_call 47; (with_reducible refine (ninf_c _).mono ?_); rintro e w1 ⟨rfl, ⟨n0, rfl⟩⟩)
  go_loopg [3, 4] (xs.length + 1) (fun gg s3 s4 wr => ∃ kk q r : Nat, kk ≤ xs.length ∧ xs.length + 1 - kk ≤ gg ∧ s4 = .int .i64 kk ∧ s3 = .float .f64 r ∧ Aside0 (r = most (xs.take kk)) ∧ wr = w.drewN q)
  case atStart => exact ⟨0, n0, ninfBits, Nat.zero_le _, by omega, rfl, rfl, ⟨rfl⟩, rfl⟩
  case round =>
    obtain ⟨kk, q, r, hkk, hg, rfl, rfl, HP, rfl⟩ := hrel
    by_cases hk : kk < xs.length
    · have hlt : (kk : Int) < (xs.length : Int) := by omega
      obtain ⟨ad, e, hc⟩ := HR.out.at_ kk hk
      cases e
      have HS := Aside0.mk (take_snoc xs kk hk)
      have HB := Aside0.mk (HX.out xs[kk] (List.getElem_mem hk))
      generalize xs[kk] = x at hc HS HB
      by_cases h0 : kk = 0
      · subst h0
        rw [add0] at hc
        go_wp2
        go_roundg (xs.length + 1 - 1)
        case measure => omega
        case rel => exact ⟨1, q, x, by omega, by omega, rfl, rfl, ⟨by rw [HS.out]; rfl⟩, rfl⟩
      · have h0' : ((kk : Int) == 0) = false := by rw [beq_eq_false_iff_ne]; omega
        have HN := Aside0.mk (take_ne xs kk (by omega) (by omega))
        have hrl : r < full := by rw [HP.out]; exact best_lt _ _ (by decide) _ (fun y hy => HX.out y (List.mem_of_mem_take hy))
        have HL := Aside0.mk hrl
        clear hrl
        cases hq : less r x with
        | true =>
          have HC := Aside0.mk (rless_c r x true (w.drewN q) HL.out HB.out hq)
          have HQ := Aside0.mk hq
          clear hq
          go_wp2_with (go_at_call 15; (with_reducible refine HC.out.mono ?_); rintro e w' ⟨rfl, ⟨q', rfl⟩⟩)
          go_roundg (xs.length + 1 - (kk + 1))
          case measure => omega
          case rel => exact ⟨kk + 1, _, x, by omega, by omega, by go_num, rfl, ⟨by unfold most; rw [HS.out, best_snoc _ _ _ _ HN.out]; exact (if_pos (by have := HP.out; unfold most at this; rw [← this]; exact HQ.out)).symm⟩, rfl⟩
        | false =>
          have HC := Aside0.mk (rless_c r x false (w.drewN q) HL.out HB.out hq)
          have HQ := Aside0.mk hq
          clear hq
          go_wp2_with (go_at_call 15; (with_reducible refine HC.out.mono ?_); rintro e w' ⟨rfl, ⟨q', rfl⟩⟩)
          go_roundg (xs.length + 1 - (kk + 1))
          case measure => omega
          case rel => exact ⟨kk + 1, _, r, by omega, by omega, by go_num, rfl, ⟨by have h1 := HP.out; unfold most at h1 ⊢; rw [HS.out, best_snoc _ _ _ _ HN.out, if_neg (by rw [← h1, HQ.out]; decide)]; exact h1⟩, rfl⟩
    · have hlt : ¬ (kk : Int) < (xs.length : Int) := by omega
      have HE := Aside0.mk (List.take_of_length_le (show xs.length ≤ kk by omega))
      go_wp2
      go_ret
      exact ⟨ret_f (by rw [HP.out, HE.out]), by repeat (first | exact Drawn0.refl _ | apply Drawn0.step)⟩

end Go.Proofs.Ytnfdalfnbjencaa.Fw
