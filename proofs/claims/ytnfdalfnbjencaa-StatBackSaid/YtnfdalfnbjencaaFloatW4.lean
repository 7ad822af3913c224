/- The walks of Mean, best, Least, Most, and of the document's. -/
import Derived.Test.YtnfdalfnbjencaaFloatW3
namespace Go.Proofs.Ytnfdalfnbjencaa.Fw
open Go.RowKit Go.Proofs.Ytnfdalfnbjencaa.Fl Go.Proofs.YtnfdalfnbjencaaW.PrintWords
set_option linter.unusedVariables false
set_option linter.unusedSimpArgs false

theorem RF.drewN {w : World} {A : Option Addr} {xs : List Nat} (h : RF w A xs) (n : Nat) : RF (w.drewN n) A xs := h

set_option maxHeartbeats 1000000 in
theorem mean_c (A : Option Addr) (c : Nat) (xs : List Nat) (w : World) (hr : RF w A xs) (hx : ∀ x ∈ xs, x < full) :
    Calls Try.prog 26 #[.slice A xs.length c] w fun e w' => ∃ r, e = .returned (.float .f64 r) ∧ Rep r (meanO xs) ∧ Drawn0 w w' := by
  have HC := Aside0.mk (sum_c A c xs w hr hx)
  have hlen := hr.len
  clear hr hx
  go_enter Try.func26, Try.ntmps26
  go_wp2_with (go_at_call 24; (with_reducible refine HC.out.mono ?_); rintro e w1 ⟨r, rfl, hrep, ⟨n, rfl⟩⟩; have HP := Aside0.mk hrep; clear hrep; obtain ⟨r', n', hrep, hrun⟩ := div_run Try.prog 23 r (floatOfInt .f64 (xs.length : Int)) _ HP.out (w.drewN n); have HQ := Aside0.mk hrep; clear hrep)
  go_ret
  exact ⟨r', rfl, HQ.out, by repeat (first | exact Drawn0.refl _ | apply Drawn0.step)⟩

set_option maxHeartbeats 1000000 in
theorem rmean_c (A : Option Addr) (c : Nat) (xs : List Nat) (w : World) (hr : RF w A xs) (hx : ∀ x ∈ xs, x < full) :
    Calls Try.prog 27 #[.slice A xs.length c] w fun e w' => ∃ r, e = .returned (.float .f64 r) ∧ Rep r (meanO xs) ∧ Drawn0 w w' := by
  have HC := Aside0.mk (rsum_c A c xs w hr hx)
  have hlen := hr.len
  clear hr hx
  by_cases hn : xs.length = 0
  · obtain rfl : xs = [] := List.eq_nil_of_length_eq_zero hn
    show Calls Try.prog 27 #[.slice A 0 c] w _
    clear hn hlen HC
    go_enter Try.func27, Try.ntmps27
    go_wp2_with (go_at_call 46; (with_reducible refine (naN_c _).mono ?_); rintro e w1 ⟨rfl, ⟨n, rfl⟩⟩)
    go_ret
    exact ⟨nanBits, rfl, ⟨by decide, by rw [meanO_nil]; exact nan_nan⟩, by repeat (first | exact Drawn0.refl _ | apply Drawn0.step)⟩
  · have hn' : ((xs.length : Int) == 0) = false := by rw [beq_eq_false_iff_ne]; omega
    clear hn
    go_enter Try.func27, Try.ntmps27
    go_wp2_with (go_at_call 25; (with_reducible refine HC.out.mono ?_); rintro e w1 ⟨r, rfl, hrep, ⟨n, rfl⟩⟩; have HP := Aside0.mk hrep; clear hrep; obtain ⟨r', n', hrep, hrun⟩ := div_run Try.prog 23 r (floatOfInt .f64 (xs.length : Int)) _ HP.out (w.drewN n); have HQ := Aside0.mk hrep; clear hrep)
    go_ret
    exact ⟨r', rfl, HQ.out, by repeat (first | exact Drawn0.refl _ | apply Drawn0.step)⟩

/-- float.best: by a function value that tells what is ahead. -/
def Ahead (g : Nat) (ahead : Nat → Nat → Bool) : Prop := ∀ (a b : Nat) (r : Bool) (W : World), a < full → b < full → ahead a b = r → Calls Try.prog g #[.float .f64 a, .float .f64 b] W fun e w' => e = .returned (.bool r) ∧ Drawn0 W w'

set_option maxHeartbeats 1000000 in
theorem best_c (g : Nat) (ahead : Nat → Nat → Bool) (hA : Aside0 (Ahead g ahead)) (eg : ∀ args w, (callFunc g args).run Try.prog w = .ok (.enter g args) w) (first : Nat) (A : Option Addr) (c : Nat) (xs : List Nat) (w : World) (hf : first < full) (hr : RF w A xs) (hx : ∀ x ∈ xs, x < full) :
    Calls Try.prog 49 #[.float .f64 first, .slice A xs.length c, .func (.func g) #[] #[]] w fun e w' => e = .returned (.float .f64 (best first ahead xs)) ∧ Drawn0 w w' := by
  have HR := Aside0.mk hr
  have HX := Aside0.mk hx
  have HF := Aside0.mk hf
  have hlen := hr.len
  clear hr hx hf
  go_enter Try.func49, Try.ntmps49
  go_wp2
  go_loopg [7, 8, 9, 13] (xs.length + 1) (fun gg s7 _ _ s13 wr => ∃ kk q r : Nat, kk ≤ xs.length ∧ xs.length + 1 - kk ≤ gg ∧ s13 = .int .i64 kk ∧ s7 = .float .f64 r ∧ Aside0 (r = best first ahead (xs.take kk)) ∧ wr = w.drewN q)
  case atStart => exact ⟨0, 0, first, Nat.zero_le _, by omega, rfl, rfl, ⟨rfl⟩, rfl⟩
  case round =>
    obtain ⟨kk, q, r, hkk, hg, rfl, rfl, HP, rfl⟩ := hrel
    by_cases hk : kk < xs.length
    · have hlt : (kk : Int) < (xs.length : Int) := by omega
      obtain ⟨ad, e, hc⟩ := HR.out.at_ kk hk
      cases e
      have HS := Aside0.mk (take_snoc xs kk hk)
      have HB := Aside0.mk (HX.out xs[kk] (List.getElem_mem hk))
      generalize xs[kk] = x at hc HS HB
      by_cases h0 : kk = 0
      · subst h0
        rw [add0] at hc
        go_wp2
        go_roundg (xs.length + 1 - 1)
        case measure => omega
        case rel => exact ⟨1, q, x, by omega, by omega, rfl, rfl, ⟨by rw [HS.out]; rfl⟩, rfl⟩
      · have h0' : ((kk : Int) == 0) = false := by rw [beq_eq_false_iff_ne]; omega
        have HN := Aside0.mk (take_ne xs kk (by omega) (by omega))
        have hrl : r < full := by rw [HP.out]; exact best_lt first ahead HF.out _ (fun y hy => HX.out y (List.mem_of_mem_take hy))
        have HL := Aside0.mk hrl
        clear hrl
        cases hq : ahead x r with
        | true =>
          have HC := Aside0.mk (hA.out x r true (w.drewN q) HB.out HL.out hq)
          have HQ := Aside0.mk hq
          clear hq
          go_wp2_with (go_at_fn g; (with_reducible refine HC.out.mono ?_); rintro e w' ⟨rfl, ⟨q', rfl⟩⟩)
          go_roundg (xs.length + 1 - (kk + 1))
          case measure => omega
          case rel => exact ⟨kk + 1, _, x, by omega, by omega, by go_num, rfl, ⟨by rw [HS.out, best_snoc _ _ _ _ HN.out, ← HP.out, if_pos HQ.out]⟩, rfl⟩
        | false =>
          have HC := Aside0.mk (hA.out x r false (w.drewN q) HB.out HL.out hq)
          have HQ := Aside0.mk hq
          clear hq
          go_wp2_with (go_at_fn g; (with_reducible refine HC.out.mono ?_); rintro e w' ⟨rfl, ⟨q', rfl⟩⟩)
          go_roundg (xs.length + 1 - (kk + 1))
          case measure => omega
          case rel => exact ⟨kk + 1, _, r, by omega, by omega, by go_num, rfl, ⟨by rw [HS.out, best_snoc _ _ _ _ HN.out, ← HP.out, if_neg (by rw [HQ.out]; decide)]⟩, rfl⟩
    · have hlt : ¬ (kk : Int) < (xs.length : Int) := by omega
      have HE := Aside0.mk (List.take_of_length_le (show xs.length ≤ kk by omega))
      go_wp2
      go_ret
      exact ⟨ret_f (by rw [HP.out, HE.out]), by repeat (first | exact Drawn0.refl _ | apply Drawn0.step)⟩

theorem ahead_less : Ahead 14 less := fun a b r W ha hb h => fless_c a b r W ha hb h
theorem ahead_more : Ahead 50 (fun a b => less b a) := fun a b r W ha hb h => by
  have HC := Aside0.mk (fless_c b a r W hb ha h)
  clear h
  go_enter Try.func50, Try.ntmps50
  go_wp2_with (go_at_call 14; (with_reducible refine HC.out.mono ?_); rintro e w' ⟨rfl, ⟨q', rfl⟩⟩)
  go_ret
  exact ⟨rfl, by repeat (first | exact Drawn0.refl _ | apply Drawn0.step)⟩

theorem least_c (A : Option Addr) (c : Nat) (xs : List Nat) (w : World) (hr : RF w A xs) (hx : ∀ x ∈ xs, x < full) :
    Calls Try.prog 20 #[.slice A xs.length c] w fun e w' => e = .returned (.float .f64 (least xs)) ∧ Drawn0 w w' := by
  have eg : ∀ args w, (callFunc 14 args).run Try.prog w = .ok (.enter 14 args) w := enters_of Try.func14 (by kernel_rfl) rfl
  have HC : Aside0 (∀ n, Calls Try.prog 49 #[.float .f64 9218868437227405312, .slice A xs.length c, .func (.func 14) #[] #[]] (w.drewN n) fun e w' => e = .returned (.float .f64 (least xs)) ∧ Drawn0 (w.drewN n) w') := ⟨fun n => best_c 14 less ⟨ahead_less⟩ eg infBits A c xs (w.drewN n) (by decide) (hr.drewN n) hx⟩
  clear hr hx eg
  generalize least xs = r at HC ⊢
  go_enter Try.func20, Try.ntmps20
  go_wp2_with (first
    | (go_at_call 47; (with_reducible refine (inf_c _).mono ?_); rintro e w1 ⟨rfl, ⟨n, rfl⟩⟩)
    | (go_at_call 49; (with_reducible refine (HC.out _).mono ?_); rintro e w1 ⟨rfl, ⟨m, rfl⟩⟩))
  go_ret
  exact ⟨rfl, by repeat (first | exact Drawn0.refl _ | apply Drawn0.step)⟩
theorem most_c (A : Option Addr) (c : Nat) (xs : List Nat) (w : World) (hr : RF w A xs) (hx : ∀ x ∈ xs, x < full) :
    Calls Try.prog 22 #[.slice A xs.length c] w fun e w' => e = .returned (.float .f64 (most xs)) ∧ Drawn0 w w' := by
  have eg : ∀ args w, (callFunc 50 args).run Try.prog w = .ok (.enter 50 args) w := enters_of Try.func50 (by kernel_rfl) rfl
  have HC : Aside0 (∀ n, Calls Try.prog 49 #[.float .f64 18442240474082181120, .slice A xs.length c, .func (.func 50) #[] #[]] (w.drewN n) fun e w' => e = .returned (.float .f64 (most xs)) ∧ Drawn0 (w.drewN n) w') := ⟨fun n => best_c 50 (fun a b => less b a) ⟨ahead_more⟩ eg ninfBits A c xs (w.drewN n) (by decide) (hr.drewN n) hx⟩
  clear hr hx eg
  generalize most xs = r at HC ⊢
  go_enter Try.func22, Try.ntmps22
  go_wp2_with (first
    | (go_at_call 47; (with_reducible refine (ninf_c _).mono ?_); rintro e w1 ⟨rfl, ⟨n, rfl⟩⟩)
    | (go_at_call 49; (with_reducible refine (HC.out _).mono ?_); rintro e w1 ⟨rfl, ⟨m, rfl⟩⟩))
  go_ret
  exact ⟨rfl, by repeat (first | exact Drawn0.refl _ | apply Drawn0.step)⟩

end Go.Proofs.Ytnfdalfnbjencaa.Fw
