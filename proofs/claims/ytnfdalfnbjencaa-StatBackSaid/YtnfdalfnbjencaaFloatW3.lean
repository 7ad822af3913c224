/- The walks of Sum, Mean, best, Least, Most, and of the document's. -/
import Derived.Test.YtnfdalfnbjencaaFloatW2
import Derived.Test.YtnfdalfnbjencaaFloatSum
import Derived.Shelf.Abstract
import Derived.Deep.LoopGhost
namespace Go.Proofs.Ytnfdalfnbjencaa.Fw
open Go.RowKit Go.Proofs.Ytnfdalfnbjencaa.Fl Go.Proofs.YtnfdalfnbjencaaW.PrintWords
set_option linter.unusedVariables false
set_option linter.unusedSimpArgs false

theorem add0 (a : Addr) : a.add 0 = a := by simp [Addr.add]
/-- A slice of floats that reads as a list. -/
def RF (w : World) (A : Option Addr) (xs : List Nat) : Prop := ReadsOf (Value.float .f64) (0 : Nat) w A xs.length xs
theorem RF.at_ {w : World} {A : Option Addr} {xs : List Nat} (h : RF w A xs) (k : Nat) (hk : k < xs.length) : ∃ ad, A = some ad ∧ w.cell? (ad.add k) = some (.float .f64 xs[k]) := by
  obtain ⟨ad, e, hc⟩ := ReadsOf.at_ h k (by omega) (by omega)
  refine ⟨ad, e, ?_⟩
  rw [Int.toNat_natCast] at hc
  rw [hc]
  simp [rdOf, hk]
theorem RF.len {w : World} {A : Option Addr} {xs : List Nat} (h : RF w A xs) : (xs.length : Int) ≤ 9223372036854775807 := by have := h.2.1; omega
theorem RF.none_ (w : World) : RF w none [] := ⟨rfl, by decide, fun h => absurd h (by decide)⟩

set_option maxHeartbeats 1000000 in
theorem sum_c (A : Option Addr) (c : Nat) (xs : List Nat) (w : World) (hr : RF w A xs) (hx : ∀ x ∈ xs, x < full) :
    Calls Try.prog 24 #[.slice A xs.length c] w fun e w' => ∃ r, e = .returned (.float .f64 r) ∧ Rep r (sumO xs) ∧ Drawn0 w w' := by
  have HR := Aside0.mk hr
  have HX := Aside0.mk hx
  have hlen := hr.len
  clear hr hx
  go_enter Try.func24, Try.ntmps24
  go_wp2
  go_loopg [3, 4, 5, 8] (xs.length + 1) (fun gg s3 _ _ s8 wr => ∃ kk q r : Nat, kk ≤ xs.length ∧ xs.length + 1 - kk ≤ gg ∧ s8 = .int .i64 kk ∧ s3 = .float .f64 r ∧ Aside0 (Rep r (sumO (xs.take kk))) ∧ wr = w.drewN q)
  case atStart => exact ⟨0, 0, 0, Nat.zero_le _, by omega, rfl, rfl, ⟨⟨by decide, rfl⟩⟩, rfl⟩
  case round =>
    obtain ⟨kk, q, r, hkk, hg, rfl, rfl, HP, rfl⟩ := hrel
    by_cases hk : kk < xs.length
    · have hlt : (kk : Int) < (xs.length : Int) := by omega
      obtain ⟨ad, e, hc⟩ := HR.out.at_ kk hk
      cases e
      have HS := Aside0.mk (take_snoc xs kk hk)
      have HB := Aside0.mk (HX.out xs[kk] (List.getElem_mem hk))
      generalize xs[kk] = x at hc HS HB
      by_cases h0 : kk = 0
      · subst h0
        rw [add0] at hc
        go_wp2
        go_roundg (xs.length + 1 - 1)
        case measure => omega
        case rel => exact ⟨1, q, x, by omega, by omega, rfl, rfl, ⟨by rw [HS.out]; exact rep_one x HB.out⟩, rfl⟩
      · have h0' : ((kk : Int) == 0) = false := by rw [beq_eq_false_iff_ne]; omega
        obtain ⟨r', n', hrep, hrun⟩ := add_run Try.prog 23 r x _ HP.out (w.drewN q)
        have HP' := Aside0.mk hrep
        clear hrep HP
        go_wp2
        go_roundg (xs.length + 1 - (kk + 1))
        case measure => omega
        case rel => exact ⟨kk + 1, _, r', by omega, by omega, by go_num, rfl, ⟨by rw [HS.out, sumO_snoc _ _ (take_ne xs kk (by omega) (by omega))]; exact HP'.out⟩, rfl⟩
    · have hlt : ¬ (kk : Int) < (xs.length : Int) := by omega
      go_wp2
      go_ret
      exact ⟨r, rfl, by have := HP.out; rwa [List.take_of_length_le (by omega)] at this, by repeat (first | exact Drawn0.refl _ | apply Drawn0.step)⟩

set_option maxHeartbeats 1000000 in
theorem rsum_c (A : Option Addr) (c : Nat) (xs : List Nat) (w : World) (hr : RF w A xs) (hx : ∀ x ∈ xs, x < full) :
    Calls Try.prog 25 #[.slice A xs.length c] w fun e w' => ∃ r, e = .returned (.float .f64 r) ∧ Rep r (sumO xs) ∧ Drawn0 w w' := by
  have HR := Aside0.mk hr
  have HX := Aside0.mk hx
  have hlen := hr.len
  clear hr hx
  by_cases hn : xs.length = 0
  · obtain rfl : xs = [] := List.eq_nil_of_length_eq_zero hn
    show Calls Try.prog 25 #[.slice A 0 c] w _
    clear hn hlen
    go_enter Try.func25, Try.ntmps25
    go_wp2
    go_ret
    exact ⟨0, rfl, ⟨by decide, rfl⟩, by repeat (first | exact Drawn0.refl _ | apply Drawn0.step)⟩
  · have hn' : ((xs.length : Int) == 0) = false := by rw [beq_eq_false_iff_ne]; omega
    have hlt0 : (0 : Int) < (xs.length : Int) := by omega
    obtain ⟨ad, e, hc⟩ := HR.out.at_ 0 (by omega)
    cases e
    rw [add0] at hc
    have HS0 := Aside0.mk (take_snoc xs 0 (by omega))
    have HB0 := Aside0.mk (HX.out xs[0] (List.getElem_mem (by omega)))
    generalize xs[0] = x0 at hc HS0 HB0
    have hlt0' : 0 < xs.length := by omega
    clear hn
    go_enter Try.func25, Try.ntmps25
    go_wp2
    go_loopg [3, 4] (xs.length + 1) (fun gg s3 s4 wr => ∃ kk q r : Nat, 0 < kk ∧ kk ≤ xs.length ∧ xs.length + 1 - kk ≤ gg ∧ s4 = .int .i64 kk ∧ s3 = .float .f64 r ∧ Aside0 (Rep r (sumO (xs.take kk))) ∧ wr = w.drewN q)
    case atStart => exact ⟨1, 0, x0, by omega, by omega, by omega, rfl, rfl, ⟨by rw [HS0.out]; exact rep_one x0 HB0.out⟩, rfl⟩
    case round =>
      obtain ⟨kk, q, r, h0, hkk, hg, rfl, rfl, HP, rfl⟩ := hrel
      clear hc
      by_cases hk : kk < xs.length
      · have hlt : (kk : Int) < (xs.length : Int) := by omega
        obtain ⟨ad', e, hc⟩ := HR.out.at_ kk hk
        cases e
        have HS := Aside0.mk (take_snoc xs kk hk)
        generalize xs[kk] = x at hc HS
        obtain ⟨r', n', hrep, hrun⟩ := add_run Try.prog 23 r x _ HP.out (w.drewN q)
        have HP' := Aside0.mk hrep
        clear hrep HP
        go_wp2
        go_roundg (xs.length + 1 - (kk + 1))
        case measure => omega
        case rel => exact ⟨kk + 1, _, r', by omega, by omega, by omega, by go_num, rfl, ⟨by rw [HS.out, sumO_snoc _ _ (take_ne xs kk (by omega) (by omega))]; exact HP'.out⟩, rfl⟩
      · have hlt : ¬ (kk : Int) < (xs.length : Int) := by omega
        go_wp2
        go_ret
        exact ⟨r, rfl, by have := HP.out; rwa [List.take_of_length_le (by omega)] at this, by repeat (first | exact Drawn0.refl _ | apply Drawn0.step)⟩

end Go.Proofs.Ytnfdalfnbjencaa.Fw
