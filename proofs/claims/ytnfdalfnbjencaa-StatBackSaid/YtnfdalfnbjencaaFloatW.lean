/- The walks of the float functions: each returns what the plain words tell. -/
import Derived.Test.YtnfdalfnbjencaaFloatLaw
import Derived.Test.YtnfdalfnbjencaaWWords
import Derived.Test.YtnfdalfnbjencaaProg
import Derived.WalkKit
import Derived.WalkSpells
import Derived.WalkLawsBesides
import Derived.Laws.Externs
import Derived.Laws.FloatArith
import Derived.KernelRfl
namespace Go.Proofs.Ytnfdalfnbjencaa.Fw
open Go.RowKit Go.Proofs.Ytnfdalfnbjencaa.Fl Go.Proofs.YtnfdalfnbjencaaW.PrintWords
set_option linter.unusedVariables false
set_option linter.unusedSimpArgs false

theorem call_frombits (n : Int) (w : World) : (callFunc 11 #[.int .u64 n]).run Try.prog w = .ok (.value (.float .f64 n.toNat)) w :=
  run_callFunc_extern (e := Extern.MathFloatBits.float64frombits) Try.func11 (by kernel_rfl) (by kernel_rfl) (by kernel_rfl) (by kernel_rfl) _ w
theorem call_bits (b : Nat) (w : World) : (callFunc 41 #[.float .f64 b]).run Try.prog w = .ok (.value (.int .u64 b)) w :=
  run_callFunc_extern (e := Extern.MathFloatBits.float64bits) Try.func41 (by kernel_rfl) (by kernel_rfl) (by kernel_rfl) (by kernel_rfl) _ w

theorem ret_bool {a b : Bool} (h : a = b) : Ending.returned (.bool a) = .returned (.bool b) := by rw [h]
theorem ret_u64 {a b : Int} (h : a = b) : Ending.returned (.int .u64 a) = .returned (.int .u64 b) := by rw [h]

theorem isNaN_c (b : Nat) (r : Bool) (w : World) (hb : b < full) (h : isNaN b = r) : Calls Try.prog 42 #[.float .f64 b] w fun e w' => e = .returned (.bool r) ∧ Drawn0 w w' := by
  have H := Aside0.mk ((cmp_self b hb).trans h)
  clear h hb
  go_enter Try.func42, Try.ntmps42
  go_wp2
  go_ret
  exact ⟨ret_bool H.out, Drawn0.refl _⟩
theorem nan_c (b : Nat) (r : Bool) (w : World) (hb : b < full) (h : isNaN b = r) : Calls Try.prog 43 #[.float .f64 b] w fun e w' => e = .returned (.bool r) ∧ Drawn0 w w' := by
  have H := Aside0.mk ((cmp_self b hb).trans h)
  clear h hb
  go_enter Try.func43, Try.ntmps43
  go_wp2
  go_ret
  exact ⟨ret_bool H.out, Drawn0.refl _⟩
theorem below_c (b : Nat) (r : Bool) (w : World) (h : below b = r) : Calls Try.prog 44 #[.float .f64 b] w fun e w' => e = .returned (.bool r) ∧ Drawn0 w w' := by
  have H := Aside0.mk h
  clear h
  have h41 := fun w => call_bits b w
  go_enter Try.func44, Try.ntmps44
  go_wp2
  go_ret
  exact ⟨ret_bool (by rw [← H.out]; unfold below big; rw [decide_eq_decide]; omega), Drawn0.refl _⟩


theorem and_no (b : Nat) (hb : b < full) (h : below b = false) : (bits .and .u64 (b : Int) 9223372036854775808 != 0) = false := by rw [and_big b hb, h]; rfl
theorem and_yes (b : Nat) (hb : b < full) (h : below b = true) : (bits .and .u64 (b : Int) 9223372036854775808 != 0) = true := by rw [and_big b hb, h]; rfl
theorem lt_big (b : Nat) (h : below b = false) : b < big := by unfold below at h; simp only [decide_eq_false_iff_not] at h; omega

theorem rank_c (b : Nat) (r : Nat) (w : World) (hb : b < full) (h : rank b = r) : Calls Try.prog 12 #[.float .f64 b] w fun e w' => e = .returned (.int .u64 r) ∧ Drawn0 w w' := by
  have h41 := fun w => call_bits b w
  unfold rank at h
  cases hn : isNaN b with
  | true =>
    have HN := Aside0.mk hn
    rw [if_pos hn] at h
    have H := Aside0.mk h
    clear h hn
    go_enter Try.func12, Try.ntmps12
    go_wp2_with (go_at_call 42; (with_reducible refine (isNaN_c b true _ hb HN.out).mono ?_); rintro e w1 ⟨rfl, ⟨n, rfl⟩⟩)
    go_ret
    exact ⟨ret_u64 (by rw [← H.out]; rfl), by repeat (first | exact Drawn0.refl _ | apply Drawn0.step)⟩
  | false =>
    have HN := Aside0.mk hn
    rw [if_neg (by rw [hn]; decide)] at h
    cases hbl : below b with
    | true =>
      have ha := and_yes b hb hbl
      have H := Aside0.mk (show ((all1 - b : Nat) : Int) = r by rw [← h, if_pos hbl])
      have HX := Aside0.mk (not_u64 b hb)
      clear h hn hbl
      go_enter Try.func12, Try.ntmps12
      go_wp2_with (go_at_call 42; (with_reducible refine (isNaN_c b false _ hb HN.out).mono ?_); rintro e w1 ⟨rfl, ⟨n, rfl⟩⟩)
      go_ret
      exact ⟨ret_u64 (HX.out.trans H.out), by repeat (first | exact Drawn0.refl _ | apply Drawn0.step)⟩
    | false =>
      have ha := and_no b hb hbl
      have H := Aside0.mk (show ((b + big : Nat) : Int) = r by rw [← h, if_neg (by rw [hbl]; decide)])
      have HX := Aside0.mk (or_big b (lt_big b hbl))
      clear h hn hbl
      go_enter Try.func12, Try.ntmps12
      go_wp2_with (go_at_call 42; (with_reducible refine (isNaN_c b false _ hb HN.out).mono ?_); rintro e w1 ⟨rfl, ⟨n, rfl⟩⟩)
      go_ret
      exact ⟨ret_u64 (HX.out.trans H.out), by repeat (first | exact Drawn0.refl _ | apply Drawn0.step)⟩

theorem sub_all1 (b : Nat) (hb : b < full) : IntKind.u64.wrap (18446744073709551615 - (b : Int)) = ((all1 - b : Nat) : Int) := by
  rw [IntKind.wrap_u64]; unfold all1 full at *; omega
theorem add_big (b : Nat) (hb : b < big) : IntKind.u64.wrap ((b : Int) + 9223372036854775808) = ((b + big : Nat) : Int) := by
  rw [IntKind.wrap_u64]; unfold big at *; omega

theorem refRank_c (b : Nat) (r : Nat) (w : World) (hb : b < full) (h : rank b = r) : Calls Try.prog 13 #[.float .f64 b] w fun e w' => e = .returned (.int .u64 r) ∧ Drawn0 w w' := by
  have h41 := fun w => call_bits b w
  unfold rank at h
  cases hn : isNaN b with
  | true =>
    have HN := Aside0.mk hn
    rw [if_pos hn] at h
    have H := Aside0.mk h
    clear h hn
    go_enter Try.func13, Try.ntmps13
    go_wp2_with (go_at_call 43; (with_reducible refine (nan_c b true _ hb HN.out).mono ?_); rintro e w1 ⟨rfl, ⟨n, rfl⟩⟩)
    go_ret
    exact ⟨ret_u64 (by rw [← H.out]; rfl), by repeat (first | exact Drawn0.refl _ | apply Drawn0.step)⟩
  | false =>
    have HN := Aside0.mk hn
    rw [if_neg (by rw [hn]; decide)] at h
    cases hbl : below b with
    | true =>
      have HL := Aside0.mk hbl
      have H := Aside0.mk (show ((all1 - b : Nat) : Int) = r by rw [← h, if_pos hbl])
      have HX := Aside0.mk (sub_all1 b hb)
      clear h hn hbl
      go_enter Try.func13, Try.ntmps13
      go_wp2_with (first
        | (go_at_call 43; (with_reducible refine (nan_c b false _ hb HN.out).mono ?_); rintro e w1 ⟨rfl, ⟨n, rfl⟩⟩)
        | (go_at_call 44; (with_reducible refine (below_c b true _ HL.out).mono ?_); rintro e w1 ⟨rfl, ⟨n, rfl⟩⟩))
      go_ret
      exact ⟨ret_u64 (by first | exact HX.out.trans H.out | (rw [← H.out]; unfold all1 full at *; omega)), by repeat (first | exact Drawn0.refl _ | apply Drawn0.step)⟩
    | false =>
      have HL := Aside0.mk hbl
      have H := Aside0.mk (show ((b + big : Nat) : Int) = r by rw [← h, if_neg (by rw [hbl]; decide)])
      have HX := Aside0.mk (add_big b (lt_big b hbl))
      have HY := Aside0.mk (lt_big b hbl)
      clear h hn hbl
      go_enter Try.func13, Try.ntmps13
      go_wp2_with (first
        | (go_at_call 43; (with_reducible refine (nan_c b false _ hb HN.out).mono ?_); rintro e w1 ⟨rfl, ⟨n, rfl⟩⟩)
        | (go_at_call 44; (with_reducible refine (below_c b false _ HL.out).mono ?_); rintro e w1 ⟨rfl, ⟨n, rfl⟩⟩))
      go_ret
      exact ⟨ret_u64 (by first | exact HX.out.trans H.out | (rw [← H.out]; have := HY.out; unfold big at *; omega)), by repeat (first | exact Drawn0.refl _ | apply Drawn0.step)⟩

theorem fless_c (a b : Nat) (r : Bool) (w : World) (ha : a < full) (hb : b < full) (h : less a b = r) : Calls Try.prog 14 #[.float .f64 a, .float .f64 b] w fun e w' => e = .returned (.bool r) ∧ Drawn0 w w' := by
  rw [less_rank a b ha hb] at h
  obtain ⟨ra, hra⟩ : ∃ x, rank a = x := ⟨_, rfl⟩
  obtain ⟨rb, hrb⟩ : ∃ x, rank b = x := ⟨_, rfl⟩
  rw [hra, hrb] at h
  have HA := Aside0.mk hra
  have HB := Aside0.mk hrb
  have H := Aside0.mk h
  clear h hra hrb
  go_enter Try.func14, Try.ntmps14
  go_wp2_with (first
    | (go_at_call 12; (with_reducible refine (rank_c a ra _ ha HA.out).mono ?_); rintro e w1 ⟨rfl, ⟨n1, rfl⟩⟩)
    | (go_at_call 12; (with_reducible refine (rank_c b rb _ hb HB.out).mono ?_); rintro e w1 ⟨rfl, ⟨n2, rfl⟩⟩))
  go_ret
  exact ⟨ret_bool (by first | exact H.out | (rw [← H.out, decide_eq_decide]; omega)), by repeat (first | exact Drawn0.refl _ | apply Drawn0.step)⟩

theorem fsame_c (a b : Nat) (r : Bool) (w : World) (ha : a < full) (hb : b < full) (h : same a b = r) : Calls Try.prog 16 #[.float .f64 a, .float .f64 b] w fun e w' => e = .returned (.bool r) ∧ Drawn0 w w' := by
  rw [same_rank a b ha hb] at h
  obtain ⟨ra, hra⟩ : ∃ x, rank a = x := ⟨_, rfl⟩
  obtain ⟨rb, hrb⟩ : ∃ x, rank b = x := ⟨_, rfl⟩
  rw [hra, hrb] at h
  have HA := Aside0.mk hra
  have HB := Aside0.mk hrb
  have H := Aside0.mk h
  clear h hra hrb
  go_enter Try.func16, Try.ntmps16
  go_wp2_with (first
    | (go_at_call 12; (with_reducible refine (rank_c a ra _ ha HA.out).mono ?_); rintro e w1 ⟨rfl, ⟨n1, rfl⟩⟩)
    | (go_at_call 12; (with_reducible refine (rank_c b rb _ hb HB.out).mono ?_); rintro e w1 ⟨rfl, ⟨n2, rfl⟩⟩))
  go_ret
  exact ⟨ret_bool (by rw [← H.out]; first | (rw [Bool.eq_iff_iff]; simp; done) | (rw [Bool.eq_iff_iff]; simp; omega)), by repeat (first | exact Drawn0.refl _ | apply Drawn0.step)⟩


theorem rless_nan1 (a b : Nat) (w : World) (ha : a < full) (hb : b < full) (na : Aside0 (isNaN a = true)) : Calls Try.prog 15 #[.float .f64 a, .float .f64 b] w fun e w' => e = .returned (.bool false) ∧ Drawn0 w w' := by
  go_enter Try.func15, Try.ntmps15
  go_wp2_with (go_at_call 43; (with_reducible refine (nan_c a true _ ha na.out).mono ?_); rintro e w1 ⟨rfl, ⟨n1, rfl⟩⟩)
  go_ret
  exact ⟨rfl, by repeat (first | exact Drawn0.refl _ | apply Drawn0.step)⟩

theorem rless_nan2 (a b : Nat) (w : World) (ha : a < full) (hb : b < full) (na : Aside0 (isNaN a = false)) (nb : Aside0 (isNaN b = true)) : Calls Try.prog 15 #[.float .f64 a, .float .f64 b] w fun e w' => e = .returned (.bool true) ∧ Drawn0 w w' := by
  go_enter Try.func15, Try.ntmps15
  go_wp2_with (first
    | (go_at_call 43; (with_reducible refine (nan_c a false _ ha na.out).mono ?_); rintro e w1 ⟨rfl, ⟨n1, rfl⟩⟩)
    | (go_at_call 43; (with_reducible refine (nan_c b true _ hb nb.out).mono ?_); rintro e w1 ⟨rfl, ⟨n2, rfl⟩⟩))
  go_ret
  exact ⟨rfl, by repeat (first | exact Drawn0.refl _ | apply Drawn0.step)⟩

theorem rless_zz (a b : Nat) (la lb : Bool) (w : World) (ha : a < full) (hb : b < full) (na : Aside0 (isNaN a = false)) (nb : Aside0 (isNaN b = false)) (za : (FloatKind.f64.format.order a 0 == some .eq) = true) (zb : (FloatKind.f64.format.order b 0 == some .eq) = true) (HA : Aside0 (below a = la)) (HB : Aside0 (below b = lb)) : Calls Try.prog 15 #[.float .f64 a, .float .f64 b] w fun e w' => e = .returned (.bool (la && !lb)) ∧ Drawn0 w w' := by
  cases la with
  | true =>
    go_enter Try.func15, Try.ntmps15
    go_wp2_with (first
      | (go_at_call 43; (with_reducible refine (nan_c a false _ ha na.out).mono ?_); rintro e w1 ⟨rfl, ⟨n1, rfl⟩⟩)
      | (go_at_call 43; (with_reducible refine (nan_c b false _ hb nb.out).mono ?_); rintro e w1 ⟨rfl, ⟨n2, rfl⟩⟩)
      | (go_at_call 44; (with_reducible refine (below_c a true _ HA.out).mono ?_); rintro e w1 ⟨rfl, ⟨n3, rfl⟩⟩)
      | (go_at_call 44; (with_reducible refine (below_c b lb _ HB.out).mono ?_); rintro e w1 ⟨rfl, ⟨n4, rfl⟩⟩))
    go_ret
    exact ⟨ret_bool (by simp), by repeat (first | exact Drawn0.refl _ | apply Drawn0.step)⟩
  | false =>
    go_enter Try.func15, Try.ntmps15
    go_wp2_with (first
      | (go_at_call 43; (with_reducible refine (nan_c a false _ ha na.out).mono ?_); rintro e w1 ⟨rfl, ⟨n1, rfl⟩⟩)
      | (go_at_call 43; (with_reducible refine (nan_c b false _ hb nb.out).mono ?_); rintro e w1 ⟨rfl, ⟨n2, rfl⟩⟩)
      | (go_at_call 44; (with_reducible refine (below_c a false _ HA.out).mono ?_); rintro e w1 ⟨rfl, ⟨n3, rfl⟩⟩)
      | (go_at_call 44; (with_reducible refine (below_c b lb _ HB.out).mono ?_); rintro e w1 ⟨rfl, ⟨n4, rfl⟩⟩))
    go_ret
    exact ⟨rfl, by repeat (first | exact Drawn0.refl _ | apply Drawn0.step)⟩
theorem rless_z (a b : Nat) (w : World) (ha : a < full) (hb : b < full) (na : Aside0 (isNaN a = false)) (nb : Aside0 (isNaN b = false)) (za : (FloatKind.f64.format.order a 0 == some .eq) = true) (zb : (FloatKind.f64.format.order b 0 == some .eq) = false) : Calls Try.prog 15 #[.float .f64 a, .float .f64 b] w fun e w' => e = .returned (.bool (FloatKind.f64.format.order a b == some .lt)) ∧ Drawn0 w w' := by
  go_enter Try.func15, Try.ntmps15
  go_wp2_with (first
    | (go_at_call 43; (with_reducible refine (nan_c a false _ ha na.out).mono ?_); rintro e w1 ⟨rfl, ⟨n1, rfl⟩⟩)
    | (go_at_call 43; (with_reducible refine (nan_c b false _ hb nb.out).mono ?_); rintro e w1 ⟨rfl, ⟨n2, rfl⟩⟩))
  go_ret
  exact ⟨rfl, by repeat (first | exact Drawn0.refl _ | apply Drawn0.step)⟩

theorem rless_n (a b : Nat) (w : World) (ha : a < full) (hb : b < full) (na : Aside0 (isNaN a = false)) (nb : Aside0 (isNaN b = false)) (za : (FloatKind.f64.format.order a 0 == some .eq) = false) : Calls Try.prog 15 #[.float .f64 a, .float .f64 b] w fun e w' => e = .returned (.bool (FloatKind.f64.format.order a b == some .lt)) ∧ Drawn0 w w' := by
  go_enter Try.func15, Try.ntmps15
  go_wp2_with (first
    | (go_at_call 43; (with_reducible refine (nan_c a false _ ha na.out).mono ?_); rintro e w1 ⟨rfl, ⟨n1, rfl⟩⟩)
    | (go_at_call 43; (with_reducible refine (nan_c b false _ hb nb.out).mono ?_); rintro e w1 ⟨rfl, ⟨n2, rfl⟩⟩))
  go_ret
  exact ⟨rfl, by repeat (first | exact Drawn0.refl _ | apply Drawn0.step)⟩

theorem rless_c (a b : Nat) (r : Bool) (w : World) (ha : a < full) (hb : b < full) (h : less a b = r) : Calls Try.prog 15 #[.float .f64 a, .float .f64 b] w fun e w' => e = .returned (.bool r) ∧ Drawn0 w w' := by
  subst h
  unfold less
  have h0 : (0 : Nat) < full := by decide
  have e1 := cmp_eq a 0 ha h0
  have e2 := cmp_eq b 0 hb h0
  have e3 := cmp_lt a b ha hb
  rw [key_zero, nan_zero] at e1 e2
  cases na : isNaN a with
  | true => simpa using rless_nan1 a b w ha hb ⟨na⟩
  | false =>
    cases nb : isNaN b with
    | true => simpa using rless_nan2 a b w ha hb ⟨na⟩ ⟨nb⟩
    | false =>
      rw [na] at e1 e3
      rw [nb] at e2 e3
      simp only [Bool.not_false, Bool.true_and] at e1 e2 e3
      simp only [Bool.or_self, Bool.false_eq_true, if_false]
      by_cases za : key a = 0
      · rw [decide_eq_true za] at e1
        by_cases zb : key b = 0
        · rw [decide_eq_true zb] at e2
          rw [if_pos ⟨za, zb⟩]
          exact rless_zz a b _ _ w ha hb ⟨na⟩ ⟨nb⟩ e1 e2 ⟨rfl⟩ ⟨rfl⟩
        · rw [decide_eq_false zb] at e2
          rw [if_neg (fun h => zb h.2), ← e3]
          exact rless_z a b w ha hb ⟨na⟩ ⟨nb⟩ e1 e2
      · rw [decide_eq_false za] at e1
        rw [if_neg (fun h => za h.1), ← e3]
        exact rless_n a b w ha hb ⟨na⟩ ⟨nb⟩ e1
theorem rsame_1 (a b : Nat) (w : World) (ha : a < full) (hb : b < full) (h1 : Aside0 (less a b = true)) : Calls Try.prog 17 #[.float .f64 a, .float .f64 b] w fun e w' => e = .returned (.bool false) ∧ Drawn0 w w' := by
  go_enter Try.func17, Try.ntmps17
  go_wp2_with (go_at_call 15; (with_reducible refine (rless_c a b true _ ha hb h1.out).mono ?_); rintro e w1 ⟨rfl, ⟨n1, rfl⟩⟩)
  go_ret
  exact ⟨rfl, by repeat (first | exact Drawn0.refl _ | apply Drawn0.step)⟩

theorem rsame_2 (a b : Nat) (r : Bool) (w : World) (ha : a < full) (hb : b < full) (h1 : Aside0 (less a b = false)) (h2 : Aside0 (less b a = r)) : Calls Try.prog 17 #[.float .f64 a, .float .f64 b] w fun e w' => e = .returned (.bool (!r)) ∧ Drawn0 w w' := by
  go_enter Try.func17, Try.ntmps17
  go_wp2_with (first
    | (go_at_call 15; (with_reducible refine (rless_c a b false _ ha hb h1.out).mono ?_); rintro e w1 ⟨rfl, ⟨n1, rfl⟩⟩)
    | (go_at_call 15; (with_reducible refine (rless_c b a r _ hb ha h2.out).mono ?_); rintro e w1 ⟨rfl, ⟨n2, rfl⟩⟩))
  go_ret
  exact ⟨rfl, by repeat (first | exact Drawn0.refl _ | apply Drawn0.step)⟩

theorem rsame_c (a b : Nat) (r : Bool) (w : World) (ha : a < full) (hb : b < full) (h : same a b = r) : Calls Try.prog 17 #[.float .f64 a, .float .f64 b] w fun e w' => e = .returned (.bool r) ∧ Drawn0 w w' := by
  subst h
  unfold same
  cases h1 : less a b with
  | true => simpa using rsame_1 a b w ha hb ⟨h1⟩
  | false => simpa using rsame_2 a b _ w ha hb ⟨h1⟩ ⟨rfl⟩

end Go.Proofs.Ytnfdalfnbjencaa.Fw
