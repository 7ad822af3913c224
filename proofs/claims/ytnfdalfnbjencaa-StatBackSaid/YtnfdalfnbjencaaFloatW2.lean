/- The walks of Unrank, NaN, Inf, Copysign. -/
import Derived.Test.YtnfdalfnbjencaaFloatW
namespace Go.Proofs.Ytnfdalfnbjencaa.Fw
open Go.RowKit Go.Proofs.Ytnfdalfnbjencaa.Fl Go.Proofs.YtnfdalfnbjencaaW.PrintWords
set_option linter.unusedVariables false
set_option linter.unusedSimpArgs false

theorem ret_two {a c : Nat} {b d : Bool} (h : (a, b) = (c, d)) : Ending.returned (.tuple #[.float .f64 a, .bool b]) = .returned (.tuple #[.float .f64 c, .bool d]) := by
  injection h with h1 h2; rw [h1, h2]
theorem ret_f {a c : Nat} (h : a = c) : Ending.returned (.float .f64 a) = .returned (.float .f64 c) := by rw [h]

theorem naN_c (w : World) : Calls Try.prog 46 #[] w fun e w' => e = .returned (.float .f64 nanBits) ∧ Drawn0 w w' := by
  have h11 := fun w => call_frombits 9221120237041090561 w
  go_enter Try.func46, Try.ntmps46
  go_wp2
  go_ret
  exact ⟨rfl, Drawn0.refl _⟩

theorem ne_nan (n : Nat) (h : n ≠ nanRank) : ((n : Int) == 18444492273895866369) = false := by
  rw [beq_eq_false_iff_ne]
  unfold nanRank at h
  omega
theorem frombits_nat (n : Nat) (w : World) : (callFunc 11 #[.int .u64 (n : Int)]).run Try.prog w = .ok (.value (.float .f64 n)) w := call_frombits n w

theorem unrank_c (n : Nat) (f : Nat) (is : Bool) (w : World) (hn : n < full) (h : unrank n = (f, is)) : Calls Try.prog 28 #[.int .u64 (n : Int)] w fun e w' => e = .returned (.tuple #[.float .f64 f, .bool is]) ∧ Drawn0 w w' := by
  unfold unrank at h
  by_cases hq : n = nanRank
  · subst hq
    rw [if_pos rfl] at h
    have H := Aside0.mk h
    clear h
    show Calls Try.prog 28 #[.int .u64 18444492273895866369] w _
    go_enter Try.func28, Try.ntmps28
    go_wp2_with (go_at_call 46; (with_reducible refine (naN_c _).mono ?_); rintro e w1 ⟨rfl, ⟨n, rfl⟩⟩)
    go_ret2
    exact ⟨ret_two H.out, by repeat (first | exact Drawn0.refl _ | apply Drawn0.step)⟩
  · rw [if_neg hq] at h
    have hq1 := ne_nan n hq
    obtain ⟨b, hb⟩ : ∃ b, bitsOf n = b := ⟨_, rfl⟩
    have hbl : b < full := hb ▸ bitsOf_lt n hn
    rw [hb] at h
    have h11 := fun w => frombits_nat b w
    cases hbe : below n with
    | true =>
      have ha := and_yes n hn hbe
      have HX : bits .andNot .u64 (n : Int) 9223372036854775808 = (b : Int) := by
        rw [andNot_big n hn, ← hb]
        unfold bitsOf below big full at *
        simp only [decide_eq_true_eq] at hbe
        rw [if_pos hbe]; omega
      cases hN : isNaN b with
      | true =>
        rw [if_pos hN] at h
        have H := Aside0.mk h
        have HN := Aside0.mk hN
        clear h hN hq hb hbe
        go_enter Try.func28, Try.ntmps28
        go_wp2_with (go_at_call 42; (with_reducible refine (isNaN_c b true _ hbl HN.out).mono ?_); rintro e w1 ⟨rfl, ⟨n, rfl⟩⟩)
        go_ret2
        exact ⟨ret_two H.out, by repeat (first | exact Drawn0.refl _ | apply Drawn0.step)⟩
      | false =>
        rw [if_neg (by rw [hN]; decide)] at h
        have H := Aside0.mk h
        have HN := Aside0.mk hN
        clear h hN hq hb hbe
        go_enter Try.func28, Try.ntmps28
        go_wp2_with (go_at_call 42; (with_reducible refine (isNaN_c b false _ hbl HN.out).mono ?_); rintro e w1 ⟨rfl, ⟨n, rfl⟩⟩)
        go_ret2
        exact ⟨ret_two H.out, by repeat (first | exact Drawn0.refl _ | apply Drawn0.step)⟩
    | false =>
      have ha := and_no n hn hbe
      have HX : bits .xor .u64 IntKind.u64.max (n : Int) = (b : Int) := by
        rw [show IntKind.u64.max = 18446744073709551615 from by decide, not_u64 n hn, ← hb]
        unfold bitsOf below big full at *
        simp only [decide_eq_false_iff_not] at hbe
        rw [if_neg hbe]
      cases hN : isNaN b with
      | true =>
        rw [if_pos hN] at h
        have H := Aside0.mk h
        have HN := Aside0.mk hN
        clear h hN hq hb hbe
        go_enter Try.func28, Try.ntmps28
        go_wp2_with (go_at_call 42; (with_reducible refine (isNaN_c b true _ hbl HN.out).mono ?_); rintro e w1 ⟨rfl, ⟨n, rfl⟩⟩)
        go_ret2
        exact ⟨ret_two H.out, by repeat (first | exact Drawn0.refl _ | apply Drawn0.step)⟩
      | false =>
        rw [if_neg (by rw [hN]; decide)] at h
        have H := Aside0.mk h
        have HN := Aside0.mk hN
        clear h hN hq hb hbe
        go_enter Try.func28, Try.ntmps28
        go_wp2_with (go_at_call 42; (with_reducible refine (isNaN_c b false _ hbl HN.out).mono ?_); rintro e w1 ⟨rfl, ⟨n, rfl⟩⟩)
        go_ret2
        exact ⟨ret_two H.out, by repeat (first | exact Drawn0.refl _ | apply Drawn0.step)⟩


theorem geq_big (n : Nat) (h : below n = true) : decide ((9223372036854775808 : Int) ≤ (n : Int)) = true := by
  unfold below big at h; simp only [decide_eq_true_eq] at h ⊢; omega
theorem geq_big' (n : Nat) (h : below n = false) : decide ((9223372036854775808 : Int) ≤ (n : Int)) = false := by
  unfold below big at h; simp only [decide_eq_false_iff_not] at h ⊢; omega
theorem neq_nan (n : Nat) (h : n ≠ nanRank) : ((n : Int) != 18444492273895866369) = true := by
  rw [bne_iff_ne]; unfold nanRank at h; omega

set_option maxRecDepth 100000 in
/-- The rank's bits, in the document's text: what is told of them. -/
theorem refUnrank_at (n b : Nat) (q nn : Bool) (w : World) (hbl : b < full) (hn : n < full) (hbe : Aside0 (below n = true ∧ n - big = b ∨ below n = false ∧ all1 - n = b)) (HN : Aside0 (isNaN b = nn)) (hq : ((n : Int) != 18444492273895866369) = q) :
    Calls Try.prog 29 #[.int .u64 (n : Int)] w fun e w' => e = .returned (if (nn && q) = true then .tuple #[.float .f64 0, .bool false] else .tuple #[.float .f64 b, .bool true]) ∧ Drawn0 w w' := by
  have h11 := fun w => frombits_nat b w
  rcases hbe.out with ⟨h1, h2⟩ | ⟨h1, h2⟩
  · have hd := geq_big n h1
    have hd2 : (9223372036854775808 : Int) ≤ (n : Int) := by simpa using hd
    have hlt : (n : Int) ≤ 18446744073709551615 := by unfold full at hn; omega
    have HX : (n : Int) - 9223372036854775808 = (b : Int) := by rw [← h2]; unfold big; omega
    clear h1 h2 hn hbe
    cases nn with
    | true =>
      cases q with
      | true =>
        go_enter Try.func29, Try.ntmps29
        go_wp2_with (go_at_call 43; (with_reducible refine (nan_c b true _ hbl HN.out).mono ?_); rintro e w1 ⟨rfl, ⟨n1, rfl⟩⟩)
        go_ret2
        exact ⟨rfl, by repeat (first | exact Drawn0.refl _ | apply Drawn0.step)⟩

      | false =>
        go_enter Try.func29, Try.ntmps29
        go_wp2_with (go_at_call 43; (with_reducible refine (nan_c b true _ hbl HN.out).mono ?_); rintro e w1 ⟨rfl, ⟨n1, rfl⟩⟩)
        go_ret2
        exact ⟨rfl, by repeat (first | exact Drawn0.refl _ | apply Drawn0.step)⟩

    | false =>
      go_enter Try.func29, Try.ntmps29
      go_wp2_with (go_at_call 43; (with_reducible refine (nan_c b false _ hbl HN.out).mono ?_); rintro e w1 ⟨rfl, ⟨n1, rfl⟩⟩)
      go_ret2
      exact ⟨rfl, by repeat (first | exact Drawn0.refl _ | apply Drawn0.step)⟩

  · have hd := geq_big' n h1
    have hlt : (n : Int) ≤ 18446744073709551615 := by unfold full at hn; omega
    have HX : 18446744073709551615 - (n : Int) = (b : Int) := by rw [← h2]; unfold all1; omega
    have h12 : ∀ w, (callFunc 11 #[.int .u64 (18446744073709551615 - (n : Int))]).run Try.prog w = .ok (.value (.float .f64 b)) w := fun w => by rw [HX]; exact frombits_nat b w
    clear h1 h2 hn hbe HX h11
    cases nn with
    | true =>
      cases q with
      | true =>
        go_enter Try.func29, Try.ntmps29
        go_wp2_with (go_at_call 43; (with_reducible refine (nan_c b true _ hbl HN.out).mono ?_); rintro e w1 ⟨rfl, ⟨n1, rfl⟩⟩)
        go_ret2
        exact ⟨rfl, by repeat (first | exact Drawn0.refl _ | apply Drawn0.step)⟩

      | false =>
        go_enter Try.func29, Try.ntmps29
        go_wp2_with (go_at_call 43; (with_reducible refine (nan_c b true _ hbl HN.out).mono ?_); rintro e w1 ⟨rfl, ⟨n1, rfl⟩⟩)
        go_ret2
        exact ⟨rfl, by repeat (first | exact Drawn0.refl _ | apply Drawn0.step)⟩

    | false =>
      go_enter Try.func29, Try.ntmps29
      go_wp2_with (go_at_call 43; (with_reducible refine (nan_c b false _ hbl HN.out).mono ?_); rintro e w1 ⟨rfl, ⟨n1, rfl⟩⟩)
      go_ret2
      exact ⟨rfl, by repeat (first | exact Drawn0.refl _ | apply Drawn0.step)⟩


theorem refUnrank_c (n : Nat) (f : Nat) (is : Bool) (w : World) (hn : n < full) (h : unrank n = (f, is)) : ∃ g, same f g = true ∧ g < full ∧ Calls Try.prog 29 #[.int .u64 (n : Int)] w fun e w' => e = .returned (.tuple #[.float .f64 g, .bool is]) ∧ Drawn0 w w' := by
  have hf : f < full := by have := unrank_lt n hn; rw [h] at this; exact this
  have hb : below n = true ∧ n - big = bitsOf n ∨ below n = false ∧ all1 - n = bitsOf n := by
    unfold below bitsOf
    by_cases hc : big ≤ n <;> simp [hc]
  have hbl := bitsOf_lt n hn
  unfold unrank at h
  by_cases hq : n = nanRank
  · rw [if_pos hq] at h
    injection h with h1 h2
    subst h1 h2
    refine ⟨bitsOf n, ?_, hbl, ?_⟩
    · subst hq; decide
    · have := refUnrank_at n (bitsOf n) false (isNaN (bitsOf n)) w hbl hn ⟨hb⟩ ⟨rfl⟩ (by subst hq; decide)
      simpa using this
  · rw [if_neg hq] at h
    have := refUnrank_at n (bitsOf n) true (isNaN (bitsOf n)) w hbl hn ⟨hb⟩ ⟨rfl⟩ (neq_nan n hq)
    cases hN : isNaN (bitsOf n) with
    | true =>
      rw [hN] at h this
      rw [if_pos rfl] at h
      injection h with h1 h2
      subst h1 h2
      exact ⟨0, by decide, by decide, by simpa using this⟩
    | false =>
      rw [hN] at h this
      rw [if_neg (by decide)] at h
      injection h with h1 h2
      subst h1 h2
      exact ⟨bitsOf n, same_refl _ hbl, hbl, by simpa using this⟩

theorem inf_c (w : World) : Calls Try.prog 47 #[.int .i64 1] w fun e w' => e = .returned (.float .f64 9218868437227405312) ∧ Drawn0 w w' := by
  have h11 := fun w => call_frombits 9218868437227405312 w
  go_enter Try.func47, Try.ntmps47
  go_wp2
  go_ret
  exact ⟨rfl, by repeat (first | exact Drawn0.refl _ | apply Drawn0.step)⟩

theorem ninf_c (w : World) : Calls Try.prog 47 #[.int .i64 (-1)] w fun e w' => e = .returned (.float .f64 18442240474082181120) ∧ Drawn0 w w' := by
  have h11 := fun w => call_frombits 18442240474082181120 w
  go_enter Try.func47, Try.ntmps47
  go_wp2
  go_ret
  exact ⟨rfl, by repeat (first | exact Drawn0.refl _ | apply Drawn0.step)⟩

theorem copysign_c (w : World) : Calls Try.prog 45 #[.float .f64 0, .float .f64 13830554455654793216] w fun e w' => e = .returned (.float .f64 9223372036854775808) ∧ Drawn0 w w' := by
  have h11 := fun w => call_frombits 9223372036854775808 w
  have h41 := fun b w => call_bits b w
  have e1 : bits .andNot .u64 0 9223372036854775808 = 0 := by decide +kernel
  have e2 : bits .and .u64 13830554455654793216 9223372036854775808 = 9223372036854775808 := by decide +kernel
  have e3 : bits .or .u64 0 9223372036854775808 = 9223372036854775808 := by decide +kernel
  go_enter Try.func45, Try.ntmps45
  go_wp2
  go_ret
  exact ⟨rfl, by repeat (first | exact Drawn0.refl _ | apply Drawn0.step)⟩

end Go.Proofs.Ytnfdalfnbjencaa.Fw
