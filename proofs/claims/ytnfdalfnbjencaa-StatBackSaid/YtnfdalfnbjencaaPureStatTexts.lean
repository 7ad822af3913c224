/- StatTexts' plain law: both ways to read a text read the same, both ways to write one write the same. -/
import Derived.Test.YtnfdalfnbjencaaHTextx1
namespace Go.Proofs.Ytnfdalfnbjencaa.Pure
open Go.RowKit Go.Proofs.Ytnfdalfnbjencaa.HText Go.Proofs.YtnfdalfnbjencaaW.PrintWords Go.Proofs.YtnfdalfnbjencaaW.PrintLast Go.Proofs.Ytnfdalfnbjencaa.Fl Go.Proofs.Ytnfdalfnbjencaa.Fw
set_option linter.unusedVariables false
set_option linter.unusedSimpArgs false

/-- The last d below 16, from d on, whose digit is b; x where there is none. -/
def scan (b : Nat) : Nat → Nat → Nat → Nat
  | 0, x, _ => x
  | m + 1, x, d => scan b m (if hexd d = b then d else x) (d + 1)
def hv (b : Nat) : Nat := scan b 16 16 0
theorem scan_le (b : Nat) : ∀ m x d, x ≤ 16 → d + m ≤ 16 → scan b m x d ≤ 16
  | 0, x, d, h, _ => h
  | m + 1, x, d, h, h2 => scan_le b m _ (d + 1) (by split <;> omega) (by omega)
theorem hv_le (b : Nat) : hv b ≤ 16 := scan_le b 16 16 0 (by decide) (by decide)

def digits : List Int := [48, 49, 50, 51, 52, 53, 54, 55, 56, 57, 97, 98, 99, 100, 101, 102]
theorem index_all : ∀ b, b < 256 → slices_Index_byte_byte.f 17 digits ((b : Nat) : Int) = some (if hv b = 16 then -1 else ((hv b : Nat) : Int)) := by decide +kernel
theorem index_f (k b : Nat) (hb : b < 256) : slices_Index_byte_byte.f (k + 17) digits ((b : Nat) : Int) = some (if hv b = 16 then -1 else ((hv b : Nat) : Int)) := by
  induction k with
  | zero => exact index_all b hb
  | succ k ih => exact (show k + 1 + 17 = k + 17 + 1 by omega) ▸ slices_Index_byte_byte.mono _ _ _ _ ih
theorem digit_f (d : Nat) (h : d < 16) : boscageref41_digit.f (d : Int) = some ((hexd d : Nat) : Int) := by
  unfold boscageref41_digit.f hexd
  by_cases h1 : d < 10
  · rw [if_pos (by omega), if_pos h1, IntKind.wrap_u64]; congr 1; omega
  · rw [if_neg (by omega), if_neg h1, IntKind.wrap_u64]; congr 1; omega

/-- The number that the bytes from i on spell, behind x. -/
def go (s : ByteArray) : Nat → Nat → Nat → Option Nat
  | 0, _, x => some x
  | m + 1, i, x => if hv (bt s i).toNat = 16 then none else go s m (i + 1) (16 * x + hv (bt s i).toNat)
def finA : Option Nat → Int × Int
  | none => (0, 5)
  | some n => if (unrank n).2 = true then (((unrank n).1 : Int), 0) else (0, 5)
def finB : Option Nat → Int × Int
  | none => (0, 5)
  | some n => if (runrank n).2 = true then (((runrank n).1 : Int), 0) else (0, 5)

theorem or_digit (x v : Nat) (hx : x < 1152921504606846976) (hv : v < 16) : Go.bits .or .u64 (IntKind.u64.wrap ((x : Int) * 16)) (IntKind.u64.wrap (v : Int)) = ((16 * x + v : Nat) : Int) := by
  rw [IntKind.wrap_u64, IntKind.wrap_u64, show (x : Int) * 16 % 18446744073709551616 = ((16 * x : Nat) : Int) by omega, show (v : Int) % 18446744073709551616 = ((v : Nat) : Int) by omega]
  refine (u64_or_nat _ _ (by omega) (by omega)).trans ?_
  rw [show 16 * x = 2 ^ 4 * x from rfl, ← Nat.two_pow_add_eq_or_of_lt (i := 4) (by omega) x]
theorem bt_nat (s : ByteArray) (i : Int) : ∃ b : Nat, bt s i = (b : Int) ∧ b < 256 := by
  have := bt_range s i
  exact ⟨(bt s i).toNat, by omega, by omega⟩
theorem pow_step {x i v : Nat} (hx : x < 16 ^ i) (hv : v < 16) : 16 * x + v < 16 ^ (i + 1) := by rw [Nat.pow_succ]; generalize 16 ^ i = p at *; omega
theorem pow_15 {x i : Nat} (hx : x < 16 ^ i) (hi : i < 16) : x < 1152921504606846976 := by
  have : 16 ^ i ≤ 16 ^ 15 := Nat.pow_le_pow_right (by decide) (by omega)
  have e : (16 : Nat) ^ 15 = 1152921504606846976 := by decide
  omega
theorem unrank_f (n : Nat) (h : n < full) : float_Unrank.f (n : Int) = some (((unrank n).1 : Int), (unrank n).2) := by
  unfold float_Unrank.f
  rw [if_pos (by unfold full at h; omega)]
  rfl
theorem runrank_f (n : Nat) (h : n < full) : boscageref02_Unrank.f (n : Int) = some (((runrank n).1 : Int), (runrank n).2) := by
  unfold boscageref02_Unrank.f
  rw [if_pos (by unfold full at h; omega)]
  rfl

theorem parse_loop (s : ByteArray) (hs : s.size = 16) : ∀ (m k i x : Nat), i + m = 16 → x < 16 ^ i → 18 + m ≤ k → stat_Parse.l0 k s (x : Int) 16 (i : Int) = some (finA (go s m i x)) := by
  intro m
  induction m with
  | zero =>
    intro k i x hi hx hk
    obtain ⟨k, rfl⟩ : ∃ j, k = j + 1 := ⟨k - 1, by omega⟩
    have hi' : i = 16 := by omega
    subst hi'
    unfold stat_Parse.l0
    rw [if_neg (by decide), unrank_f x (by have e : (16 : Nat) ^ 16 = full := by decide
                                           omega), Option.bind_some]
    unfold go finA
    by_cases h : (unrank x).2 = true
    · rw [if_pos h]; simp only [if_pos h]
    · rw [if_neg h]; simp only [if_neg h]
  | succ m ih =>
    intro k i x hi hx hk
    obtain ⟨k, rfl⟩ : ∃ j, k = j + 1 := ⟨k - 1, by omega⟩
    obtain ⟨b, hb, hbl⟩ := bt_nat s (i : Int)
    unfold stat_Parse.l0
    rw [if_pos (by omega), if_pos (by omega), if_pos (by omega), hb]
    have e : slices_Index_byte_byte.f k ([48, 49, 50, 51, 52, 53, 54, 55, 56, 57, 97, 98, 99, 100, 101, 102] : List Int) (b : Int) = some (if hv b = 16 then -1 else ((hv b : Nat) : Int)) := by
      have := index_f (k - 17) b hbl
      rw [show k - 17 + 17 = k by omega] at this
      exact this
    rw [e, Option.bind_some]
    have hvl := hv_le b
    unfold go
    rw [hb, Int.toNat_natCast]
    by_cases hv16 : hv b = 16
    · rw [if_pos hv16, if_pos hv16, if_pos (by decide)]; rfl
    · rw [if_neg hv16, if_neg hv16, if_neg (by omega), or_digit x (hv b) (pow_15 hx (by omega)) (by omega), show wrap64 ((i : Int) + 1) = ((i + 1 : Nat) : Int) by unfold wrap64; omega]
      exact ih k (i + 1) _ (by omega) (pow_step hx (by omega)) (by omega)

theorem scan_loop (s : ByteArray) (b : Nat) (x i : Nat) (hs : s.size = 16) (hi : i < 16) (hb : bt s (i : Int) = (b : Int)) : ∀ (m k y d : Nat), d + m = 16 → y ≤ 16 →
    boscageref41_Parse.l1 (k + m + 1) s (x : Int) (i : Int) (y : Int) (d : Int) = if scan b m y d = 16 then some (0, 5) else boscageref41_Parse.l0 k s (IntKind.u64.wrap ((IntKind.u64.wrap (16 * (x : Int))) + ((scan b m y d : Nat) : Int))) (wrap64 ((i : Int) + 1)) := by
  intro m
  induction m with
  | zero =>
    intro k y d hd hy
    have hd' : d = 16 := by omega
    subst hd'
    unfold boscageref41_Parse.l1 scan
    rw [if_neg (by decide)]
    by_cases h : y = 16
    · rw [if_pos (by omega), if_pos h]
    · rw [if_neg (by omega), if_neg h]
  | succ m ih =>
    intro k y d hd hy
    rw [show k + (m + 1) + 1 = (k + m + 1) + 1 by omega]
    conv => lhs; unfold boscageref41_Parse.l1
    rw [if_pos (by omega), digit_f d (by omega), Option.bind_some, if_pos (by omega), if_pos (by omega), hb, show IntKind.u64.wrap ((d : Int) + 1) = ((d + 1 : Nat) : Int) by rw [IntKind.wrap_u64]; omega]
    unfold scan
    by_cases h : hexd d = b
    · rw [if_pos (by omega), if_pos h]
      exact ih k d (d + 1) (by omega) (by omega)
    · rw [if_neg (by omega), if_neg h]
      exact ih k y (d + 1) (by omega) hy

theorem rparse_loop (s : ByteArray) (hs : s.size = 16) : ∀ (m k i x : Nat), i + m = 16 → x < 16 ^ i → boscageref41_Parse.l0 (k + 18 * m + 1) s (x : Int) (i : Int) = some (finB (go s m i x)) := by
  intro m
  induction m with
  | zero =>
    intro k i x hi hx
    have hi' : i = 16 := by omega
    subst hi'
    unfold boscageref41_Parse.l0
    rw [if_neg (by decide), runrank_f x (by have e : (16 : Nat) ^ 16 = full := by decide
                                            omega), Option.bind_some]
    unfold go finB
    by_cases h : (runrank x).2 = true
    · rw [if_pos h]; simp only [if_pos h]
    · rw [if_neg h]; simp only [if_neg h]
  | succ m ih =>
    intro k i x hi hx
    obtain ⟨b, hb, hbl⟩ := bt_nat s (i : Int)
    rw [show k + 18 * (m + 1) + 1 = ((k + 18 * m + 1) + 16 + 1) + 1 by omega]
    conv => lhs; unfold boscageref41_Parse.l0
    rw [if_pos (by omega)]
    have e := scan_loop s b x i hs (by omega) hb 16 (k + 18 * m + 1) 16 0 (by omega) (by omega)
    refine Eq.trans e ?_
    have hvl := hv_le b
    unfold go
    rw [hb, Int.toNat_natCast]
    show (if hv b = 16 then _ else _) = _
    by_cases hv16 : hv b = 16
    · rw [if_pos hv16, if_pos hv16]; rfl
    · rw [if_neg hv16, if_neg hv16]
      have h15 := pow_15 hx (by omega)
      have e2 : IntKind.u64.wrap ((IntKind.u64.wrap (16 * (x : Int))) + ((scan b 16 16 0 : Nat) : Int)) = ((16 * x + hv b : Nat) : Int) := by
        rw [IntKind.wrap_u64, IntKind.wrap_u64]; show _ = ((16 * x + scan b 16 16 0 : Nat) : Int)
        have : scan b 16 16 0 ≤ 16 := hvl
        have hne : scan b 16 16 0 ≠ 16 := hv16
        omega
      rw [e2, show wrap64 ((i : Int) + 1) = ((i + 1 : Nat) : Int) by unfold wrap64; omega]
      exact ih k (i + 1) _ (by omega) (pow_step hx (by omega))

theorem parse_f (s : ByteArray) : stat_Parse.f 400 s = some (if s.size = 16 then finA (go s 16 0 0) else (0, 5)) := by
  unfold stat_Parse.f
  by_cases h : s.size = 16
  · rw [if_pos (by omega), if_pos h, show (s.size : Int) = 16 by omega]
    exact parse_loop s h 16 400 0 0 (by omega) (by decide) (by omega)
  · rw [if_neg (by omega), if_neg h]
theorem rparse_f (s : ByteArray) : boscageref41_Parse.f 400 s = some (if s.size = 16 then finB (go s 16 0 0) else (0, 5)) := by
  unfold boscageref41_Parse.f
  by_cases h : s.size = 16
  · rw [if_pos (by omega), if_pos h]
    exact rparse_loop s h 16 111 0 0 (by omega) (by decide)
  · rw [if_neg (by omega), if_neg h]

theorem unrank_run (n : Nat) : unrank n = if n = nanRank then (nanBits, true) else runrank n := by
  unfold unrank runrank
  by_cases h : n = nanRank
  · rw [if_pos h, if_pos h]
  · rw [if_neg h, if_neg h]
    simp only [ne_eq, h, not_false_eq_true, decide_true, Bool.and_true]
theorem go_lt (s : ByteArray) : ∀ (m i x : Nat) (n : Nat), x < 16 ^ i → go s m i x = some n → n < 16 ^ (i + m)
  | 0, i, x, n, hx, h => by
    unfold go at h
    obtain rfl := Option.some.inj h
    exact hx
  | m + 1, i, x, n, hx, h => by
    unfold go at h
    have hvl := hv_le (bt s i).toNat
    by_cases hv16 : hv (bt s i).toNat = 16
    · rw [if_pos hv16] at h; exact absurd h (by simp)
    · rw [if_neg hv16] at h
      have := go_lt s m (i + 1) _ n (pow_step hx (by omega)) h
      rw [show i + (m + 1) = i + 1 + m by omega]
      exact this

theorem runrank_lt (n : Nat) (h : n < full) : (runrank n).1 < full := by
  unfold runrank
  split
  · decide
  · exact bitsOf_lt n h

theorem fin_same (o : Option Nat) (h : ∀ n, o = some n → n < full) : boscageref02_Same.f (finA o).1 (finB o).1 = some true ∧ (finA o).2 = (finB o).2 := by
  have hS : ∀ a b : Nat, a < full → b < full → same a b = true → boscageref02_Same.f (a : Int) (b : Int) = some true := by
    intro a b ha hb hs
    unfold boscageref02_Same.f
    rw [if_pos (by unfold full at ha hb; omega), Int.toNat_natCast, Int.toNat_natCast, hs]
  cases o with
  | none => exact ⟨hS 0 0 (by decide) (by decide) (by decide), rfl⟩
  | some n =>
    have hn := h n rfl
    unfold finA finB
    by_cases hq : n = nanRank
    · subst hq
      have e1 : unrank nanRank = (nanBits, true) := by decide
      have e2 : runrank nanRank = (bitsOf nanRank, true) := by decide
      simp only [e1, e2, if_true]
      exact ⟨hS _ _ (by decide) (by decide) (by decide), trivial⟩
    · have e : unrank n = runrank n := by rw [unrank_run, if_neg hq]
      simp only [e]
      by_cases h2 : (runrank n).2 = true
      · simp only [if_pos h2]
        exact ⟨hS _ _ (runrank_lt n hn) (runrank_lt n hn) (same_refl _ (runrank_lt n hn)), trivial⟩
      · simp only [if_neg h2]
        exact ⟨hS 0 0 (by decide) (by decide) (by decide), trivial⟩

theorem str_cons (d : Int) (l : List Int) : strOfNums [d] ++ strOfNums l = strOfNums (d :: l) := by
  apply ByteArray.ext
  rw [ByteArray.data_append]
  unfold strOfNums
  simp
theorem text_len (n : Nat) : (text n).length = 16 := by simp [text]
theorem text_drop (n i : Nat) (h : i < 16) : (text n).drop (15 - i) = ((hexd (n / 16 ^ i % 16) : Nat) : Int) :: (text n).drop (16 - i) := by
  rw [List.drop_eq_getElem_cons (by rw [text_len]; omega), show 15 - i + 1 = 16 - i by omega]
  congr 1
  unfold text hxat
  simp only [List.getElem_map, List.getElem_range]
  rw [show 15 - (15 - i) = i by omega]

theorem text_loop (n : Nat) (hn : n < full) : ∀ (m k i : Nat), i + m = 16 → boscageref41_Text.l0 (k + m + 1) ((n / 16 ^ i : Nat) : Int) (strOfNums ((text n).drop (16 - i))) (i : Int) = some (strOfNums (text n)) := by
  intro m
  induction m with
  | zero =>
    intro k i hi
    have hi' : i = 16 := by omega
    subst hi'
    unfold boscageref41_Text.l0
    rw [if_neg (by decide)]
    rfl
  | succ m ih =>
    intro k i hi
    have hq : n / 16 ^ i < full := Nat.lt_of_le_of_lt (Nat.div_le_self _ _) hn
    rw [show k + (m + 1) + 1 = (k + m + 1) + 1 by omega]
    unfold boscageref41_Text.l0
    rw [if_pos (by omega), show Int.tmod ((n / 16 ^ i : Nat) : Int) 16 = ((n / 16 ^ i % 16 : Nat) : Int) from rfl, digit_f _ (Nat.mod_lt _ (by decide)), Option.bind_some, Option.bind_some,
      if_pos (by rw [strOfNums_size, strOfNums_size, List.length_drop, text_len]; simp only [List.length_cons, List.length_nil]; omega), str_cons, ← text_drop n i (by omega)]
    have e1 : IntKind.u64.wrap (Int.tdiv ((n / 16 ^ i : Nat) : Int) 16) = ((n / 16 ^ (i + 1) : Nat) : Int) := by
      rw [show Int.tdiv ((n / 16 ^ i : Nat) : Int) 16 = ((n / 16 ^ i / 16 : Nat) : Int) from rfl, IntKind.wrap_u64, Nat.pow_succ, ← Nat.div_div_eq_div_mul]
      generalize n / 16 ^ i = q at *
      unfold full at hq
      omega
    rw [e1, show wrap64 ((i : Int) + 1) = ((i + 1 : Nat) : Int) by unfold wrap64; omega, show 15 - i = 16 - (i + 1) by omega]
    exact ih k (i + 1) (by omega)

theorem rtext_f (F : Int) (h0 : 0 ≤ F) (h1 : F < 18446744073709551616) : boscageref41_Text.f 400 F = some (strOfNums (text (rank F.toNat))) := by
  unfold boscageref41_Text.f boscageref02_Rank.f
  rw [if_pos ⟨h0, h1⟩, Option.bind_some]
  have := text_loop (rank F.toNat) (rank_lt _ (by unfold full; omega)) 16 383 0 (by omega)
  rw [Nat.pow_zero, Nat.div_one, List.drop_eq_nil_of_le (by rw [text_len]; omega)] at this
  exact this

theorem cut_f (s : ByteArray) : ∃ t, boscagebase_Cut.f s 40 = some t := by
  unfold boscagebase_Cut.f
  have hm : 0 ≤ mn (s.size : Int) 40 ∧ mn (s.size : Int) 40 ≤ s.size := by unfold mn; split <;> omega
  rw [if_pos hm.1, if_pos hm.2]
  exact ⟨_, rfl⟩

theorem StatTexts : boscagelaw41_StatTexts.Pure := by
  intro F s wF hs
  have hF : 0 ≤ F ∧ F < 18446744073709551616 := by
    obtain ⟨b, rfl, hb⟩ := wf_u64 wF
    unfold full at hb; omega
  refine ⟨400, ?_⟩
  obtain ⟨t, ht⟩ := cut_f s
  unfold boscagelaw41_StatTexts.f
  rw [ht]
  simp only [Option.bind_some]
  rw [parse_f, rparse_f]
  simp only [Option.bind_some]
  have e : stat_Text.f F = some (strOfNums (text (rank F.toNat))) := by unfold stat_Text.f; rw [if_pos hF]
  rw [e]
  simp only [Option.bind_some]
  rw [rtext_f F hF.1 hF.2]
  simp only [Option.bind_some, if_true]
  by_cases h16 : t.size = 16
  · simp only [if_pos h16]
    obtain ⟨h1, h2⟩ := fin_same (go t 16 0 0) (fun n hn => by
      have := go_lt t 16 0 0 n (by decide) hn
      have e : (16 : Nat) ^ (0 + 16) = full := by decide
      omega)
    rw [h1, h2]
    simp only [Option.bind_some, if_true]
    rfl
  · simp only [if_neg h16]
    obtain ⟨h1, _⟩ := fin_same none (fun n h => by cases h)
    have h1' : boscageref02_Same.f 0 0 = some true := h1
    rw [h1']
    simp only [Option.bind_some, if_true]
    rfl

end Go.Proofs.Ytnfdalfnbjencaa.Pure
