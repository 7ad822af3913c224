/- The plain law of StatBack: texts are in order as their numbers; a text read back; least and most bound. -/
import Derived.Test.YtnfdalfnbjencaaPureStatTexts
import Derived.Test.YtnfdalfnbjencaaMidL
import Derived.Lib.Bytes
namespace Go.Proofs.Ytnfdalfnbjencaa.Pure
open Go.RowKit Go.Proofs.Ytnfdalfnbjencaa.HText Go.Proofs.YtnfdalfnbjencaaW.PrintWords Go.Proofs.YtnfdalfnbjencaaW.PrintLast Go.Proofs.Ytnfdalfnbjencaa.Fl Go.Proofs.Ytnfdalfnbjencaa.Fw
set_option linter.unusedVariables false
set_option linter.unusedSimpArgs false

theorem hexd_mono (a b : Nat) (ha : a < 16) (hb : b < 16) : (hexd a < hexd b ↔ a < b) ∧ (hexd a = hexd b ↔ a = b) := by
  unfold hexd
  constructor <;> (split <;> split <;> omega)
/-- The last k digits of n, as bytes. -/
def tailB (n : Nat) : Nat → List UInt8
  | 0 => []
  | k + 1 => UInt8.ofNat (hexd (n / 16 ^ k % 16)) :: tailB n k
theorem tail_text (n : Nat) : ∀ k, k ≤ 16 → ((text n).drop (16 - k)).map (fun n => UInt8.ofNat n.toNat) = tailB n k
  | 0, _ => by rw [List.drop_of_length_le (by rw [text_len]; omega)]; rfl
  | k + 1, h => by
    rw [show 16 - (k + 1) = 15 - k by omega, text_drop n k (by omega), List.map_cons, tail_text n k (by omega), Int.toNat_natCast]; rfl
theorem text_tail (n : Nat) : (strOfNums (text n)).toList = tailB n 16 := by
  rw [← tail_text n 16 (by decide)]
  exact Lib.strOfNums_toList _
theorem u8_lt (a b : Nat) (ha : a < 256) (hb : b < 256) : (UInt8.ofNat a < UInt8.ofNat b ↔ a < b) ∧ (UInt8.ofNat a = UInt8.ofNat b ↔ a = b) := by
  constructor
  · rw [UInt8.lt_iff_toNat_lt]; simp [Nat.mod_eq_of_lt ha, Nat.mod_eq_of_lt hb]
  · rw [← UInt8.toNat_inj]; simp [Nat.mod_eq_of_lt ha, Nat.mod_eq_of_lt hb]
theorem div_mod_pow (n k : Nat) : n % 16 ^ (k + 1) = n / 16 ^ k % 16 * 16 ^ k + n % 16 ^ k := by
  rw [Nat.pow_succ, Nat.mod_mul]; rw [Nat.mul_comm]; omega
theorem tail_less (n m : Nat) : ∀ k, Op.bytesLess (tailB n k) (tailB m k) = decide (n % 16 ^ k < m % 16 ^ k)
  | 0 => by simp [tailB, Op.bytesLess, Nat.mod_one]
  | k + 1 => by
    have ih := tail_less n m k
    have ha : n / 16 ^ k % 16 < 16 := Nat.mod_lt _ (by decide)
    have hb : m / 16 ^ k % 16 < 16 := Nat.mod_lt _ (by decide)
    have h1 : n % 16 ^ k < 16 ^ k := Nat.mod_lt _ (Nat.pow_pos (by decide))
    have h2 : m % 16 ^ k < 16 ^ k := Nat.mod_lt _ (Nat.pow_pos (by decide))
    rw [div_mod_pow n, div_mod_pow m]
    unfold tailB
    generalize n / 16 ^ k % 16 = a at *
    generalize m / 16 ^ k % 16 = b at *
    generalize n % 16 ^ k = x at *
    generalize m % 16 ^ k = y at *
    generalize 16 ^ k = p at *
    have h3 := hexd_mono a b ha hb
    have h4 := hexd_mono b a hb ha
    have h5 := u8_lt (hexd a) (hexd b) (hexd_lt a ha) (hexd_lt b hb)
    have h6 := u8_lt (hexd b) (hexd a) (hexd_lt b hb) (hexd_lt a ha)
    have key : (a * p + x < b * p + y) ↔ (a < b ∨ (a = b ∧ x < y)) := by
      rcases Nat.lt_trichotomy a b with h | h | h
      · have : (a + 1) * p ≤ b * p := Nat.mul_le_mul_right p h
        rw [Nat.add_mul, Nat.one_mul] at this
        constructor
        · intro _; exact .inl h
        · intro _; omega
      · subst h; constructor <;> (intro hh; omega)
      · have : (b + 1) * p ≤ a * p := Nat.mul_le_mul_right p h
        rw [Nat.add_mul, Nat.one_mul] at this
        constructor <;> (intro hh; omega)
    have e1 : decide (UInt8.ofNat (hexd a) < UInt8.ofNat (hexd b)) = decide (a < b) := by rw [decide_eq_decide]; exact h5.1.trans h3.1
    have e2 : (UInt8.ofNat (hexd a) == UInt8.ofNat (hexd b)) = decide (a = b) := by rw [Bool.eq_iff_iff, beq_iff_eq, decide_eq_true_eq]; exact h5.2.trans h3.2
    show (decide (UInt8.ofNat (hexd a) < UInt8.ofNat (hexd b)) || (UInt8.ofNat (hexd a) == UInt8.ofNat (hexd b) && Op.bytesLess (tailB n k) (tailB m k))) = _
    rw [e1, e2, ih, Bool.eq_iff_iff]
    simp only [Bool.or_eq_true, Bool.and_eq_true, decide_eq_true_eq]
    exact key.symm
theorem text_less (n m : Nat) (hn : n < full) (hm : m < full) : Op.bytesLess (strOfNums (text n)).toList (strOfNums (text m)).toList = decide (n < m) := by
  rw [text_tail, text_tail, tail_less, Nat.mod_eq_of_lt (show n < 16 ^ 16 from hn), Nat.mod_eq_of_lt (show m < 16 ^ 16 from hm)]

theorem hv_hexd : ∀ d, d < 16 → hv (hexd d) = d := by decide +kernel
theorem bt_text (n i : Nat) (hi : i < 16) : (bt (strOfNums (text n)) (i : Int)).toNat = hexd (n / 16 ^ (15 - i) % 16) := by
  have hlt : (i : Int).toNat < (strOfNums (text n)).size := by rw [strOfNums_size, text_len]; omega
  have hd : n / 16 ^ (15 - i) % 16 < 16 := Nat.mod_lt _ (by decide)
  unfold bt
  rw [dif_pos hlt, Int.toNat_natCast]
  have e : (strOfNums (text n))[(i : Int).toNat]'hlt = UInt8.ofNat (hexd (n / 16 ^ (15 - i) % 16)) := by
    show (strOfNums (text n)).data[i]'_ = _
    unfold strOfNums text hxat
    simp
  rw [e]
  simp [Nat.mod_eq_of_lt (hexd_lt _ hd)]
theorem go_text (n : Nat) : ∀ (m i x : Nat), i + m = 16 → x = n / 16 ^ m → go (strOfNums (text n)) m i x = some n
  | 0, i, x, _, hx => by rw [go, hx]; simp
  | m + 1, i, x, hi, hx => by
    have hd : n / 16 ^ m % 16 < 16 := Nat.mod_lt _ (by decide)
    rw [go, bt_text n i (by omega), show 15 - i = m by omega, hv_hexd _ hd, if_neg (by omega)]
    refine go_text n m (i + 1) _ (by omega) ?_
    rw [hx, Nat.pow_succ, ← Nat.div_div_eq_div_mul]
    omega
theorem parse_text (x : Nat) (hx : x < full) : stat_Parse.f 400 (strOfNums (text (rank x))) = some (((if isNaN x then nanBits else x : Nat) : Int), 0) := by
  have h16 : (16 : Nat) ^ 16 = full := by decide
  rw [parse_f, if_pos (by rw [strOfNums_size, text_len]), go_text (rank x) 16 0 0 (by decide) (by rw [h16, Nat.div_eq_of_lt (rank_lt x hx)])]
  have e : finA (some (rank x)) = (if (unrank (rank x)).2 = true then (((unrank (rank x)).1 : Int), 0) else (0, 5)) := rfl
  rw [e, unrank_rank x hx]; rfl

/-- Nothing is ahead of the best. -/
theorem least_bound (ys : List Nat) (hy : ∀ y ∈ ys, y < full) : ∀ y ∈ ys, less y (least ys) = false := by
  intro y hyy
  have key : ∀ (n : Nat) (l : List Nat), l.length = n → (∀ y ∈ l, y < full) → ∀ y ∈ l, rank (least l) ≤ rank y := by
    intro n
    induction n with
    | zero => intro l h _ y hy; rw [List.eq_nil_of_length_eq_zero h] at hy; cases hy
    | succ n ih =>
      intro l hl hf y hy
      obtain ⟨l', x, rfl⟩ : ∃ l' x, l = l' ++ [x] := ⟨l.dropLast, l.getLast (by intro h; rw [h] at hl; cases hl), (List.dropLast_concat_getLast _).symm⟩
      have hl' : l'.length = n := by simpa using hl
      have hf' : ∀ y ∈ l', y < full := fun z hz => hf z (List.mem_append_left _ hz)
      have hx : x < full := hf x (by simp)
      by_cases h0 : l' = []
      · subst h0; simp at hy; subst hy; exact Nat.le_refl _
      · unfold least
        rw [best_snoc _ _ _ _ h0]
        have hb : best infBits less l' < full := best_lt _ _ (by decide) _ hf'
        rw [less_rank x _ hx hb]
        have hi := ih l' hl' hf'
        unfold least at hi
        rcases List.mem_append.1 hy with h | h
        · have := hi y h
          split
          · rename_i hc; have := of_decide_eq_true hc; omega
          · exact this
        · rw [List.mem_singleton.1 h]
          split
          · exact Nat.le_refl _
          · rename_i hc; simp only [decide_eq_true_eq] at hc; omega
  have := key ys.length ys rfl hy y hyy
  rw [less_rank y (least ys) (hy y hyy) (best_lt _ _ (by decide) _ hy)]
  exact decide_eq_false (by omega)
theorem most_bound (ys : List Nat) (hy : ∀ y ∈ ys, y < full) : ∀ y ∈ ys, less (most ys) y = false := by
  intro y hyy
  have key : ∀ (n : Nat) (l : List Nat), l.length = n → (∀ y ∈ l, y < full) → ∀ y ∈ l, rank y ≤ rank (most l) := by
    intro n
    induction n with
    | zero => intro l h _ y hy; rw [List.eq_nil_of_length_eq_zero h] at hy; cases hy
    | succ n ih =>
      intro l hl hf y hy
      obtain ⟨l', x, rfl⟩ : ∃ l' x, l = l' ++ [x] := ⟨l.dropLast, l.getLast (by intro h; rw [h] at hl; cases hl), (List.dropLast_concat_getLast _).symm⟩
      have hl' : l'.length = n := by simpa using hl
      have hf' : ∀ y ∈ l', y < full := fun z hz => hf z (List.mem_append_left _ hz)
      have hx : x < full := hf x (by simp)
      by_cases h0 : l' = []
      · subst h0; simp at hy; subst hy; exact Nat.le_refl _
      · unfold most
        rw [best_snoc _ _ _ _ h0]
        have hb : best ninfBits (fun a b => less b a) l' < full := best_lt _ _ (by decide) _ hf'
        rw [less_rank _ x hb hx]
        have hi := ih l' hl' hf'
        unfold most at hi
        rcases List.mem_append.1 hy with h | h
        · have := hi y h
          split
          · rename_i hc; have := of_decide_eq_true hc; omega
          · exact this
        · rw [List.mem_singleton.1 h]
          split
          · exact Nat.le_refl _
          · rename_i hc; simp only [decide_eq_true_eq] at hc; omega
  have := key ys.length ys rfl hy y hyy
  rw [less_rank (most ys) y (best_lt _ _ (by decide) _ hy) (hy y hyy)]
  exact decide_eq_false (by omega)

end Go.Proofs.Ytnfdalfnbjencaa.Pure
