/- Code's plain law, the second part: both ways to read a key read the same. -/
import Derived.Test.YtfpjfndelkgciaaHCodex4
import Derived.Test.YtfpjfndelkgciaaCodePm
namespace Go.Proofs.Ytfpjfndelkgciaa.Pure
open Go.RowKit Go.Proofs.Ytfpjfndelkgciaa.HCode Go.Proofs.YtfpjfndelkgciaaW.PrintWords Go.Proofs.YtfpjfndelkgciaaW.PrintLast Go.Proofs.YtfpjfndelkgciaaW.PrintMore Go.Proofs.Ytfpjfndelkgciaa.Fl Go.Proofs.Ytfpjfndelkgciaa.Fw
set_option linter.unusedVariables false
set_option linter.unusedSimpArgs false

theorem or_byte (x : Nat) (b : UInt8) (hx : x < 72057594037927936) : bits .or .u64 (IntKind.u64.wrap ((x : Int) * 256)) (IntKind.u64.wrap (b.toNat : Int)) = ((256 * x + b.toNat : Nat) : Int) := by
  have hb := b.toNat_lt
  rw [IntKind.wrap_u64, IntKind.wrap_u64, show (x : Int) * 256 % 18446744073709551616 = ((256 * x : Nat) : Int) by omega, show (b.toNat : Int) % 18446744073709551616 = ((b.toNat : Nat) : Int) by omega]
  refine (u64_or_nat _ _ (by omega) (by omega)).trans ?_
  rw [show 256 * x = 2 ^ 8 * x from rfl, ← Nat.two_pow_add_eq_or_of_lt (i := 8) (by omega) x]

theorem number_step (k x i : Nat) (s : ByteArray) (b : UInt8) (hi : i < 8) (hs : s.size = 8) (hx : x < 72057594037927936) (hb : bt s (i : Int) = b.toNat) :
    code_number.l0 (k + 1) s (x : Int) 8 (i : Int) = code_number.l0 k s ((256 * x + b.toNat : Nat) : Int) 8 ((i + 1 : Nat) : Int) := by
  simp only [code_number.l0]
  rw [if_pos (by omega), if_pos (by omega), if_pos (by omega), hb, or_byte x b hx, show wrap64 ((i : Int) + 1) = ((i + 1 : Nat) : Int) by unfold wrap64; omega]

theorem number_f (k : Nat) (b0 b1 b2 b3 b4 b5 b6 b7 : UInt8) : code_number.f (k + 9) ⟨#[b0, b1, b2, b3, b4, b5, b6, b7]⟩ = some ((num 0 [b0, b1, b2, b3, b4, b5, b6, b7] : Nat) : Int) := by
  have h0 := b0.toNat_lt; have h1 := b1.toNat_lt; have h2 := b2.toNat_lt; have h3 := b3.toNat_lt; have h4 := b4.toNat_lt; have h5 := b5.toNat_lt; have h6 := b6.toNat_lt; have h7 := b7.toNat_lt
  unfold code_number.f
  rw [show ((ByteArray.mk #[b0, b1, b2, b3, b4, b5, b6, b7]).size : Int) = 8 from rfl]
  rw [show (code_number.l0 (k + 9) ⟨#[b0, b1, b2, b3, b4, b5, b6, b7]⟩ 0 8 0) = code_number.l0 (k + 9) ⟨#[b0, b1, b2, b3, b4, b5, b6, b7]⟩ ((0 : Nat) : Int) 8 ((0 : Nat) : Int) from rfl]
  rw [number_step _ _ 0 _ b0 (by decide) rfl (by omega) rfl, number_step _ _ 1 _ b1 (by decide) rfl (by omega) rfl, number_step _ _ 2 _ b2 (by decide) rfl (by omega) rfl, number_step _ _ 3 _ b3 (by decide) rfl (by omega) rfl,
    number_step _ _ 4 _ b4 (by decide) rfl (by omega) rfl, number_step _ _ 5 _ b5 (by decide) rfl (by omega) rfl, number_step _ _ 6 _ b6 (by decide) rfl (by omega) rfl, number_step _ _ 7 _ b7 (by decide) rfl (by omega) rfl]
  simp only [code_number.l0]
  rw [if_neg (by decide)]
  rfl

/-- What a key stands for, and how it went. -/
def bad : Int × Int × Int × ByteArray × Int := (0, 0, 0, ⟨#[]⟩, 4)
def ps (key : ByteArray) : Int × Int × Int × ByteArray × Int :=
  if key.size = 0 then bad
  else if bt key 0 = 3 then (if key.size ≤ 16 then (3, 0, 0, key.extract 1 key.size, 0) else bad)
  else if key.size = 9 then
    (if bt key 0 = 1 then (1, (num 0 (key.extract 1 key.size).toList : Int) - 9223372036854775808, 0, ⟨#[]⟩, 0)
     else if bt key 0 = 2 then (if (unrank (num 0 (key.extract 1 key.size).toList)).2 = true then (2, 0, ((unrank (num 0 (key.extract 1 key.size).toList)).1 : Int), ⟨#[]⟩, 0) else bad)
     else bad)
  else bad

theorem nine (key : ByteArray) (h : key.size = 9) : ∃ c b0 b1 b2 b3 b4 b5 b6 b7, key = ⟨#[c, b0, b1, b2, b3, b4, b5, b6, b7]⟩ := by
  obtain ⟨⟨l⟩⟩ := key
  have h' : l.length = 9 := h
  match l, h' with
  | [c, b0, b1, b2, b3, b4, b5, b6, b7], _ => exact ⟨c, b0, b1, b2, b3, b4, b5, b6, b7, rfl⟩
theorem tail9 (c b0 b1 b2 b3 b4 b5 b6 b7 : UInt8) : (ByteArray.mk #[c, b0, b1, b2, b3, b4, b5, b6, b7]).extract 1 (ByteArray.mk #[c, b0, b1, b2, b3, b4, b5, b6, b7]).size = ⟨#[b0, b1, b2, b3, b4, b5, b6, b7]⟩ := by
  apply ByteArray.ext
  rw [ByteArray.data_extract]
  rfl
theorem list8 (b0 b1 b2 b3 b4 b5 b6 b7 : UInt8) : (ByteArray.mk #[b0, b1, b2, b3, b4, b5, b6, b7]).toList = [b0, b1, b2, b3, b4, b5, b6, b7] := by rw [ByteArray.toList_eq]
theorem num8_lt (b0 b1 b2 b3 b4 b5 b6 b7 : UInt8) : num 0 [b0, b1, b2, b3, b4, b5, b6, b7] < full := Nat.lt_of_lt_of_eq (num_lt _) (show 256 ^ 8 = full by decide)

theorem unrank_f (n : Nat) (h : n < full) : float_Unrank.f (n : Int) = some (((unrank n).1 : Int), (unrank n).2) := by
  unfold float_Unrank.f
  rw [if_pos (by unfold full at h; omega)]
  rfl
theorem runrank_f (n : Nat) (h : n < full) : boscageref02_Unrank.f (n : Int) = some (((runrank n).1 : Int), (runrank n).2) := by
  unfold boscageref02_Unrank.f
  rw [if_pos (by unfold full at h; omega)]
  rfl
theorem sub_sign (n : Nat) (h : n < full) : wrap64 (bits .xor .u64 (n : Int) 9223372036854775808) = (n : Int) - 9223372036854775808 := by
  rw [xor_big n h]; unfold wrap64 full big at *; omega
theorem sub_sign' (n : Nat) (h : n < full) : wrap64 (IntKind.u64.wrap ((n : Int) - 9223372036854775808)) = (n : Int) - 9223372036854775808 := by
  rw [IntKind.wrap_u64]; unfold wrap64 full at *; omega

theorem empty_list (a : ByteArray) : a.toList = ([] : List UInt8) ↔ a.size = 0 := by
  rw [ByteArray.toList_eq]
  constructor
  · intro h
    show a.data.size = 0
    rw [← Array.length_toList, h]; rfl
  · intro h
    have : a.data.size = 0 := h
    rw [← Array.length_toList] at this
    exact List.eq_nil_of_length_eq_zero this

theorem ext_size (a : ByteArray) : (a.extract 1 a.size).size = a.size - 1 := by
  show (a.extract 1 a.size).data.size = _
  rw [ByteArray.data_extract, Array.size_extract]
  show min a.size a.size - 1 = _
  omega

theorem parse_f (k : Nat) (a : ByteArray) : code_Parse.f (k + 10) a = some (ps a) := by
  unfold code_Parse.f ps
  by_cases h0 : a.size = 0
  · rw [if_pos ((empty_list a).2 h0), if_pos h0]
    simp only [code_Parse.j0, if_true]
    rfl
  rw [if_neg (fun h => h0 ((empty_list a).1 h)), if_neg h0]
  by_cases h1 : (a.size : Int) > 16
  · simp only [h1, decide_true, code_Parse.j0, if_true]
    rw [if_neg (show ¬ a.size ≤ 16 by omega), if_neg (show ¬ a.size = 9 by omega)]
    split <;> rfl
  simp only [h1, decide_false, code_Parse.j0, Bool.false_eq_true, if_false]
  rw [if_pos (by omega), if_pos (by omega)]
  by_cases h3 : bt a 0 = 3
  · rw [if_pos h3, if_pos h3, if_pos (by omega)]
  rw [if_neg h3, if_neg h3]
  by_cases h9 : a.size = 9
  · rw [if_pos h9, if_pos (by rw [ext_size]; omega)]
    obtain ⟨c, b0, b1, b2, b3, b4, b5, b6, b7, rfl⟩ := nine a h9
    rw [tail9, number_f, list8]
    have hn := num8_lt b0 b1 b2 b3 b4 b5 b6 b7
    generalize num 0 [b0, b1, b2, b3, b4, b5, b6, b7] = n at hn
    by_cases hk : bt ⟨#[c, b0, b1, b2, b3, b4, b5, b6, b7]⟩ 0 = 1
    · rw [if_pos hk, if_pos hk, Option.bind_some, sub_sign n hn]
    rw [if_neg hk, if_neg hk]
    by_cases hk2 : bt ⟨#[c, b0, b1, b2, b3, b4, b5, b6, b7]⟩ 0 = 2
    · rw [if_pos hk2, if_pos hk2, Option.bind_some, unrank_f n hn, Option.bind_some]
      split <;> rfl
    · rw [if_neg hk2, if_neg hk2]; rfl
  · rw [if_neg h9, if_neg (by rw [ext_size]; omega)]
    rfl

theorem rparse_step (k x i : Nat) (s : ByteArray) (b : UInt8) (hi : i < 9) (hs : s.size = 9) (hx : x < 72057594037927936) (hb : bt s (i : Int) = b.toNat) :
    boscageref03_Parse.l0 (k + 1) s (x : Int) (i : Int) = boscageref03_Parse.l0 k s ((256 * x + b.toNat : Nat) : Int) ((i + 1 : Nat) : Int) := by
  have hbl := b.toNat_lt
  conv => lhs; unfold boscageref03_Parse.l0
  rw [if_pos (by omega), if_pos (by omega), if_pos (by omega), hb, show wrap64 ((i : Int) + 1) = ((i + 1 : Nat) : Int) by unfold wrap64; omega, IntKind.wrap_u64, IntKind.wrap_u64, IntKind.wrap_u64]
  congr 1
  omega

theorem unrank_run (n : Nat) : unrank n = if n = nanRank then (nanBits, true) else runrank n := by
  unfold unrank runrank
  by_cases h : n = nanRank
  · rw [if_pos h, if_pos h]
  · rw [if_neg h, if_neg h]
    simp only [ne_eq, h, not_false_eq_true, decide_true, Bool.and_true]
theorem run_nan : (runrank nanRank).2 = true := by decide

theorem rparse_end (k n : Nat) (s : ByteArray) (hs : s.size = 9) (hn : n < full) : boscageref03_Parse.l0 (k + 1) s (n : Int) 9 =
    some (if bt s 0 = 1 then (1, (n : Int) - 9223372036854775808, 0, ⟨#[]⟩, 0) else if (unrank n).2 = true then (2, 0, ((unrank n).1 : Int), ⟨#[]⟩, 0) else bad) := by
  unfold boscageref03_Parse.l0
  rw [if_neg (by decide), if_pos (by omega)]
  by_cases h1 : bt s 0 = 1
  · rw [if_pos h1, if_pos h1, sub_sign' n hn]
  rw [if_neg h1, if_neg h1, runrank_f n hn, Option.bind_some, unrank_run]
  by_cases hq : n = nanRank
  · subst hq
    rw [if_pos rfl, if_pos run_nan, if_pos (by decide)]
    rfl
  · rw [if_neg hq]
    have hq2 : ¬ ((n : Int) = 18444492273895866369) := by unfold nanRank at hq; omega
    rw [if_neg hq2]
    split <;> rfl

theorem rparse9 (k : Nat) (c b0 b1 b2 b3 b4 b5 b6 b7 : UInt8) : boscageref03_Parse.l0 (k + 9) ⟨#[c, b0, b1, b2, b3, b4, b5, b6, b7]⟩ 0 1 =
    some (if bt ⟨#[c, b0, b1, b2, b3, b4, b5, b6, b7]⟩ 0 = 1 then (1, (num 0 [b0, b1, b2, b3, b4, b5, b6, b7] : Int) - 9223372036854775808, 0, ⟨#[]⟩, 0) else if (unrank (num 0 [b0, b1, b2, b3, b4, b5, b6, b7])).2 = true then (2, 0, ((unrank (num 0 [b0, b1, b2, b3, b4, b5, b6, b7])).1 : Int), ⟨#[]⟩, 0) else bad) := by
  have h0 := b0.toNat_lt; have h1 := b1.toNat_lt; have h2 := b2.toNat_lt; have h3 := b3.toNat_lt; have h4 := b4.toNat_lt; have h5 := b5.toNat_lt; have h6 := b6.toNat_lt; have h7 := b7.toNat_lt
  rw [show (boscageref03_Parse.l0 (k + 9) ⟨#[c, b0, b1, b2, b3, b4, b5, b6, b7]⟩ 0 1) = boscageref03_Parse.l0 (k + 9) ⟨#[c, b0, b1, b2, b3, b4, b5, b6, b7]⟩ ((0 : Nat) : Int) ((1 : Nat) : Int) from rfl]
  rw [rparse_step _ _ 1 _ b0 (by decide) rfl (by omega) rfl, rparse_step _ _ 2 _ b1 (by decide) rfl (by omega) rfl, rparse_step _ _ 3 _ b2 (by decide) rfl (by omega) rfl, rparse_step _ _ 4 _ b3 (by decide) rfl (by omega) rfl,
    rparse_step _ _ 5 _ b4 (by decide) rfl (by omega) rfl, rparse_step _ _ 6 _ b5 (by decide) rfl (by omega) rfl, rparse_step _ _ 7 _ b6 (by decide) rfl (by omega) rfl, rparse_step _ _ 8 _ b7 (by decide) rfl (by omega) rfl]
  exact rparse_end k _ _ rfl (num8_lt b0 b1 b2 b3 b4 b5 b6 b7)

theorem rparse_f (k : Nat) (a : ByteArray) : boscageref03_Parse.f (k + 9 + 1 + 1) a = some (ps a) := by
  have j0s : ∀ (q : Nat) (b : Bool), boscageref03_Parse.j0 (q + 1) a b = if b = true then (if 1 ≤ (a.size : Int) then (some (3, 0, 0, a.extract 1 a.size, 0)) else (none)) else (if (a.size : Int) = 9 then (if 0 < (a.size : Int) then (if (bt a 0) < 1 then (boscageref03_Parse.j1 q a true) else (boscageref03_Parse.j1 q a (decide ((bt a 0) > 2)))) else (none)) else (boscageref03_Parse.j1 q a true)) := fun q b => by simp only [boscageref03_Parse.j0]
  have j1s : ∀ (q : Nat) (b : Bool), boscageref03_Parse.j1 (q + 1) a b = if b = true then (some (0, 0, 0, (⟨#[]⟩ : ByteArray), 4)) else (boscageref03_Parse.l0 q a 0 1) := fun q b => by simp only [boscageref03_Parse.j1]
  unfold boscageref03_Parse.f ps
  by_cases h0 : a.size = 0
  · rw [if_neg (by omega), if_pos h0]
    rw [j0s]
    rw [if_neg (by decide), if_neg (by omega)]
    rw [j1s]
    rfl
  rw [if_pos (by omega), if_pos (by omega), if_neg h0]
  by_cases h3 : bt a 0 = 3
  · rw [if_pos h3, if_pos h3]
    rw [j0s]
    by_cases h1 : (a.size : Int) ≤ 16
    · rw [if_pos (decide_eq_true h1), if_pos (by omega), if_pos (by omega)]
    · rw [if_neg (by simp only [h1, decide_false]; decide), if_neg (by omega), if_neg (by omega)]
      rw [j1s]
      rfl
  rw [if_neg h3, if_neg h3]
  rw [j0s]
  rw [if_neg (by decide)]
  by_cases h9 : a.size = 9
  · rw [if_pos (by omega), if_pos (by omega), if_pos h9]
    have hbt := bt_range a 0
    by_cases hl : bt a 0 < 1
    · rw [if_pos hl, if_neg (by omega), if_neg (by omega)]
      rw [j1s]
      rfl
    rw [if_neg hl]
    rw [j1s]
    by_cases hg : bt a 0 > 2
    · rw [if_pos (decide_eq_true hg), if_neg (by omega), if_neg (by omega)]
      rfl
    · rw [if_neg (by simp only [hg, decide_false]; decide)]
      obtain ⟨c, b0, b1, b2, b3, b4, b5, b6, b7, rfl⟩ := nine a h9
      rw [rparse9, tail9, list8]
      by_cases hk : bt ⟨#[c, b0, b1, b2, b3, b4, b5, b6, b7]⟩ 0 = 1
      · rw [if_pos hk, if_pos hk]
      · have hk2 : bt ⟨#[c, b0, b1, b2, b3, b4, b5, b6, b7]⟩ 0 = 2 := by omega
        rw [if_neg hk, if_neg hk, if_pos hk2]
  · rw [if_neg (by omega), if_neg h9]
    rw [j1s]
    rfl

theorem cut_f (s : ByteArray) : ∃ t, boscagebase_Cut.f s 40 = some t ∧ t.size ≤ 40 := by
  unfold boscagebase_Cut.f
  have hm : 0 ≤ mn (s.size : Int) 40 ∧ mn (s.size : Int) 40 ≤ s.size ∧ mn (s.size : Int) 40 ≤ 40 := by unfold mn; split <;> omega
  rw [if_pos hm.1, if_pos hm.2.1]
  refine ⟨_, rfl, ?_⟩
  show (s.extract 0 (mn (s.size : Int) 40).toNat).data.size ≤ 40
  rw [ByteArray.data_extract, Array.size_extract]
  show min _ s.size - 0 ≤ 40
  omega

theorem works_f (k : Nat) : boscagelaw03_works.f (k + 10) = some true := by
  unfold boscagelaw03_works.f
  rw [make_f 1 0 0 _ (by omega) (by omega) (by omega) (by omega) (by decide), Option.bind_some, parse_f, Option.bind_some]
  have h1 : (mk 1 0 0 ⟨#[]⟩).1.toList = ([1, 128, 0, 0, 0, 0, 0, 0, 0] : List UInt8) := by decide +kernel
  have h2 : ps ⟨#[3, 97, 98]⟩ = (3, 0, 0, ⟨#[97, 98]⟩, 0) := by decide +kernel
  rw [if_pos h1, if_pos (show (mk 1 0 0 ⟨#[]⟩).2 = 0 from rfl), h2]
  decide +kernel

end Go.Proofs.Ytfpjfndelkgciaa.Pure
