/- Code's plain law, the third part: a key read again is the value; CodeMakes, CodeParses, CodeBack. -/
import Derived.Test.YtfpjfndelkgciaaHCodex5
import Derived.Test.YtfpjfndelkgciaaCodePs
namespace Go.Proofs.Ytfpjfndelkgciaa.Pure
open Go.RowKit Go.Proofs.Ytfpjfndelkgciaa.HCode Go.Proofs.YtfpjfndelkgciaaW.PrintWords Go.Proofs.YtfpjfndelkgciaaW.PrintLast Go.Proofs.YtfpjfndelkgciaaW.PrintMore Go.Proofs.Ytfpjfndelkgciaa.Fl Go.Proofs.Ytfpjfndelkgciaa.Fw
set_option linter.unusedVariables false
set_option linter.unusedSimpArgs false

theorem pre_eight (c : UInt8) (m : Nat) : (⟨#[c]⟩ : ByteArray) ++ eight m = ⟨#[c, byteAt m 0, byteAt m 1, byteAt m 2, byteAt m 3, byteAt m 4, byteAt m 5, byteAt m 6, byteAt m 7]⟩ := by
  apply ByteArray.ext
  rw [ByteArray.data_append]
  rfl
theorem num_bytes (m : Nat) (h : m < full) : num 0 [byteAt m 0, byteAt m 1, byteAt m 2, byteAt m 3, byteAt m 4, byteAt m 5, byteAt m 6, byteAt m 7] = m := by
  rw [← eight_list]; exact num_eight m h

theorem ps9 (c b0 b1 b2 b3 b4 b5 b6 b7 : UInt8) (v : Int) (hv : bt (ByteArray.mk #[c, b0, b1, b2, b3, b4, b5, b6, b7]) 0 = v) (h3 : ¬ v = 3) : ps (ByteArray.mk #[c, b0, b1, b2, b3, b4, b5, b6, b7]) =
    if v = 1 then (1, (num 0 [b0, b1, b2, b3, b4, b5, b6, b7] : Int) - 9223372036854775808, 0, ⟨#[]⟩, 0) else if v = 2 then (if (unrank (num 0 [b0, b1, b2, b3, b4, b5, b6, b7])).2 = true then (2, 0, ((unrank (num 0 [b0, b1, b2, b3, b4, b5, b6, b7])).1 : Int), ⟨#[]⟩, 0) else bad) else bad := by
  unfold ps
  rw [hv, tail9, list8, if_neg (show ¬ (ByteArray.mk #[c, b0, b1, b2, b3, b4, b5, b6, b7]).size = 0 from (by decide : ¬ ((9 : Nat) = 0))), if_neg h3, if_pos (show (ByteArray.mk #[c, b0, b1, b2, b3, b4, b5, b6, b7]).size = 9 from rfl)]
theorem ps_int (m : Nat) (h : m < full) : ps ((⟨#[1]⟩ : ByteArray) ++ eight m) = (1, (m : Int) - 9223372036854775808, 0, ⟨#[]⟩, 0) := by
  rw [pre_eight, ps9 _ _ _ _ _ _ _ _ _ 1 rfl (by decide), if_pos rfl, num_bytes m h]
theorem ps_float (m : Nat) (h : m < full) : ps ((⟨#[2]⟩ : ByteArray) ++ eight m) = if (unrank m).2 = true then (2, 0, ((unrank m).1 : Int), ⟨#[]⟩, 0) else bad := by
  rw [pre_eight, ps9 _ _ _ _ _ _ _ _ _ 2 rfl (by decide), if_neg (by decide), if_pos rfl, num_bytes m h]
theorem ps_text (S : ByteArray) (h : S.size ≤ 15) : ps ((⟨#[3]⟩ : ByteArray) ++ S) = (3, 0, 0, S, 0) := by
  have hz : ((⟨#[3]⟩ : ByteArray) ++ S).size = 1 + S.size := ByteArray.size_append
  have hb : bt ((⟨#[3]⟩ : ByteArray) ++ S) 0 = 3 := by
    unfold bt
    rw [dif_pos (by rw [hz]; omega)]
    have : ((⟨#[3]⟩ : ByteArray) ++ S)[(0 : Int).toNat]'(by rw [hz]; omega) = 3 := by
      rw [ByteArray.getElem_append_left (by decide)]; rfl
    rw [this]; rfl
  unfold ps
  rw [if_neg (by omega), if_pos hb, if_pos (by omega)]
  have e : ((⟨#[3]⟩ : ByteArray) ++ S).extract 1 ((⟨#[3]⟩ : ByteArray) ++ S).size = S := ByteArray.extract_append_eq_right rfl (by rw [hz]; rfl)
  rw [e]

theorem cut_eq (s t : ByteArray) (h : boscagebase_Cut.f s 40 = some t) (hl : t.size < 40) : t = s := by
  unfold boscagebase_Cut.f at h
  have hm : 0 ≤ mn (s.size : Int) 40 ∧ mn (s.size : Int) 40 ≤ s.size := by unfold mn; split <;> omega
  rw [if_pos hm.1, if_pos hm.2] at h
  have h := Option.some.inj h
  subst h
  have hz : (s.extract 0 (mn (s.size : Int) 40).toNat).size = (mn (s.size : Int) 40).toNat := by
    show (s.extract 0 (mn (s.size : Int) 40).toNat).data.size = _
    rw [ByteArray.data_extract, Array.size_extract]
    show min _ s.size - 0 = _
    omega
  rw [hz] at hl
  have : (mn (s.size : Int) 40).toNat = s.size := by unfold mn at *; split at hl <;> split <;> omega
  rw [this]
  apply ByteArray.ext
  rw [ByteArray.data_extract]
  exact Array.extract_size

theorem back_same (x : Nat) (hx : x < full) : same (if isNaN x then nanBits else x) x = true := by
  by_cases hn : isNaN x = true
  · rw [if_pos hn, same_rank _ _ (by decide) hx]
    unfold rank
    rw [if_pos hn, if_pos nan_nan]; simp
  · rw [if_neg hn]; exact same_refl x hx
theorem back_lt (x : Nat) (hx : x < full) : (if isNaN x then nanBits else x) < full := by
  split
  · decide
  · exact hx

theorem CodeMakes (K N F : Int) (S : ByteArray) (n0 : -9223372036854775808 ≤ N) (n1 : N ≤ 9223372036854775807) (f0 : 0 ≤ F) (f1 : F < 18446744073709551616) : boscagelaw03_CodeMakes.f 20 K N F S = some true := by
  obtain ⟨t, ht, hs⟩ := cut_f S
  unfold boscagelaw03_CodeMakes.f boscagelaw03_Give.f boscagelaw03_short.f
  rw [ht]
  simp only [Option.bind_some]
  rw [make_f K N F t n0 n1 f0 f1 hs, show boscageref03_Make.f 20 K N F t = _ from rmake_f 11 K N F t n0 n1 f0 f1 hs, show boscagelaw03_works.f 20 = _ from works_f 10]
  simp only [Option.bind_some, if_true]

theorem CodeParses (key : ByteArray) : boscagelaw03_CodeParses.f 20 key = some true := by
  obtain ⟨t, ht, hs⟩ := cut_f key
  unfold boscagelaw03_CodeParses.f
  rw [ht]
  simp only [Option.bind_some]
  rw [show code_Parse.f 20 t = _ from parse_f 10 t, show boscageref03_Parse.f 20 t = _ from rparse_f 9 t, show boscagelaw03_works.f 20 = _ from works_f 10]
  simp only [Option.bind_some, if_true]

theorem same_f (a b : Nat) (ha : a < full) (hb : b < full) : boscageref02_Same.f (a : Int) (b : Int) = some (same a b) := by
  unfold boscageref02_Same.f
  rw [if_pos (by unfold full at ha hb; omega)]
  rfl

theorem CodeBack (K N F : Int) (S : ByteArray) (n0 : -9223372036854775808 ≤ N) (n1 : N ≤ 9223372036854775807) (f0 : 0 ≤ F) (f1 : F < 18446744073709551616) : boscagelaw03_CodeBack.f 20 K N F S = some true := by
  obtain ⟨t, ht, hs⟩ := cut_f S
  unfold boscagelaw03_CodeBack.f boscagelaw03_Give.f
  rw [ht, show boscagelaw03_works.f 20 = _ from works_f 10]
  simp only [Option.bind_some, if_true]
  rw [make_f K N F t n0 n1 f0 f1 hs]
  simp only [Option.bind_some]
  rw [show code_Parse.f 20 (mk K N F t).1 = _ from parse_f 10 _]
  simp only [Option.bind_some]
  unfold mk
  by_cases h1 : K = 1
  · subst h1
    simp only [if_true]
    rw [ps_int _ (by unfold full; omega)]
    simp only [if_true, bne_self_eq_false, boscagelaw03_CodeBack.j0, Bool.false_eq_true, if_false]
    rw [show (((N + 9223372036854775808).toNat : Nat) : Int) - 9223372036854775808 = N by omega]
    simp
  by_cases h2 : K = 2
  · subst h2
    obtain ⟨x, rfl⟩ := Int.eq_ofNat_of_zero_le f0
    have hx : x < full := by unfold full; omega
    simp only [if_neg h1, if_true, Int.toNat_natCast]
    rw [ps_float _ (rank_lt x hx), unrank_rank x hx]
    simp only [if_true, bne_self_eq_false, boscagelaw03_CodeBack.j0, Bool.false_eq_true, if_false, if_neg h1]
    rw [same_f _ _ (back_lt x hx) hx, back_same x hx]
    rfl
  by_cases h3 : K = 3
  · subst h3
    simp only [if_neg h1, if_neg h2, if_true]
    by_cases h4 : t.size ≥ 16
    · simp only [if_pos h4]
      rw [if_neg (by decide), if_pos ((empty_list _).2 rfl)]
      rfl
    · simp only [if_neg h4]
      rw [ps_text t (by omega)]
      simp only [if_true, bne_self_eq_false, boscagelaw03_CodeBack.j0, Bool.false_eq_true, if_false, if_neg h1, if_neg h2]
      rw [cut_eq S t ht (by omega)]
      simp
  · simp only [if_neg h1, if_neg h2, if_neg h3]
    rw [if_neg (by decide), if_pos ((empty_list _).2 rfl)]
    rfl

end Go.Proofs.Ytfpjfndelkgciaa.Pure
