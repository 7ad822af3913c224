/- Code's plain law, the first part: both ways to make a key make the same one. -/
import Derived.Test.YtfpjfndelkgciaaHCodex2
import Derived.Test.YtfpjfndelkgciaaCodeLaw
namespace Go.Proofs.Ytfpjfndelkgciaa.Pure
open Go.RowKit Go.Proofs.Ytfpjfndelkgciaa.HCode Go.Proofs.YtfpjfndelkgciaaW.PrintWords Go.Proofs.YtfpjfndelkgciaaW.PrintLast Go.Proofs.YtfpjfndelkgciaaW.PrintMore Go.Proofs.Ytfpjfndelkgciaa.Fl Go.Proofs.Ytfpjfndelkgciaa.Fw
set_option linter.unusedVariables false
set_option linter.unusedSimpArgs false

theorem eight_step (k n i : Nat) (xs : List Int) (hi : i < 8) (hx : xs.length = i) (hn : n < full) :
    boscageref03_eight.l0 (k + 1) (n : Int) xs (i : Int) = boscageref03_eight.l0 k ((n / 256 : Nat) : Int) (((n % 256 : Nat) : Int) :: xs) ((i + 1 : Nat) : Int) := by
  simp only [boscageref03_eight.l0]
  rw [if_pos (by omega), Option.bind_some, if_pos (by simp; omega)]
  have h1 : Int.tmod (n : Int) 256 % 256 = ((n % 256 : Nat) : Int) := by rw [show Int.tmod (n : Int) 256 = ((n % 256 : Nat) : Int) from rfl]; omega
  have h2 : IntKind.u64.wrap (Int.tdiv (n : Int) 256) = ((n / 256 : Nat) : Int) := by
    rw [show Int.tdiv (n : Int) 256 = ((n / 256 : Nat) : Int) from rfl, IntKind.wrap_u64]; unfold full at hn; omega
  have h3 : wrap64 ((i : Int) + 1) = ((i + 1 : Nat) : Int) := by unfold wrap64; omega
  rw [h1, h2, h3]
  rfl

theorem eight_ref (k n : Nat) (hn : n < full) : boscageref03_eight.f (k + 9) (n : Int) = some (eight n) := by
  unfold boscageref03_eight.f
  have hd : ∀ m, m < full → m / 256 < full := fun m h => by unfold full at *; omega
  have h1 := hd _ hn; have h2 := hd _ h1; have h3 := hd _ h2; have h4 := hd _ h3; have h5 := hd _ h4; have h6 := hd _ h5; have h7 := hd _ h6
  rw [show (0 : Int) = ((0 : Nat) : Int) from rfl, eight_step _ _ 0 _ (by decide) rfl hn, eight_step _ _ 1 _ (by decide) rfl h1, eight_step _ _ 2 _ (by decide) rfl h2, eight_step _ _ 3 _ (by decide) rfl h3,
    eight_step _ _ 4 _ (by decide) rfl h4, eight_step _ _ 5 _ (by decide) rfl h5, eight_step _ _ 6 _ (by decide) rfl h6, eight_step _ _ 7 _ (by decide) rfl h7]
  simp only [boscageref03_eight.l0]
  rw [if_neg (by decide)]
  unfold strOfNums eight byteAt
  simp only [List.map_cons, List.map_nil, Int.toNat_natCast, Nat.div_div_eq_div_mul, Nat.reduceMul, Nat.reduceSub, Nat.reducePow, Nat.div_one]

/-- A value's key, and how it went. -/
def mk (K N F : Int) (S : ByteArray) : ByteArray × Int :=
  if K = 1 then ((⟨#[1]⟩ : ByteArray) ++ eight (N + 9223372036854775808).toNat, 0)
  else if K = 2 then ((⟨#[2]⟩ : ByteArray) ++ eight (rank F.toNat), 0)
  else if K = 3 then (if S.size ≥ 16 then (⟨#[]⟩, 6) else ((⟨#[3]⟩ : ByteArray) ++ S, 0))
  else (⟨#[]⟩, 11)

theorem bytes_f (n : Nat) (h : n < full) : code_bytes.f (n : Int) = some (eight n) := by
  unfold code_bytes.f
  rw [if_pos (by unfold full at h; omega)]
  rfl
theorem rank_f (F : Int) (h0 : 0 ≤ F) (h1 : F < 18446744073709551616) : float_Rank.f F = some (rank F.toNat : Int) := by
  unfold float_Rank.f; rw [if_pos ⟨h0, h1⟩]
theorem rrank_f (F : Int) (h0 : 0 ≤ F) (h1 : F < 18446744073709551616) : boscageref02_Rank.f F = some (rank F.toNat : Int) := by
  unfold boscageref02_Rank.f; rw [if_pos ⟨h0, h1⟩]
theorem rank_full (F : Int) (h0 : 0 ≤ F) (h1 : F < 18446744073709551616) : rank F.toNat < full := rank_lt _ (by unfold full; omega)
theorem sgn_xor (N : Int) (h0 : -9223372036854775808 ≤ N) (h1 : N ≤ 9223372036854775807) : bits .xor .u64 (IntKind.u64.wrap N) 9223372036854775808 = (((N + 9223372036854775808).toNat : Nat) : Int) := by
  rw [IntKind.wrap_u64]
  obtain ⟨m, hm⟩ : ∃ m : Nat, N % 18446744073709551616 = (m : Int) := ⟨(N % 18446744073709551616).toNat, by omega⟩
  rw [hm, xor_big m (by unfold full; omega)]
  unfold full big; omega
theorem sgn_add (N : Int) (h0 : -9223372036854775808 ≤ N) (h1 : N ≤ 9223372036854775807) : IntKind.u64.wrap (IntKind.u64.wrap N + 9223372036854775808) = (((N + 9223372036854775808).toNat : Nat) : Int) := by
  rw [IntKind.wrap_u64, IntKind.wrap_u64]; omega

theorem make_f (K N F : Int) (S : ByteArray) (n0 : -9223372036854775808 ≤ N) (n1 : N ≤ 9223372036854775807) (f0 : 0 ≤ F) (f1 : F < 18446744073709551616) (hS : S.size ≤ 40) : code_Make.f K N F S = some (mk K N F S) := by
  unfold code_Make.f mk
  by_cases h1 : K = 1
  · rw [if_pos h1, if_pos h1, sgn_xor N n0 n1, bytes_f _ (by unfold full; omega), Option.bind_some, if_pos (by rw [eight_size]; omega)]
  rw [if_neg h1, if_neg h1]
  by_cases h2 : K = 2
  · rw [if_pos h2, if_pos h2, rank_f F f0 f1, Option.bind_some, bytes_f _ (rank_full F f0 f1), Option.bind_some, if_pos (by rw [eight_size]; omega)]
  rw [if_neg h2, if_neg h2]
  by_cases h3 : K = 3
  · rw [if_pos h3, if_pos h3]
    by_cases h4 : S.size ≥ 16
    · rw [if_pos h4, if_pos (by omega)]
    · rw [if_neg h4, if_neg (by omega), if_pos (by omega)]
  · rw [if_neg h3, if_neg h3]

theorem err_f (k : Nat) (K N F : Int) (S : ByteArray) : boscageref03_Err.f (k + 1) K N F S = some (if K = 1 ∨ K = 2 then 0 else if K = 3 then (if S.size ≥ 16 then 6 else 0) else 11) := by
  unfold boscageref03_Err.f
  simp only [boscageref03_Err.j0]
  by_cases h1 : K < 1
  · rw [if_pos h1]; simp only [if_true]; rw [if_neg (show ¬ (K = 1 ∨ K = 2) by omega), if_neg (show ¬ K = 3 by omega)]
  rw [if_neg h1]
  by_cases h2 : K > 3
  · simp only [h2, decide_true, if_true]; rw [if_neg (show ¬ (K = 1 ∨ K = 2) by omega), if_neg (show ¬ K = 3 by omega)]
  simp only [h2, decide_false, Bool.false_eq_true, if_false]
  by_cases h3 : K = 3
  · rw [if_pos h3, if_neg (show ¬ (K = 1 ∨ K = 2) by omega), if_pos h3]
    by_cases h4 : S.size ≥ 16
    · rw [if_pos (by omega), if_pos h4]
    · rw [if_neg (by omega), if_neg h4]
  · rw [if_neg h3, if_pos (show K = 1 ∨ K = 2 by omega)]

theorem rmake_f (k : Nat) (K N F : Int) (S : ByteArray) (n0 : -9223372036854775808 ≤ N) (n1 : N ≤ 9223372036854775807) (f0 : 0 ≤ F) (f1 : F < 18446744073709551616) (hS : S.size ≤ 40) : boscageref03_Make.f (k + 9) K N F S = some (mk K N F S) := by
  unfold boscageref03_Make.f mk
  rw [err_f, Option.bind_some]
  by_cases h1 : K = 1
  · rw [if_pos (by rw [if_pos (Or.inl h1)]), if_pos h1, if_pos h1, sgn_add N n0 n1, eight_ref _ _ (by unfold full; omega), Option.bind_some, if_pos (by rw [eight_size]; omega)]
  rw [if_neg h1, if_neg h1]
  by_cases h2 : K = 2
  · rw [if_pos (by rw [if_pos (Or.inr h2)]), if_pos h2, if_pos h2, rrank_f F f0 f1, Option.bind_some, eight_ref _ _ (rank_full F f0 f1), Option.bind_some, if_pos (by rw [eight_size]; omega)]
  rw [if_neg h2, if_neg h2, if_neg (show ¬ (K = 1 ∨ K = 2) by omega)]
  by_cases h3 : K = 3
  · rw [if_pos h3, if_pos h3]
    by_cases h4 : S.size ≥ 16
    · rw [if_pos h4, if_pos h4, if_neg (by decide)]
    · rw [if_neg h4, if_neg h4, if_pos rfl, if_pos (by omega)]
  · rw [if_neg h3, if_neg h3, if_neg (by decide)]

end Go.Proofs.Ytfpjfndelkgciaa.Pure
