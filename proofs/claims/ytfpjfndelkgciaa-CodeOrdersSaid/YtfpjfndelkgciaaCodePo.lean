/- Code's plain law, the fourth part: the keys' order is the document's; CodeOrders. -/
import Derived.Test.YtfpjfndelkgciaaHCodex6
import Derived.Test.YtfpjfndelkgciaaCodePr
import Derived.Test.YtfpjfndelkgciaaCodeRow
namespace Go.Proofs.Ytfpjfndelkgciaa.Pure
open Go.RowKit Go.Proofs.Ytfpjfndelkgciaa.HCode Go.Proofs.YtfpjfndelkgciaaW.PrintWords Go.Proofs.YtfpjfndelkgciaaW.PrintLast Go.Proofs.YtfpjfndelkgciaaW.PrintMore Go.Proofs.Ytfpjfndelkgciaa.Fl Go.Proofs.Ytfpjfndelkgciaa.Fw
set_option linter.unusedVariables false
set_option linter.unusedSimpArgs false

theorem pre_list (c : UInt8) (X : ByteArray) : ((⟨#[c]⟩ : ByteArray) ++ X).toList = c :: X.toList := by
  rw [ByteArray.toList_eq, ByteArray.data_append, Array.toList_append, ByteArray.toList_eq]; rfl
theorem list_len (x : ByteArray) : x.toList.length = x.size := by rw [ByteArray.toList_eq, Array.length_toList]; rfl
theorem bt_list (x : ByteArray) (i : Nat) (h : i < x.size) : bt x (i : Int) = ((x.toList[i]'(by rw [list_len]; exact h)).toNat : Int) := by
  have e : x.toList[i]'(by rw [list_len]; exact h) = x[i] := by
    simp only [ByteArray.toList_eq]; rfl
  rw [e]
  exact (bt_at x (i : Int) h).symm

theorem less_loop (x y : ByteArray) (hx : x.size ≤ 1000) : ∀ (d k i : Nat), x.size ≤ i + d → i ≤ x.size → i ≤ y.size → 2 * d + 2 ≤ k →
    boscageref01_Less.l0 k x y (i : Int) = some (Op.bytesLess (x.toList.drop i) (y.toList.drop i)) := by
  intro d
  induction d with
  | zero =>
    intro k i h0 h1 h2 hk
    obtain ⟨k, rfl⟩ : ∃ m, k = m + 1 + 1 := ⟨k - 2, by omega⟩
    have hi : i = x.size := by omega
    subst hi
    unfold boscageref01_Less.l0
    rw [if_neg (by omega)]
    unfold boscageref01_Less.j1
    rw [if_neg (by decide), List.drop_eq_nil_of_le (by rw [list_len]; omega)]
    by_cases h3 : x.size < y.size
    · rw [List.drop_eq_getElem_cons (by rw [list_len]; exact h3)]
      simp [Op.bytesLess, h3]
    · rw [List.drop_eq_nil_of_le (by rw [list_len]; omega)]
      simp [Op.bytesLess, h3]
  | succ d ih =>
    intro k i h0 h1 h2 hk
    obtain ⟨k, rfl⟩ : ∃ m, k = m + 1 + 1 := ⟨k - 2, by omega⟩
    by_cases h4 : i < x.size
    · unfold boscageref01_Less.l0
      rw [if_pos (by omega)]
      unfold boscageref01_Less.j1
      by_cases h3 : i < y.size
      · rw [if_pos (decide_eq_true (by omega)), if_pos (by omega), if_pos (by omega), if_pos (by omega), show wrap64 ((i : Int) + 1) = ((i + 1 : Nat) : Int) by unfold wrap64; omega]
        rw [ih k (i + 1) (by omega) (by omega) (by omega) (by omega), bt_list x i h4, bt_list y i h3]
        rw [List.drop_eq_getElem_cons (i := i) (l := x.toList) (by rw [list_len]; exact h4), List.drop_eq_getElem_cons (i := i) (l := y.toList) (by rw [list_len]; exact h3)]
        generalize x.toList[i]'_ = a
        generalize y.toList[i]'_ = b
        by_cases hab : a = b
        · subst hab
          rw [if_pos rfl]
          simp [Op.bytesLess]
        · rw [if_neg (fun h => hab (UInt8.toNat_inj.mp (by omega)))]
          have : (a == b) = false := beq_eq_false_iff_ne.mpr hab
          simp only [Op.bytesLess, this, Bool.false_and, Bool.or_false]
          congr 1
          rw [decide_eq_decide, UInt8.lt_iff_toNat_lt]
          omega
      · rw [if_neg (by simp; omega), List.drop_eq_nil_of_le (show y.toList.length ≤ i by rw [list_len]; omega)]
        have : ¬ ((x.size : Int) < (y.size : Int)) := by omega
        simp only [this, decide_false]
        cases x.toList.drop i <;> rfl
    · have hi : i = x.size := by omega
      subst hi
      unfold boscageref01_Less.l0
      rw [if_neg (by omega)]
      unfold boscageref01_Less.j1
      rw [if_neg (by decide), List.drop_eq_nil_of_le (by rw [list_len]; omega)]
      by_cases h3 : x.size < y.size
      · rw [List.drop_eq_getElem_cons (by rw [list_len]; exact h3)]
        simp [Op.bytesLess, h3]
      · rw [List.drop_eq_nil_of_le (by rw [list_len]; omega)]
        simp [Op.bytesLess, h3]

theorem less_f (k : Nat) (x y : ByteArray) (hx : x.size ≤ 50) : boscageref01_Less.f (k + 102) x y = some (Op.bytesLess x.toList y.toList) := by
  have := less_loop x y (by omega) x.size (k + 102) 0 (by omega) (by omega) (by omega) (by omega)
  exact this

/-- The document's order of two values that have keys. -/
def ahead (K N F : Int) (S : ByteArray) (K' N' F' : Int) (S' : ByteArray) : Bool :=
  if K = K' then (if K = 1 then decide (N < N') else if K = 2 then less F.toNat F'.toNat else Op.bytesLess S.toList S'.toList) else decide (K < K')

theorem mk_ok (K N F : Int) (S : ByteArray) (h : (mk K N F S).2 = 0) :
    (K = 1 ∧ (mk K N F S).1 = (⟨#[1]⟩ : ByteArray) ++ eight (N + 9223372036854775808).toNat) ∨ (K = 2 ∧ (mk K N F S).1 = (⟨#[2]⟩ : ByteArray) ++ eight (rank F.toNat)) ∨ (K = 3 ∧ (mk K N F S).1 = (⟨#[3]⟩ : ByteArray) ++ S) := by
  unfold mk at *
  by_cases h1 : K = 1
  · rw [if_pos h1]; exact .inl ⟨h1, rfl⟩
  rw [if_neg h1] at *
  by_cases h2 : K = 2
  · rw [if_pos h2]; exact .inr (.inl ⟨h2, rfl⟩)
  rw [if_neg h2] at *
  by_cases h3 : K = 3
  · rw [if_pos h3] at *
    by_cases h4 : S.size ≥ 16
    · rw [if_pos h4] at h; exact absurd h (by decide)
    · rw [if_neg h4]; exact .inr (.inr ⟨h3, rfl⟩)
  · rw [if_neg h3] at h; exact absurd h (by decide)

theorem head_less (c d : UInt8) (x y : List UInt8) (h : c < d) : Op.bytesLess (c :: x) (d :: y) = true := by simp [Op.bytesLess, h]
theorem head_more (c d : UInt8) (x y : List UInt8) (h : ¬ c < d) (h2 : (c == d) = false) : Op.bytesLess (c :: x) (d :: y) = false := by simp only [Op.bytesLess, h, h2]; rfl
theorem head_same (c : UInt8) (x y : List UInt8) : Op.bytesLess (c :: x) (c :: y) = Op.bytesLess x y := by simp [Op.bytesLess]

theorem key_order (K N F : Int) (S : ByteArray) (K' N' F' : Int) (S' : ByteArray)
    (n0 : -9223372036854775808 ≤ N) (n1 : N ≤ 9223372036854775807) (f0 : 0 ≤ F) (f1 : F < 18446744073709551616)
    (n0' : -9223372036854775808 ≤ N') (n1' : N' ≤ 9223372036854775807) (f0' : 0 ≤ F') (f1' : F' < 18446744073709551616)
    (h : (mk K N F S).2 = 0) (h' : (mk K' N' F' S').2 = 0) : Op.bytesLess (mk K N F S).1.toList (mk K' N' F' S').1.toList = ahead K N F S K' N' F' S' := by
  unfold ahead
  rcases mk_ok K N F S h with ⟨rfl, e⟩ | ⟨rfl, e⟩ | ⟨rfl, e⟩ <;> rcases mk_ok K' N' F' S' h' with ⟨rfl, e'⟩ | ⟨rfl, e'⟩ | ⟨rfl, e'⟩ <;> rw [e, e', pre_list, pre_list]
  · rw [head_same, eight_less _ _ (by unfold full; omega) (by unfold full; omega), if_pos rfl, if_pos rfl, decide_eq_decide]; omega
  · rw [head_less _ _ _ _ (by decide), if_neg (by decide)]; rfl
  · rw [head_less _ _ _ _ (by decide), if_neg (by decide)]; rfl
  · rw [head_more _ _ _ _ (by decide) (by decide), if_neg (by decide)]; rfl
  · rw [head_same, eight_less _ _ (rank_full F f0 f1) (rank_full F' f0' f1'), if_pos rfl, if_neg (by decide), if_pos rfl, less_rank _ _ (by unfold full; omega) (by unfold full; omega)]
  · rw [head_less _ _ _ _ (by decide), if_neg (by decide)]; rfl
  · rw [head_more _ _ _ _ (by decide) (by decide), if_neg (by decide)]; rfl
  · rw [head_more _ _ _ _ (by decide) (by decide), if_neg (by decide)]; rfl
  · rw [head_same, if_pos rfl, if_neg (by decide), if_neg (by decide)]

theorem err_mk (k : Nat) (K N F : Int) (S : ByteArray) : boscageref03_Err.f (k + 1) K N F S = some (mk K N F S).2 := by
  rw [err_f]
  unfold mk
  by_cases h1 : K = 1
  · rw [if_pos (Or.inl h1), if_pos h1]
  by_cases h2 : K = 2
  · rw [if_pos (Or.inr h2), if_neg h1, if_pos h2]
  rw [if_neg (show ¬ (K = 1 ∨ K = 2) by omega), if_neg h1, if_neg h2]
  by_cases h3 : K = 3
  · rw [if_pos h3, if_pos h3]
    split <;> rfl
  · rw [if_neg h3, if_neg h3]

theorem rless_f (k : Nat) (K N F : Int) (S : ByteArray) (K' N' F' : Int) (S' : ByteArray) (f0 : 0 ≤ F) (f1 : F < 18446744073709551616) (f0' : 0 ≤ F') (f1' : F' < 18446744073709551616) (hS : S.size ≤ 40) :
    boscageref03_Less.f (k + 109 + 1) K N F S K' N' F' S' = some (if (mk K N F S).2 = 0 ∧ (mk K' N' F' S').2 = 0 then ahead K N F S K' N' F' S' else false) := by
  have j0s : ∀ (q : Nat) (b : Bool), boscageref03_Less.j0 (q + 1) b K N F S K' N' F' S' = if b = true then (some false) else (if K = K' then (if K = 1 then (some (decide (N < N'))) else (if K = 2 then ((boscageref02_Less.f F F').bind fun t196 => (some t196)) else ((boscageref01_Less.f q S S').bind fun t197 => (some t197)))) else (some (decide (K < K')))) := fun q b => by simp only [boscageref03_Less.j0]
  unfold boscageref03_Less.f
  rw [show boscageref03_Err.f (k + 109 + 1) K N F S = _ from err_mk (k + 109) K N F S, Option.bind_some]
  by_cases h1 : (mk K N F S).2 = 0
  · rw [if_pos h1, show boscageref03_Err.f (k + 109 + 1) K' N' F' S' = _ from err_mk (k + 109) K' N' F' S', Option.bind_some]
    rw [j0s]
    by_cases h2 : (mk K' N' F' S').2 = 0
    · have hA : (if (mk K N F S).2 = 0 ∧ (mk K' N' F' S').2 = 0 then ahead K N F S K' N' F' S' else false) = ahead K N F S K' N' F' S' := if_pos ⟨h1, h2⟩
      rw [hA, if_neg (by simp [h2])]
      unfold ahead
      by_cases hk : K = K'
      · rw [if_pos hk, if_pos hk]
        by_cases k1 : K = 1
        · rw [if_pos k1, if_pos k1]
        rw [if_neg k1, if_neg k1]
        by_cases k2 : K = 2
        · rw [if_pos k2, if_pos k2]
          unfold boscageref02_Less.f
          rw [if_pos ⟨f0, f1, f0', f1'⟩, Option.bind_some]
        · rw [if_neg k2, if_neg k2, show boscageref01_Less.f (k + 109) S S' = _ from less_f (k + 7) S S' (by omega), Option.bind_some]
      · rw [if_neg hk, if_neg hk]
    · have hA : (if (mk K N F S).2 = 0 ∧ (mk K' N' F' S').2 = 0 then ahead K N F S K' N' F' S' else false) = false := if_neg (fun h => h2 h.2)
      rw [hA, if_pos (by simp [h2])]
  · have hA : (if (mk K N F S).2 = 0 ∧ (mk K' N' F' S').2 = 0 then ahead K N F S K' N' F' S' else false) = false := if_neg (fun h => h1 h.1)
    rw [hA, if_neg h1, j0s]
    rfl

theorem cless_f (K N F : Int) (S : ByteArray) (K' N' F' : Int) (S' : ByteArray)
    (n0 : -9223372036854775808 ≤ N) (n1 : N ≤ 9223372036854775807) (f0 : 0 ≤ F) (f1 : F < 18446744073709551616)
    (n0' : -9223372036854775808 ≤ N') (n1' : N' ≤ 9223372036854775807) (f0' : 0 ≤ F') (f1' : F' < 18446744073709551616) (hS : S.size ≤ 40) (hS' : S'.size ≤ 40) :
    code_Less.f K N F S K' N' F' S' = some (if (mk K N F S).2 = 0 ∧ (mk K' N' F' S').2 = 0 then ahead K N F S K' N' F' S' else false) := by
  unfold code_Less.f
  rw [make_f K N F S n0 n1 f0 f1 hS, Option.bind_some, make_f K' N' F' S' n0' n1' f0' f1' hS', Option.bind_some]
  by_cases h1 : (mk K N F S).2 = 0
  · rw [if_pos h1]
    by_cases h2 : (mk K' N' F' S').2 = 0
    · rw [if_pos h2, if_pos ⟨h1, h2⟩, key_order K N F S K' N' F' S' n0 n1 f0 f1 n0' n1' f0' f1' h1 h2]
    · rw [if_neg h2, if_neg (fun h => h2 h.2)]
  · rw [if_neg h1, if_neg (fun h => h1 h.1)]

theorem mk_size (K N F : Int) (S : ByteArray) (hS : S.size ≤ 40) : (mk K N F S).1.size ≤ 50 := by
  unfold mk
  have hz : ∀ (c : UInt8) (X : ByteArray), ((⟨#[c]⟩ : ByteArray) ++ X).size = 1 + X.size := fun c X => ByteArray.size_append
  split
  · show ((⟨#[1]⟩ : ByteArray) ++ _).size ≤ 50
    rw [hz, eight_size]; decide
  · split
    · show ((⟨#[2]⟩ : ByteArray) ++ _).size ≤ 50
      rw [hz, eight_size]; decide
    · split
      · split
        · decide
        · show ((⟨#[3]⟩ : ByteArray) ++ _).size ≤ 50
          rw [hz]; omega
      · decide

theorem CodeOrders (K N F : Int) (S : ByteArray) (K' N' F' : Int) (S' : ByteArray)
    (n0 : -9223372036854775808 ≤ N) (n1 : N ≤ 9223372036854775807) (f0 : 0 ≤ F) (f1 : F < 18446744073709551616)
    (n0' : -9223372036854775808 ≤ N') (n1' : N' ≤ 9223372036854775807) (f0' : 0 ≤ F') (f1' : F' < 18446744073709551616) :
    boscagelaw03_CodeOrders.f 120 K N F S K' N' F' S' = some true := by
  obtain ⟨t, ht, hs⟩ := cut_f S
  obtain ⟨t', ht', hs'⟩ := cut_f S'
  unfold boscagelaw03_CodeOrders.f boscagelaw03_Give.f boscagelaw03_short.f
  rw [ht, ht']
  simp only [Option.bind_some]
  rw [make_f K N F t n0 n1 f0 f1 hs]
  simp only [Option.bind_some]
  rw [make_f K' N' F' t' n0' n1' f0' f1' hs']
  simp only [Option.bind_some]
  rw [cless_f K N F t K' N' F' t' n0 n1 f0 f1 n0' n1' f0' f1' hs hs']
  simp only [Option.bind_some]
  rw [show boscageref03_Less.f 120 K N F t K' N' F' t' = _ from rless_f 10 K N F t K' N' F' t' f0 f1 f0' f1' hs]
  simp only [Option.bind_some, BEq.rfl, if_true]
  by_cases h1 : (mk K N F t).2 = 0
  · rw [if_pos h1]
    by_cases h2 : (mk K' N' F' t').2 = 0
    · rw [if_pos h2, show boscageref01_Less.f 120 (mk K N F t).1 (mk K' N' F' t').1 = _ from less_f 18 _ _ (mk_size K N F t hs), key_order K N F t K' N' F' t' n0 n1 f0 f1 n0' n1' f0' f1' h1 h2, if_pos ⟨h1, h2⟩, show boscagelaw03_works.f 120 = _ from works_f 110]
      simp only [Option.bind_some, BEq.rfl, if_true]
    · have hA : (if (mk K N F t).2 = 0 ∧ (mk K' N' F' t').2 = 0 then ahead K N F t K' N' F' t' else false) = false := if_neg (fun h => h2 h.2)
      rw [if_neg h2, hA, show boscagelaw03_works.f 120 = _ from works_f 110]
      simp only [Option.bind_some, BEq.rfl, if_true]
  · have hA : (if (mk K N F t).2 = 0 ∧ (mk K' N' F' t').2 = 0 then ahead K N F t K' N' F' t' else false) = false := if_neg (fun h => h1 h.1)
    rw [if_neg h1, hA, show boscagelaw03_works.f 120 = _ from works_f 110]
    simp only [Option.bind_some, BEq.rfl, if_true]

end Go.Proofs.Ytfpjfndelkgciaa.Pure
namespace Go.Proofs.Ytfpjfndelkgciaa.Fw
open Go.RowKit Go.Proofs.Ytfpjfndelkgciaa.HCode Go.Proofs.YtfpjfndelkgciaaW.PrintWords

theorem CodeOrders (K N F : Int) (S : ByteArray) (K' N' F' : Int) (S' : ByteArray) (w : World) (wN : (Lit.int .i64 N).wf = true) (wF : (Lit.int .u64 F).wf = true) (wN' : (Lit.int .i64 N').wf = true) (wF' : (Lit.int .u64 F').wf = true) :
    Calls Try.prog 6 #[.agg #[.int .i64 K, .int .i64 N, .int .u64 F, .string S], .agg #[.int .i64 K', .int .i64 N', .int .u64 F', .string S']] w fun e w' => e = .returned (.bool true) ∧ Below w.heap.size w w' :=
  boscagelaw03_CodeOrders.calls 120 K N F S K' N' F' S' true w (Pure.CodeOrders K N F S K' N' F' S' (wf_i64 wN).1 (wf_i64 wN).2 (wf_u64 wF).1 (wf_u64 wF).2 (wf_i64 wN').1 (wf_i64 wN').2 (wf_u64 wF').1 (wf_u64 wF').2)

end Go.Proofs.Ytfpjfndelkgciaa.Fw
