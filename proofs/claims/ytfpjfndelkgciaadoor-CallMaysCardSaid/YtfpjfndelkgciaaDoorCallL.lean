/- The plain law of layer call: what the walks compute answers as the laws say. -/
import Derived.Test.YtfpjfndelkgciaaDoorHCallx5
import Derived.Test.YtfpjfndelkgciaaDoorHCallx7
import Derived.Test.YtfpjfndelkgciaaDoorHCallx8
namespace Go.Proofs.YtfpjfndelkgciaaDoor.HCall
open Go.RowKit Go.Proofs.YtfpjfndelkgciaaDoorW.PrintWords Go.Proofs.YtfpjfndelkgciaaDoorW.PrintLast Go.Proofs.YtfpjfndelkgciaaDoorW.PrintMore
open Go.Proofs.YtfpjfndelkgciaaDoor.Fw
set_option linter.unusedVariables false
set_option linter.unusedSimpArgs false

theorem w64 (n : Int) (h0 : 0 ≤ n) (h1 : n ≤ 9223372036854775807) : wrap64 n = n := by
  unfold wrap64
  omega

def mayV (a0 a1 a2 a3 a4 : Int) : Int :=
  if a0 < 1 ∨ a0 > 3 then 11 else if a1 < 0 ∨ a1 > 1000 ∨ a2 < 1 ∨ a2 > 64 ∨ a3 < 0 ∨ a3 > 16 ∨ a4 < 0 ∨ a4 > 64 ∨ (a0 = 3 ∧ (a1 < 2 ∨ a4 < 1)) then 2 else 0

theorem within_f (n a b : Int) : call_within.f n a b = some (decide (a ≤ n ∧ n ≤ b)) := by
  unfold call_within.f
  by_cases h : n ≥ a
  · rw [if_pos h]; congr 1; by_cases h2 : n ≤ b <;> simp [h2] <;> omega
  · rw [if_neg h]; congr 1; simp; omega

theorem may_f (k : Nat) (a0 a1 a2 a3 a4 : Int) : call_May.f (k + 1) a0 a1 a2 a3 a4 = some (mayV a0 a1 a2 a3 a4) := by
  unfold call_May.f
  by_cases h3 : a0 = 3
  · rw [if_pos h3]
    simp only [call_May.j0, within_f, Option.bind_some, decide_eq_true_eq]
    unfold mayV
    repeat' split
    all_goals first | rfl | omega
  · rw [if_neg h3]
    simp only [call_May.j0, within_f, Option.bind_some, decide_eq_true_eq]
    unfold mayV
    repeat' split
    all_goals first | rfl | omega

theorem rmay_f (k : Nat) (a0 a1 a2 a3 a4 : Int) : boscageref30_May.f (k + 2) a0 a1 a2 a3 a4 = some (mayV a0 a1 a2 a3 a4) := by
  unfold boscageref30_May.f mayV
  simp only [boscageref30_May.j0, boscageref30_May.j1, if_true, decide_eq_true_eq]
  by_cases c0 : a0 < 1 ∨ a0 > 3
  · rw [if_pos c0]
    by_cases h : a0 < 1
    · rw [if_pos h]
    · rw [if_neg h, if_pos (by omega)]
  · rw [if_neg c0, if_neg (by omega), if_neg (by omega)]
    by_cases c1 : a1 < 0 ∨ a1 > 1000 ∨ a2 < 1 ∨ a2 > 64 ∨ a3 < 0 ∨ a3 > 16 ∨ a4 < 0 ∨ a4 > 64 ∨ a0 = 3 ∧ (a1 < 2 ∨ a4 < 1)
    · rw [if_pos c1]
      by_cases h1 : a1 < 0
      · rw [if_pos h1]
      rw [if_neg h1]
      by_cases h2 : a1 > 1000
      · rw [if_pos h2]
      rw [if_neg h2]
      by_cases h3 : a2 < 1
      · rw [if_pos h3]
      rw [if_neg h3]
      by_cases h4 : a2 > 64
      · rw [if_pos h4]
      rw [if_neg h4]
      by_cases h5 : a3 < 0
      · rw [if_pos h5]
      rw [if_neg h5]
      by_cases h6 : a3 > 16
      · rw [if_pos h6]
      rw [if_neg h6]
      by_cases h7 : a4 < 0
      · rw [if_pos h7]
      rw [if_neg h7]
      by_cases h8 : a4 > 64
      · rw [if_pos h8]
      rw [if_neg h8, if_pos (by omega)]
      by_cases h9 : a1 < 2
      · rw [if_pos h9]
      rw [if_neg h9, if_pos (by omega)]
    · rw [if_neg c1, if_neg (by omega), if_neg (by omega), if_neg (by omega), if_neg (by omega), if_neg (by omega), if_neg (by omega), if_neg (by omega), if_neg (by omega)]
      by_cases h : a0 = 3
      · rw [if_pos h, if_neg (by omega), if_neg (by omega)]
      · rw [if_neg h]

theorem uses_f (op : Int) : boscageref30_Uses.f op 0 = some (usesB op 0) ∧ boscageref30_Uses.f op 1 = some (usesB op 1) ∧ boscageref30_Uses.f op 2 = some (usesB op 2) ∧ boscageref30_Uses.f op 3 = some (usesB op 3) := by
  by_cases h : 1 ≤ op ∧ op ≤ 13
  · obtain ⟨n, rfl⟩ : ∃ n : Nat, op = n := ⟨op.toNat, by omega⟩
    have hn : 1 ≤ n ∧ n ≤ 13 := by omega
    rcases n with _ | _ | _ | _ | _ | _ | _ | _ | _ | _ | _ | _ | _ | _ | n
    all_goals first | omega | exact ⟨rfl, rfl, rfl, rfl⟩
  · rw [usesB_out _ _ h, usesB_out _ _ h, usesB_out _ _ h, usesB_out _ _ h]
    unfold boscageref30_Uses.f
    refine ⟨?_, ?_, ?_, ?_⟩
    all_goals
      simp only [if_true, show ¬ ((1 : Int) = 0) by decide, show ¬ ((2 : Int) = 0) by decide, show ¬ ((3 : Int) = 0) by decide, show ¬ ((2 : Int) = 1) by decide, show ¬ ((3 : Int) = 1) by decide, show ¬ ((3 : Int) = 2) by decide, if_false]
      repeat' split
    all_goals first | (exfalso; omega) | rfl | (congr 1; first | exact decide_eq_false (by omega) | exact beq_eq_false_iff_ne.mpr (by omega))

theorem is_f (op : Int) : call_is.f op = some (decide (1 ≤ op ∧ op ≤ 13)) := by
  unfold call_is.f
  split
  · congr 1; by_cases h2 : op ≤ 13 <;> simp [h2] <;> omega
  · congr 1; symm; exact decide_eq_false (by omega)

def kOf (b : Bool) (s : ByteArray) : ByteArray := if b = true then s else ⟨#[]⟩
def nOf (b : Bool) (n : Int) : Int := if b = true then n else 0
def plainV (op : Int) (K V O : ByteArray) (H : Int) : Int × ByteArray × ByteArray × ByteArray × Int := (op, kOf (usesB op 0) K, kOf (usesB op 1) V, kOf (usesB op 2) O, nOf (usesB op 3) H)
theorem plain_f (op : Int) (K V O : ByteArray) (H : Int) : call_Plain.f op K V O H = some (plainV op K V O H) := rfl

theorem rplain_f (op : Int) (K V O : ByteArray) (H : Int) : boscageref30_Plain.f op K V O H = some (plainV op K V O H) := rfl

def fitsV (kind op : Int) (K V O : ByteArray) (H : Int) : Int :=
  if ¬ (1 ≤ op ∧ op ≤ 13) then 11 else if op = 6 ∧ kind ≠ 2 then 2 else
  if (K.size : Int) > 16 ∨ (V.size : Int) > 16 ∨ (O.size : Int) > 16 then 6 else if H < 0 then 10 else 0
def fitsC (kind op : Int) (K V O : ByteArray) (H : Int) : Int := fitsV kind op (kOf (usesB op 0) K) (kOf (usesB op 1) V) (kOf (usesB op 2) O) (nOf (usesB op 3) H)

theorem fits_f (k : Nat) (a0 a1 a2 a3 a4 op : Int) (K V O : ByteArray) (H : Int) : call_Fits.f (k + 2) a0 a1 a2 a3 a4 op K V O H = some (fitsC a0 op K V O H) := by
  unfold call_Fits.f
  simp only [plain_f, is_f, Option.bind_some, plainV, decide_eq_true_eq]
  generalize hK : kOf (usesB op 0) K = K'
  generalize hV : kOf (usesB op 1) V = V'
  generalize hO : kOf (usesB op 2) O = O'
  generalize hH : nOf (usesB op 3) H = H'
  unfold fitsC fitsV
  rw [hK, hV, hO, hH]
  simp only [call_Fits.j0, call_Fits.j1, bne_iff_ne, if_true, decide_eq_true_eq]
  repeat' split
  all_goals first | rfl | omega | (simp_all; done) | (simp_all; omega)

theorem rfits_f (k : Nat) (a0 a1 a2 a3 a4 op : Int) (K V O : ByteArray) (H : Int) : boscageref30_Fits.f (k + 6) a0 a1 a2 a3 a4 op K V O H = some (fitsC a0 op K V O H) := by
  unfold boscageref30_Fits.f
  simp only [boscageref30_Fits.j0, boscageref30_Fits.j1, boscageref30_Fits.j2, rplain_f, Option.bind_some, plainV, decide_eq_true_eq, bne_iff_ne, if_true]
  generalize hK : kOf (usesB op 0) K = K'
  generalize hV : kOf (usesB op 1) V = V'
  generalize hO : kOf (usesB op 2) O = O'
  generalize hH : nOf (usesB op 3) H = H'
  unfold fitsC fitsV
  rw [hK, hV, hO, hH]
  repeat' split
  all_goals first | rfl | omega | (simp_all; done) | (simp_all; omega)

theorem works_f (k : Nat) : boscagelaw30_works.f k = some true := rfl

theorem callMays_true (a0 a1 a2 a3 a4 op : Int) (K V O : ByteArray) (H : Int) : boscagelaw30_CallMays.f 9 a0 a1 a2 a3 a4 op K V O H = some true := by
  unfold boscagelaw30_CallMays.f
  have e1 := may_f 8 a0 a1 a2 a3 a4
  have e2 := rmay_f 7 a0 a1 a2 a3 a4
  have e3 := fits_f 7 a0 a1 a2 a3 a4 op K V O H
  have e4 := rfits_f 3 a0 a1 a2 a3 a4 op K V O H
  have e5 := rplain_f op K V O H
  have e6 := works_f 9
  rw [e1, e2, e3, e4, e5, e6]
  simp [plain_f, call_Held.f, (uses_f op).2.2.2]

theorem cells_f (k : Nat) (a0 a1 a2 a3 a4 : Int) : call_Cells.f (k + 1) a0 a1 a2 a3 a4 = some (if mayV a0 a1 a2 a3 a4 = 0 then wrap64 ((wrap64 (2 + a2)) + a3) else 0) := by
  unfold call_Cells.f
  rw [may_f]
  simp only [Option.bind_some]
  split <;> rfl
theorem rcells_f (k : Nat) (a0 a1 a2 a3 a4 : Int) : boscageref30_Cells.f (k + 2) a0 a1 a2 a3 a4 = some (if mayV a0 a1 a2 a3 a4 = 0 then wrap64 ((wrap64 (2 + a2)) + a3) else 0) := by
  unfold boscageref30_Cells.f
  rw [rmay_f]
  simp only [Option.bind_some]
  split <;> rfl

def numV (i : Int) : Int := if 0 ≤ i ∧ i ≤ 63 then i else 0
theorem number_f (i : Int) : call_number.f i = some (numV i) := by
  unfold call_number.f numV
  simp only [within_f, Option.bind_some, decide_eq_true_eq]
  split <;> rfl
theorem small_f (i : Int) : boscageref30_small.f i = some (numV i) := by
  unfold boscageref30_small.f numV
  repeat' split
  all_goals first | rfl | omega
theorem note_f (i : Int) : call_Note.f i = some (wrap64 (2 + numV i)) := by simp [call_Note.f, number_f]
theorem rnote_f (i : Int) : boscageref30_Note.f i = some (wrap64 (2 + numV i)) := by simp [boscageref30_Note.f, small_f]
def handleV (a2 i : Int) : Int := if 1 ≤ a2 ∧ a2 ≤ 64 then wrap64 (wrap64 (2 + a2) + numV i) else wrap64 (2 + numV i)
theorem handle_f (a0 a1 a2 a3 a4 i : Int) : call_Handle.f a0 a1 a2 a3 a4 i = some (handleV a2 i) := by
  unfold call_Handle.f handleV
  simp only [within_f, number_f, Option.bind_some, decide_eq_true_eq]
  split <;> simp
theorem rhandle_f (k : Nat) (a0 a1 a2 a3 a4 i : Int) : boscageref30_Handle.f (k + 1) a0 a1 a2 a3 a4 i = some (handleV a2 i) := by
  unfold boscageref30_Handle.f handleV
  simp only [boscageref30_Handle.j0, small_f, Option.bind_some, decide_eq_true_eq, if_true]
  repeat' split
  all_goals first | rfl | omega

theorem callCells_true (a0 a1 a2 a3 a4 i : Int) : boscagelaw30_CallCells.f 9 a0 a1 a2 a3 a4 i = some true := by
  unfold boscagelaw30_CallCells.f
  have e1 := cells_f 8 a0 a1 a2 a3 a4
  have e2 := rcells_f 7 a0 a1 a2 a3 a4
  have e3 := rhandle_f 8 a0 a1 a2 a3 a4 i
  have e6 := works_f 9
  rw [e1, e2, e3, e6]
  simp [note_f, rnote_f, handle_f]

/-- Where the marks stand. -/
def marks (a b : Nat) : List Int := List.replicate a 1 ++ List.replicate b 0
theorem marks_len (a b : Nat) : (marks a b).length = a + b := by simp [marks]
theorem marks_step (a b : Nat) : (marks a (b + 1)).set a (wrap64 (rd (marks a (b + 1)) a + 1)) = marks (a + 1) b := by
  have e : rd (marks a (b + 1)) a = 0 := by
    unfold rd marks
    simp [List.getD, List.getElem?_append]
  rw [e, show wrap64 (0 + 1) = 1 from w64 _ (by decide) (by decide)]
  unfold marks
  rw [List.set_append, if_neg (by simp), List.length_replicate, Nat.sub_self, List.replicate_succ, List.set_cons_zero, show a + 1 = Nat.succ a from rfl, List.replicate_succ', List.append_assoc]
  rfl

theorem l2_f (n : Nat) (hn : n ≤ 100) : ∀ (j k : Nat), j ≤ n → n - j < k → boscagelaw30_CallApart.l2 k n (marks n 0) j = some true
  | j, 0, _, h => absurd h (by omega)
  | j, k + 1, hj, h => by
    rw [boscagelaw30_CallApart.l2]
    by_cases hlt : (j : Int) < n
    · have e : rd (marks n 0) j = 1 := by
        unfold rd marks
        simp [List.getD, show j < n by omega]
      rw [if_pos hlt, if_pos (by omega), if_pos (by rw [marks_len]; omega), e, if_pos rfl, w64 _ (by omega) (by omega)]
      exact l2_f n hn (j + 1) k (by omega) (by omega)
    · rw [if_neg hlt]

theorem l1_f (n t h : Nat) (a0 a1 a4 : Int) (ht : 1 ≤ t ∧ t ≤ 64) (hh : h ≤ 16) (hn : n = 2 + t + h) : ∀ (i k : Nat), i ≤ h → h - i + n + 2 < k →
    boscagelaw30_CallApart.l1 k n (marks (2 + t + i) (h - i)) i a0 a1 t h a4 = some true
  | i, 0, _, hk => absurd hk (by omega)
  | i, k + 1, hi, hk => by
    rw [boscagelaw30_CallApart.l1]
    by_cases hlt : (i : Int) < h
    · have e : handleV t i = ((2 + t + i : Nat) : Int) := by
        unfold handleV numV
        rw [if_pos (by omega), if_pos (by omega), w64 (2 + (t : Int)) (by omega) (by omega), w64 _ (by omega) (by omega)]
        omega
      rw [if_pos hlt, handle_f, e]
      simp only [Option.bind_some]
      obtain ⟨b, hb⟩ : ∃ b, h - i = b + 1 := ⟨h - i - 1, by omega⟩
      rw [if_neg (by omega), if_neg (by omega), if_pos (by omega), if_pos (by rw [marks_len]; omega), hb, Int.toNat_natCast, marks_step, w64 _ (by omega) (by omega)]
      have := l1_f n t h a0 a1 a4 ht hh hn (i + 1) k (by omega) (by omega)
      rw [show h - (i + 1) = b by omega, show 2 + t + (i + 1) = 2 + t + i + 1 by omega] at this
      exact this
    · rw [if_neg hlt]
      have : i = h := by omega
      subst this
      rw [Nat.sub_self, ← hn]
      exact l2_f n (by omega) 0 k (by omega) (by omega)

theorem l0_f (n t h : Nat) (a0 a1 a4 : Int) (ht : 1 ≤ t ∧ t ≤ 64) (hh : h ≤ 16) (hn : n = 2 + t + h) : ∀ (i k : Nat), i ≤ t → t - i + h + n + 4 < k →
    boscagelaw30_CallApart.l0 k n (marks (2 + i) (t + h - i)) i a0 a1 t h a4 = some true
  | i, 0, _, hk => absurd hk (by omega)
  | i, k + 1, hi, hk => by
    rw [boscagelaw30_CallApart.l0]
    by_cases hlt : (i : Int) < t
    · have e : wrap64 (2 + numV i) = ((2 + i : Nat) : Int) := by
        unfold numV
        rw [if_pos (by omega), w64 _ (by omega) (by omega)]
        omega
      rw [if_pos hlt, note_f, e]
      simp only [Option.bind_some]
      obtain ⟨b, hb⟩ : ∃ b, t + h - i = b + 1 := ⟨t + h - i - 1, by omega⟩
      rw [if_neg (by omega), if_neg (by omega), if_pos (by omega), if_pos (by rw [marks_len]; omega), hb, Int.toNat_natCast, marks_step, w64 _ (by omega) (by omega)]
      have := l0_f n t h a0 a1 a4 ht hh hn (i + 1) k (by omega) (by omega)
      rw [show t + h - (i + 1) = b by omega, show 2 + (i + 1) = 2 + i + 1 by omega] at this
      exact this
    · rw [if_neg hlt]
      have : i = t := by omega
      subst this
      rw [show i + h - i = h - 0 by omega]
      exact l1_f n i h a0 a1 a4 ht hh hn 0 k (by omega) (by omega)

theorem plain_plain (op : Int) (K V O : ByteArray) (H : Int) : plainV op (kOf (usesB op 0) K) (kOf (usesB op 1) V) (kOf (usesB op 2) O) (nOf (usesB op 3) H) = plainV op K V O H := by
  unfold plainV kOf nOf
  cases usesB op 0 <;> cases usesB op 1 <;> cases usesB op 2 <;> cases usesB op 3 <;> rfl
theorem fits_plain (kind op : Int) (K V O : ByteArray) (H : Int) : fitsC kind op (kOf (usesB op 0) K) (kOf (usesB op 1) V) (kOf (usesB op 2) O) (nOf (usesB op 3) H) = fitsC kind op K V O H := by
  unfold fitsC kOf nOf
  cases usesB op 0 <;> cases usesB op 1 <;> cases usesB op 2 <;> cases usesB op 3 <;> rfl

theorem j0_f (a0 a1 a2 a3 a4 : Int) : boscagelaw30_CallApart.j0 300 false a0 a1 a2 a3 a4 = some true := by
  rw [boscagelaw30_CallApart.j0]
  rw [if_neg (by decide), may_f 298]
  simp only [Option.bind_some, cells_f 298]
  by_cases hm : mayV a0 a1 a2 a3 a4 = 0
  · have hb : 1 ≤ a2 ∧ a2 ≤ 64 ∧ 0 ≤ a3 ∧ a3 ≤ 16 := by
      unfold mayV at hm
      split at hm
      · omega
      · split at hm
        · omega
        · omega
    obtain ⟨t, rfl⟩ : ∃ t : Nat, a2 = t := ⟨a2.toNat, by omega⟩
    obtain ⟨h, rfl⟩ : ∃ h : Nat, a3 = h := ⟨a3.toNat, by omega⟩
    rw [if_pos hm, w64 (2 + (t : Int)) (by omega) (by omega), w64 _ (by omega) (by omega)]
    obtain ⟨n, hn⟩ : ∃ n : Nat, n = 2 + t + h := ⟨_, rfl⟩
    rw [show 2 + (t : Int) + h = n by omega, if_pos hm, if_neg (by omega), boscagelaw30_CallApart.j1, show decide ((n : Int) > 100) = false from decide_eq_false (by omega), if_neg (by decide), if_pos (by omega), if_pos (by omega)]
    simp only [Option.bind_some]
    have s0 := marks_step 0 (n - 1)
    have s1 := marks_step 1 (n - 2)
    have e0 : (List.replicate (n : Int).toNat 0 : List Int) = marks 0 (n - 1 + 1) := by
      unfold marks; rw [Int.toNat_natCast, show n - 1 + 1 = n by omega]; simp
    rw [e0, if_pos (by rw [marks_len]; omega), if_pos (by rw [marks_len]; omega)]
    rw [show ((0 : Nat) : Int) = 0 from rfl] at s0
    rw [show ((1 : Nat) : Int) = 1 from rfl] at s1
    rw [show (0 : Int).toNat = 0 from rfl, show (1 : Int).toNat = 1 from rfl, s0, show (0 + 1 : Nat) = 1 from rfl, show n - 1 = n - 2 + 1 by omega, s1]
    have := l0_f n t h a0 a1 a4 (by omega) (by omega) hn 0 298 (by omega) (by omega)
    rw [show 2 + 0 = 1 + 1 from rfl, show t + h - 0 = n - 2 by omega] at this
    exact this
  · rw [if_neg hm, if_neg hm]; rfl

theorem callApart_true (a0 a1 a2 a3 a4 op : Int) (K V O : ByteArray) (H : Int) : boscagelaw30_CallApart.f 300 a0 a1 a2 a3 a4 op K V O H = some true := by
  unfold boscagelaw30_CallApart.f
  rw [works_f 300]
  simp only [Option.bind_some, if_true, fits_f 298, plain_f, plainV, fits_plain]
  have e := plain_plain op K V O H
  unfold plainV at e
  simp only [Prod.mk.injEq, true_and] at e
  obtain ⟨e1, e2, e3, e4⟩ := e
  rw [e1, e2, e3, e4]
  simp only [beq_self_eq_true, Bool.not_true, Bool.or_false]
  exact j0_f a0 a1 a2 a3 a4

theorem callMays_walk (a0 a1 a2 a3 a4 op : Int) (K V O : ByteArray) (H : Int) (w : World) (HU : Used w) : Calls Tryd.prog 3 #[.agg #[.int .i64 a0, .int .i64 a1, .int .i64 a2, .int .i64 a3, .int .i64 a4], .agg #[.int .i64 op, .string K, .string V, .string O, .int .i64 H]] w fun e w' => e = .returned (.bool true) ∧ Below w.heap.size w w' :=
  boscagelaw30_CallMays.calls 9 a0 a1 a2 a3 a4 op K V O H true w HU (callMays_true ..)
theorem callApart_walk (a0 a1 a2 a3 a4 op : Int) (K V O : ByteArray) (H : Int) (w : World) (HU : Used w) : Calls Tryd.prog 5 #[.agg #[.int .i64 a0, .int .i64 a1, .int .i64 a2, .int .i64 a3, .int .i64 a4], .agg #[.int .i64 op, .string K, .string V, .string O, .int .i64 H]] w fun e w' => e = .returned (.bool true) ∧ Below w.heap.size w w' :=
  boscagelaw30_CallApart.calls 300 a0 a1 a2 a3 a4 op K V O H true w HU (callApart_true ..)
theorem callCells_walk (a0 a1 a2 a3 a4 i : Int) (w : World) (HU : Used w) : Calls Tryd.prog 4 #[.agg #[.int .i64 a0, .int .i64 a1, .int .i64 a2, .int .i64 a3, .int .i64 a4], .int .i64 i] w fun e w' => e = .returned (.bool true) ∧ Below w.heap.size w w' :=
  boscagelaw30_CallCells.calls 9 a0 a1 a2 a3 a4 i true w HU (callCells_true ..)

end Go.Proofs.YtfpjfndelkgciaaDoor.HCall
