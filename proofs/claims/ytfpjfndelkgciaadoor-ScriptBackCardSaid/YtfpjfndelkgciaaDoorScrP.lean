/- The plain law of script: what is wrong with an entry, an entry's bytes, a script's. -/
import Derived.Test.YtfpjfndelkgciaaDoorScrE
import Derived.Test.YtfpjfndelkgciaaDoorHScriptx3
namespace Go.Proofs.YtfpjfndelkgciaaDoor.Sc
open Go.RowKit Go.Proofs.YtfpjfndelkgciaaDoorW.PrintWords Go.Proofs.YtfpjfndelkgciaaDoorW.PrintLast Go.Proofs.YtfpjfndelkgciaaDoorW.PrintMore
open HScript (S25 S54 k25 k54 z25 z54)
open Fw (usesB Used)
set_option linter.unusedVariables false
set_option linter.unusedSimpArgs false

/-- Is something there that the op does not use? -/
def neqB (op : Int) (K V O : ByteArray) (H : Int) : Bool :=
  (!(op == op) || (!((if usesB op 0 = true then K else ⟨#[]⟩ : ByteArray).toList == K.toList) || (!((if usesB op 1 = true then V else ⟨#[]⟩ : ByteArray).toList == V.toList) || (!((if usesB op 2 = true then O else ⟨#[]⟩ : ByteArray).toList == O.toList) || (!((if usesB op 3 = true then H else 0) == H))))))
def errE (T op : Int) (K V O : ByteArray) (H : Int) : Int :=
  if T < 0 ∨ T > 255 ∨ op < 0 ∨ op > 255 ∨ H < 0 ∨ H > 255 then 8 else if (K.size : Int) > 16 ∨ (V.size : Int) > 16 ∨ (O.size : Int) > 16 then 6 else if neqB op K V O H = true then 4 else 0

theorem wrong_f (k : Nat) (T op : Int) (K V O : ByteArray) (H : Int) : HScript.script_wrong.f (k + 2) T op K V O H = some (errE T op K V O H) := by
  unfold errE
  by_cases h : T < 0 ∨ T > 255 ∨ op < 0 ∨ op > 255 ∨ H < 0 ∨ H > 255
  · rw [if_pos h]
    have key : ∀ x, x = true → HScript.script_wrong.j0 (k + 2) x T op K V O H = some 8 := fun x hx => by subst hx; simp [HScript.script_wrong.j0]
    unfold HScript.script_wrong.f HScript.script_wrong_1.f
    by_cases h1 : T < 0
    · simp [h1, key]
    · by_cases h2 : T > 255
      · simp [h1, h2, key]
      · by_cases h3 : op < 0
        · simp [h1, h2, h3, key]
        · by_cases h4 : op > 255
          · simp [h1, h2, h3, h4, key]
          · by_cases h5 : H < 0
            · simp [h1, h2, h3, h4, h5, key]
            · have h6 : H > 255 := by omega
              simp [h1, h2, h3, h4, h5, h6, key]
  · rw [if_neg h]
    have h1 : ¬ T < 0 := by omega
    have h2 : ¬ T > 255 := by omega
    have h3 : ¬ op < 0 := by omega
    have h4 : ¬ op > 255 := by omega
    have h5 : ¬ H < 0 := by omega
    have h6 : ¬ H > 255 := by omega
    have e0 : HScript.script_wrong.f (k + 2) T op K V O H = HScript.script_wrong.j0 (k + 2) false T op K V O H := by
      unfold HScript.script_wrong.f HScript.script_wrong_1.f
      simp only [if_neg h1, if_neg h3, if_neg h5, Option.bind_some, decide_eq_false h2, decide_eq_false h4, decide_eq_false h6]
      simp
    rw [e0]
    have key : ∀ x, x = true → HScript.script_wrong.j1 (k + 1) x T op K V O H = some 6 := fun x hx => by subst hx; simp [HScript.script_wrong.j1]
    have key0 : HScript.script_wrong.j1 (k + 1) false T op K V O H = some (if neqB op K V O H = true then 4 else 0) := by
      simp only [HScript.script_wrong.j1, HScript.call_Plain.f, Option.bind_some, neqB]
      rw [if_neg (by decide)]
      exact (apply_ite some _ _ _).symm
    simp only [HScript.script_wrong.j0, HScript.script_wrong_2.f, Option.bind_some]
    rw [if_neg (by decide)]
    by_cases g1 : (K.size : Int) ≥ 17
    · rw [if_pos (show (K.size : Int) > 16 ∨ _ from .inl (by omega))]
      simp [g1, key]
    · by_cases g2 : (V.size : Int) ≥ 17
      · rw [if_pos (show (K.size : Int) > 16 ∨ _ from .inr (.inl (by omega)))]
        simp [g1, g2, key]
      · by_cases g3 : (O.size : Int) ≥ 17
        · rw [if_pos (show (K.size : Int) > 16 ∨ _ from .inr (.inr (by omega)))]
          simp [g1, g2, g3, key]
        · rw [if_neg (show ¬ ((K.size : Int) > 16 ∨ (V.size : Int) > 16 ∨ (O.size : Int) > 16) by omega)]
          simp [g1, g2, g3, key0]
theorem err_f (k : Nat) (T op : Int) (K V O : ByteArray) (H : Int) : HScript.boscageref42_Err.f (k + 2) T op K V O H = some (errE T op K V O H) := by
  unfold errE
  by_cases h : T < 0 ∨ T > 255 ∨ op < 0 ∨ op > 255 ∨ H < 0 ∨ H > 255
  · rw [if_pos h]
    have key : ∀ x, x = true → HScript.boscageref42_Err.j0 (k + 2) x T op K V O H = some 8 := fun x hx => by subst hx; simp [HScript.boscageref42_Err.j0]
    unfold HScript.boscageref42_Err.f
    by_cases h1 : T < 0
    · simp [h1, key]
    · by_cases h2 : T > 255
      · simp [h1, h2, key]
      · by_cases h3 : op < 0
        · simp [h1, h2, h3, key]
        · by_cases h4 : op > 255
          · simp [h1, h2, h3, h4, key]
          · by_cases h5 : H < 0
            · simp [h1, h2, h3, h4, h5, key]
            · have h6 : H > 255 := by omega
              simp [h1, h2, h3, h4, h5, h6, key]
  · rw [if_neg h]
    have h1 : ¬ T < 0 := by omega
    have h2 : ¬ T > 255 := by omega
    have h3 : ¬ op < 0 := by omega
    have h4 : ¬ op > 255 := by omega
    have h5 : ¬ H < 0 := by omega
    have h6 : ¬ H > 255 := by omega
    have e0 : HScript.boscageref42_Err.f (k + 2) T op K V O H = HScript.boscageref42_Err.j0 (k + 2) false T op K V O H := by
      unfold HScript.boscageref42_Err.f
      rw [if_neg h1, if_neg h2, if_neg h3, if_neg h4, if_neg h5, decide_eq_false h6]
    rw [e0]
    have key : ∀ x, x = true → HScript.boscageref42_Err.j1 (k + 1) x T op K V O H = some 6 := fun x hx => by subst hx; simp [HScript.boscageref42_Err.j1]
    have key0 : HScript.boscageref42_Err.j1 (k + 1) false T op K V O H = some (if neqB op K V O H = true then 4 else 0) := by
      simp only [HScript.boscageref42_Err.j1, HScript.boscageref30_Plain.f, Option.bind_some, neqB]
      rw [if_neg (by decide)]
      exact (apply_ite some _ _ _).symm
    simp only [HScript.boscageref42_Err.j0]
    rw [if_neg (by decide)]
    by_cases g1 : (K.size : Int) > 16
    · rw [if_pos g1, if_pos (.inl g1), key _ rfl]
    · rw [if_neg g1]
      by_cases g2 : (V.size : Int) > 16
      · rw [if_pos g2, if_pos (.inr (.inl g2)), key _ rfl]
      · rw [if_neg g2]
        by_cases g3 : (O.size : Int) > 16
        · rw [if_pos (.inr (.inr g3)), decide_eq_true g3, key _ rfl]
        · rw [if_neg (by omega), decide_eq_false g3, key0]

/-- A text's bytes. -/
def tb (b : Bool) (s : ByteArray) : List Int := if b = true then [(s.size : Int) % 256] ++ bytesOf s else []
def hb (b : Bool) (H : Int) : List Int := if b = true then [H % 256] else []
/-- An entry's bytes. -/
def encE (T op : Int) (K V O : ByteArray) (H : Int) : List Int := [T % 256, op % 256] ++ tb (usesB op 0) K ++ tb (usesB op 1) V ++ tb (usesB op 2) O ++ hb (usesB op 3) H
theorem err_small {T op : Int} {K V O : ByteArray} {H : Int} (h : errE T op K V O H = 0) : (0 ≤ T ∧ T ≤ 255) ∧ (0 ≤ op ∧ op ≤ 255) ∧ (0 ≤ H ∧ H ≤ 255) ∧ K.size ≤ 16 ∧ V.size ≤ 16 ∧ O.size ≤ 16 ∧ neqB op K V O H = false := by
  unfold errE at h
  split at h
  · omega
  · split at h
    · omega
    · split at h
      · omega
      · rename_i h1 h2 h3
        exact ⟨by omega, by omega, by omega, by omega, by omega, by omega, by simpa using h3⟩

theorem bytes_f (k : Nat) (T op : Int) (K V O : ByteArray) (H : Int) (h1 : K.size ≤ 16) (h2 : V.size ≤ 16) (h3 : O.size ≤ 16) : HScript.boscageref42_bytes.f (k + 5) T op K V O H = some (encE T op K V O H) := by
  obtain ⟨u0, u1, u2, u3⟩ := uses_f op
  have step : ∀ (j : Nat) (xs : List Int) (i : Nat) (s : ByteArray) (b : Bool), i < 3 → rdOf ByteArray.empty [K, V, O] (i : Int) = s → s.size ≤ 16 → xs.length ≤ 1000 → HScript.boscageref30_Uses.f op (i : Int) = some b →
      HScript.boscageref42_bytes.l0 (j + 1) xs [K, V, O] (i : Int) T op K V O H = HScript.boscageref42_bytes.l0 j (xs ++ tb b s) [K, V, O] ((i + 1 : Nat) : Int) T op K V O H := by
    intro j xs i s b hi hs hsz hx hu
    have hw : wrap64 ((i : Int) + 1) = ((i + 1 : Nat) : Int) := by unfold wrap64; omega
    simp only [HScript.boscageref42_bytes.l0, hs, hu, Option.bind_some, hw]
    rw [if_pos (by omega)]
    cases b with
    | false => rw [if_neg (by decide)]; simp [tb]
    | true =>
      rw [if_pos rfl, if_pos (by omega), if_pos (by simp; omega), if_pos (by omega), if_pos (by rw [List.length_append, List.length_singleton]; omega)]
      simp [tb]
  have hlast : ∀ (j : Nat) (xs : List Int), xs.length ≤ 1000 → HScript.boscageref42_bytes.l0 (j + 1) xs [K, V, O] ((3 : Nat) : Int) T op K V O H = some (xs ++ hb (usesB op 3) H) := by
    intro j xs hx
    simp only [HScript.boscageref42_bytes.l0, u3, Option.bind_some]
    rw [if_neg (by decide)]
    cases usesB op 3 with
    | false => rw [if_neg (by decide)]; simp [hb]
    | true => rw [if_pos rfl, if_pos (by omega)]; simp [hb]
  have ht : ∀ (b : Bool) (s : ByteArray), s.size ≤ 16 → (tb b s).length ≤ 17 := by
    intro b s hs
    cases b <;> simp [tb, bytesOf_length]
    omega
  have l0 := ht (usesB op 0) K h1
  have l1 := ht (usesB op 1) V h2
  have l2 := ht (usesB op 2) O h3
  by_cases hin : 1 ≤ op ∧ op ≤ 13
  · have e0 : HScript.boscageref42_bytes.f (k + 5) T op K V O H = HScript.boscageref42_bytes.l0 (k + 4) [T % 256, op % 256] [K, V, O] ((0 : Nat) : Int) T op K V O H := by
      unfold HScript.boscageref42_bytes.f
      simp only [Option.bind_some]
      rw [if_neg (by omega), decide_eq_false (by omega)]
      simp only [HScript.boscageref42_bytes.j0]
      rw [if_neg (by decide)]
      rfl
    rw [e0, step (k + 3) _ 0 K (usesB op 0) (by omega) rfl h1 (by simp) u0, step (k + 2) _ 1 V (usesB op 1) (by omega) rfl h2 (by simp; omega) u1, step (k + 1) _ 2 O (usesB op 2) (by omega) rfl h3 (by simp; omega) u2, hlast k _ (by simp; omega)]
    simp [encE]
  · have e0 : HScript.boscageref42_bytes.f (k + 5) T op K V O H = some [T % 256, op % 256] := by
      unfold HScript.boscageref42_bytes.f
      simp only [Option.bind_some]
      have key : ∀ x, x = true → HScript.boscageref42_bytes.j0 (k + 5) [T % 256, op % 256] [K, V, O] x T op K V O H = some [T % 256, op % 256] := fun x hx => by subst hx; simp [HScript.boscageref42_bytes.j0]
      by_cases h0 : op < 1
      · rw [if_pos h0, key _ rfl]
      · rw [if_neg h0, decide_eq_true (by omega), key _ rfl]
    rw [e0]
    simp [encE, tb, hb, Fw.usesB_out op 0 hin, Fw.usesB_out op 1 hin, Fw.usesB_out op 2 hin, Fw.usesB_out op 3 hin]
theorem enc_len {T op : Int} {K V O : ByteArray} {H : Int} (h1 : K.size ≤ 16) (h2 : V.size ≤ 16) (h3 : O.size ≤ 16) : (encE T op K V O H).length ≤ 60 := by
  have ht : ∀ (b : Bool) (s : ByteArray), s.size ≤ 16 → (tb b s).length ≤ 17 := by
    intro b s hs
    cases b <;> simp [tb, bytesOf_length]
    omega
  have l0 := ht (usesB op 0) K h1
  have l1 := ht (usesB op 1) V h2
  have l2 := ht (usesB op 2) O h3
  have l3 : (hb (usesB op 3) H).length ≤ 1 := by cases usesB op 3 <;> simp [hb]
  simp only [encE, List.length_append, List.length_cons, List.length_nil]
  omega

def errS (e : S54) : Int := errE e.f0 e.f1.f0 e.f1.f1 e.f1.f2 e.f1.f3 e.f1.f4
def encS (e : S54) : List Int := encE e.f0 e.f1.f0 e.f1.f1 e.f1.f2 e.f1.f3 e.f1.f4
/-- A script's bytes, or what is wrong with it. -/
def encGo (xs : List Int) : List S54 → List Int × Int
  | [] => (xs, 0)
  | e :: l => if errS e = 0 then encGo (xs ++ encS e) l else ([], errS e)
def encode (l : List S54) : List Int × Int := if (l.length : Int) > 5000 then ([], 7) else encGo [] l

theorem rEncode_l (l : List S54) (hl : l.length ≤ 5000) : ∀ (n i : Nat) (xs : List Int) (k : Nat), i + n = l.length → xs.length ≤ 60 * i → HScript.boscageref42_Encode.l0 (k + n + 6) l xs (i : Int) = some (encGo xs (l.drop i))
  | 0, i, xs, k, hi, hx => by
    simp only [HScript.boscageref42_Encode.l0]
    rw [if_neg (by omega), List.drop_eq_nil_of_le (by omega)]
    rfl
  | n + 1, i, xs, k, hi, hx => by
    have hlt : i < l.length := by omega
    obtain ⟨e, he⟩ : ∃ e, HScript.rd_T54 l (i : Int) = e := ⟨_, rfl⟩
    have hd' : l.drop i = e :: l.drop (i + 1) := by
      rw [List.drop_eq_getElem_cons hlt, ← he]
      simp [HScript.rd_T54, hlt]
    have hw : wrap64 ((i : Int) + 1) = ((i + 1 : Nat) : Int) := by unfold wrap64; omega
    rw [hd']
    obtain ⟨q, hq⟩ : ∃ q, q = k + n + 6 := ⟨_, rfl⟩
    rw [show k + (n + 1) + 6 = q + 1 by omega]
    simp only [HScript.boscageref42_Encode.l0, he, encGo, hw]
    rw [if_pos (by omega), if_pos (by omega), show HScript.boscageref42_Err.f q e.f0 e.f1.f0 e.f1.f1 e.f1.f2 e.f1.f3 e.f1.f4 = some (errS e) by rw [hq]; exact err_f (k + n + 4) _ _ _ _ _ _, Option.bind_some]
    by_cases h0 : errS e = 0
    · have hs := err_small (show errE e.f0 e.f1.f0 e.f1.f1 e.f1.f2 e.f1.f3 e.f1.f4 = 0 from h0)
      have hlen := enc_len (T := e.f0) (op := e.f1.f0) (H := e.f1.f4) hs.2.2.2.1 hs.2.2.2.2.1 hs.2.2.2.2.2.1
      have hlen2 : (encS e).length ≤ 60 := hlen
      rw [if_pos h0, if_pos h0, show HScript.boscageref42_bytes.f q e.f0 e.f1.f0 e.f1.f1 e.f1.f2 e.f1.f3 e.f1.f4 = some (encS e) by rw [hq]; exact bytes_f (k + n + 1) _ _ _ _ _ _ hs.2.2.2.1 hs.2.2.2.2.1 hs.2.2.2.2.2.1, Option.bind_some, if_pos (by omega), hq]
      exact rEncode_l l hl n (i + 1) _ k (by omega) (by rw [List.length_append]; omega)
    · rw [if_neg h0, if_neg h0]
theorem rEncode_f (l : List S54) : ∃ k, HScript.boscageref42_Encode.f k l = some (encode l) := by
  unfold encode
  by_cases h : (l.length : Int) > 5000
  · exact ⟨0, by unfold HScript.boscageref42_Encode.f; rw [if_pos h, if_pos h]⟩
  · refine ⟨0 + l.length + 6, ?_⟩
    unfold HScript.boscageref42_Encode.f
    rw [if_neg h, if_neg h]
    have := rEncode_l l (by omega) l.length 0 [] 0 (by omega) (by simp)
    simpa using this
end Go.Proofs.YtfpjfndelkgciaaDoor.Sc
