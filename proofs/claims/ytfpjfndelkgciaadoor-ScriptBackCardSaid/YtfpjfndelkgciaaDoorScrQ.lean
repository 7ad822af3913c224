/- The plain law of script: Decode undoes Encode; what is read has no error. -/
import Derived.Test.YtfpjfndelkgciaaDoorScrP
import Derived.Test.YtfpjfndelkgciaaDoorHScriptx6
namespace Go.Proofs.YtfpjfndelkgciaaDoor.Sc
open Go.RowKit Go.Proofs.YtfpjfndelkgciaaDoorW.PrintWords Go.Proofs.YtfpjfndelkgciaaDoorW.PrintLast Go.Proofs.YtfpjfndelkgciaaDoorW.PrintMore
open HScript (S25 S54 k25 k54 z25 z54)
open Fw (usesB Used)
set_option linter.unusedVariables false
set_option linter.unusedSimpArgs false

theorem str_bytes (s : ByteArray) : strOfNums (bytesOf s) = s := by
  cases s with
  | mk d =>
    unfold strOfNums bytesOf
    congr 1
    apply Array.toList_inj.1
    simp only [List.map_map]
    rw [show ((fun n : Int => UInt8.ofNat n.toNat) ∘ fun b : UInt8 => ((b.toNat : Nat) : Int)) = id from funext fun b => by simp]
    simp
theorem size_str (l : List Int) : (strOfNums l).size = l.length := by
  unfold strOfNums
  simp [ByteArray.size]
theorem empty_of {s : ByteArray} (h : ((⟨#[]⟩ : ByteArray).toList == s.toList) = true) : s = ⟨#[]⟩ := by
  have h2 := eq_of_beq h
  rw [ByteArray.toList_eq, ByteArray.toList_eq] at h2
  cases s with
  | mk d =>
    congr 1
    apply Array.toList_inj.1
    simpa using h2.symm
theorem Rg.app {a b : List Int} (h : Rg a) (h' : Rg b) : Rg (a ++ b) := fun x hx => by
  rcases List.mem_append.1 hx with h1 | h1
  · exact h x h1
  · exact h' x h1
theorem rg_bytes (s : ByteArray) : Rg (bytesOf s) := fun x hx => by
  obtain ⟨b, _, rfl⟩ := List.mem_map.1 hx
  have := b.toNat_lt
  omega
theorem rg_one (x : Int) : Rg [x % 256] := fun y hy => by
  rw [List.mem_singleton] at hy
  omega
theorem rg_tb (b : Bool) (s : ByteArray) : Rg (tb b s) := by
  cases b with
  | true => exact (rg_one _).app (rg_bytes s)
  | false => intro x hx; simp [tb] at hx
theorem rg_hb (b : Bool) (H : Int) : Rg (hb b H) := by
  cases b with
  | true => exact rg_one _
  | false => intro x hx; simp [hb] at hx
theorem rg_enc (T op : Int) (K V O : ByteArray) (H : Int) : Rg (encE T op K V O H) :=
  ((((show Rg [T % 256, op % 256] from (rg_one T).app (rg_one op)).app (rg_tb _ _)).app (rg_tb _ _)).app (rg_tb _ _)).app (rg_hb _ _)
theorem rg_go : ∀ (l : List S54) (xs : List Int), Rg xs → Rg (encGo xs l).1
  | [], xs, h => h
  | e :: l, xs, h => by
    unfold encGo
    split
    · exact rg_go l _ (h.app (rg_enc _ _ _ _ _ _))
    · intro x hx; simp at hx
theorem rg_encode (l : List S54) : Rg (encode l).1 := by
  unfold encode
  split
  · intro x hx; simp at hx
  · exact rg_go l [] (fun x hx => by simp at hx)
def flat (l : List S54) : List Int := l.flatMap encS
theorem go_ok : ∀ (l : List S54) (xs : List Int), (∀ e ∈ l, errS e = 0) → encGo xs l = (xs ++ flat l, 0)
  | [], xs, _ => by simp [encGo, flat]
  | e :: l, xs, h => by
    unfold encGo
    rw [if_pos (h e List.mem_cons_self), go_ok l _ fun x hx => h x (List.mem_cons_of_mem _ hx)]
    simp [flat]
theorem go_zero : ∀ (l : List S54) (xs : List Int), (encGo xs l).2 = 0 → ∀ e ∈ l, errS e = 0
  | [], xs, _ => fun e he => by simp at he
  | e :: l, xs, h => by
    unfold encGo at h
    by_cases h0 : errS e = 0
    · rw [if_pos h0] at h
      intro x hx
      rcases List.mem_cons.1 hx with rfl | hx
      · exact h0
      · exact go_zero l _ h x hx
    · rw [if_neg h0] at h
      exact absurd h h0
theorem go_len : ∀ (l : List S54) (xs : List Int), (encGo xs l).1.length ≤ xs.length + 60 * l.length
  | [], xs => by simp [encGo]
  | e :: l, xs => by
    unfold encGo
    by_cases h0 : errS e = 0
    · rw [if_pos h0]
      have hs := err_small (show errE e.f0 e.f1.f0 e.f1.f1 e.f1.f2 e.f1.f3 e.f1.f4 = 0 from h0)
      have hlen : (encS e).length ≤ 60 := enc_len (T := e.f0) (op := e.f1.f0) (H := e.f1.f4) hs.2.2.2.1 hs.2.2.2.2.1 hs.2.2.2.2.2.1
      have := go_len l (xs ++ encS e)
      rw [List.length_append] at this
      rw [List.length_cons]
      omega
    · rw [if_neg h0]
      simp
theorem encode_len (l : List S54) : (encode l).1.length ≤ 1000000 := by
  unfold encode
  split
  · simp
  · have := go_len l []
    simp at this
    omega
theorem encode_zero {l : List S54} (h : (encode l).2 = 0) : l.length ≤ 5000 ∧ (∀ e ∈ l, errS e = 0) ∧ (encode l).1 = flat l := by
  unfold encode at h ⊢
  by_cases h5 : (l.length : Int) > 5000
  · rw [if_pos h5] at h
    simp at h
  · rw [if_neg h5] at h ⊢
    have hz := go_zero l [] h
    refine ⟨by omega, hz, ?_⟩
    rw [go_ok l [] hz]
    simp
theorem encode_ok {l : List S54} (h5 : l.length ≤ 5000) (hz : ∀ e ∈ l, errS e = 0) : encode l = (flat l, 0) := by
  unfold encode
  rw [if_neg (by omega), go_ok l [] hz]
  simp

theorem tx_back (b : Bool) (s : ByteArray) (r : List Int) (hs : s.size ≤ 16) (he : b = false → s = ⟨#[]⟩) : tx b (tb b s ++ r) = (s, r) := by
  cases b with
  | false => rw [he rfl]; simp [tx, tb]
  | true =>
    have h1 : (s.size : Int) % 256 = (s.size : Int) := by omega
    have h2 : (s.size : Int) % 17 = (s.size : Int) := by omega
    have hl : (bytesOf s).length = s.size := bytesOf_length s
    show (strOfNums (((((s.size : Int) % 256) :: (bytesOf s ++ r)).drop 1).take (((s.size : Int) % 256) % 17).toNat), ((((s.size : Int) % 256) :: (bytesOf s ++ r)).drop 1).drop (((s.size : Int) % 256) % 17).toNat) = (s, r)
    rw [h1, h2, Int.toNat_natCast, List.drop_succ_cons, List.drop_zero, ← hl, List.take_left, List.drop_left, str_bytes]
theorem nx_back (b : Bool) (H : Int) (r : List Int) (hH : 0 ≤ H ∧ H ≤ 255) (he : b = false → H = 0) : nx b (hb b H ++ r) = (H, r) := by
  cases b with
  | false => rw [he rfl]; rfl
  | true =>
    have h1 : H % 256 = H := by omega
    show (H % 256, r) = (H, r)
    rw [h1]
theorem neq_parts {op : Int} {K V O : ByteArray} {H : Int} (h : neqB op K V O H = false) : (usesB op 0 = false → K = ⟨#[]⟩) ∧ (usesB op 1 = false → V = ⟨#[]⟩) ∧ (usesB op 2 = false → O = ⟨#[]⟩) ∧ (usesB op 3 = false → H = 0) := by
  unfold neqB at h
  simp only [Bool.or_eq_false_iff, Bool.not_eq_false'] at h
  obtain ⟨_, h0, h1, h2, h3⟩ := h
  refine ⟨fun e => ?_, fun e => ?_, fun e => ?_, fun e => ?_⟩
  · rw [e] at h0; exact empty_of h0
  · rw [e] at h1; exact empty_of h1
  · rw [e] at h2; exact empty_of h2
  · rw [e] at h3; exact (eq_of_beq h3).symm
theorem dec_enc (e : S54) (h : errS e = 0) (r : List Int) : decE (encS e ++ r) = (e, r) := by
  obtain ⟨T, ⟨op, K, V, O, H⟩⟩ := e
  have hs := err_small (show errE T op K V O H = 0 from h)
  obtain ⟨hT, hop, hH, hK, hV, hO, hn⟩ := hs
  obtain ⟨n0, n1, n2, n3⟩ := neq_parts hn
  have eT : T % 256 = T := by omega
  have eO : op % 256 = op := by omega
  have e1 : encS ⟨T, ⟨op, K, V, O, H⟩⟩ ++ r = T :: op :: (tb (usesB op 0) K ++ (tb (usesB op 1) V ++ (tb (usesB op 2) O ++ (hb (usesB op 3) H ++ r)))) := by
    show encE T op K V O H ++ r = _
    unfold encE
    rw [eT, eO]
    simp
  rw [e1]
  unfold decE
  simp only [List.drop_succ_cons, List.drop_zero, show ∀ (x : Int) (l : List Int), hd (x :: l) = x from fun _ _ => rfl]
  rw [tx_back _ K _ hK n0, tx_back _ V _ hV n1, tx_back _ O _ hO n2, nx_back _ H _ hH n3]
theorem enc_ne (e : S54) (r : List Int) : encS e ++ r ≠ [] := by
  unfold encS encE
  simp
theorem decL_flat : ∀ (l : List S54) (n : Nat), l.length ≤ n → (∀ e ∈ l, errS e = 0) → decL n (flat l) = l
  | [], n, _, _ => by cases n <;> simp [decL, flat]
  | e :: l, 0, h, _ => by simp at h
  | e :: l, n + 1, h, hz => by
    have ef : flat (e :: l) = encS e ++ flat l := by simp [flat]
    rw [ef, decL, if_neg (enc_ne e _), dec_enc e (hz e List.mem_cons_self), decL_flat l n (by simpa using h) fun x hx => hz x (List.mem_cons_of_mem _ hx)]
/-- Decode undoes Encode. -/
theorem decode_encode {l : List S54} (h : (encode l).2 = 0) : decode (encode l).1 = l := by
  obtain ⟨h1, h2, h3⟩ := encode_zero h
  rw [h3]
  exact decL_flat l 5000 h1 h2

theorem tx_ok (b : Bool) (r : List Int) (h : Rg r) : (tx b r).1.size ≤ 16 ∧ (b = false → (tx b r).1 = ⟨#[]⟩) := by
  cases b with
  | false => exact ⟨by simp [tx, ByteArray.size], fun _ => rfl⟩
  | true =>
    refine ⟨?_, fun h => by cases h⟩
    show (strOfNums _).size ≤ 16
    rw [size_str, List.length_take]
    have := h.hd
    omega
theorem neq_ok {op : Int} {K V O : ByteArray} {H : Int} (h0 : usesB op 0 = false → K = ⟨#[]⟩) (h1 : usesB op 1 = false → V = ⟨#[]⟩) (h2 : usesB op 2 = false → O = ⟨#[]⟩) (h3 : usesB op 3 = false → H = 0) : neqB op K V O H = false := by
  have key : ∀ (b : Bool) (s : ByteArray), (b = false → s = ⟨#[]⟩) → ((if b = true then s else ⟨#[]⟩ : ByteArray).toList == s.toList) = true := by
    intro b s hs
    cases b
    · rw [hs rfl]; simp
    · simp
  unfold neqB
  rw [key _ K h0, key _ V h1, key _ O h2]
  have : ((if usesB op 3 = true then H else 0) == H) = true := by
    cases hb3 : usesB op 3
    · rw [h3 hb3]; simp
    · simp
  rw [this]
  simp
/-- What is read has no error. -/
theorem err_dec (r : List Int) (h : Rg r) : errS (decE r).1 = 0 := by
  have hT := h.hd
  have hop := (h.drop 1).hd
  have g2 := (h.drop 1).drop 1
  obtain ⟨op, hopd⟩ : ∃ op, op = hd (r.drop 1) := ⟨_, rfl⟩
  have k := tx_ok (usesB op 0) _ g2
  have g3 := g2.tx (usesB op 0)
  have v := tx_ok (usesB op 1) _ g3
  have g4 := g3.tx (usesB op 1)
  have o := tx_ok (usesB op 2) _ g4
  have g5 := g4.tx (usesB op 2)
  have hh : (0 ≤ (nx (usesB op 3) (tx (usesB op 2) (tx (usesB op 1) (tx (usesB op 0) ((r.drop 1).drop 1)).2).2).2).1 ∧ (nx (usesB op 3) (tx (usesB op 2) (tx (usesB op 1) (tx (usesB op 0) ((r.drop 1).drop 1)).2).2).2).1 ≤ 255) ∧ (usesB op 3 = false → (nx (usesB op 3) (tx (usesB op 2) (tx (usesB op 1) (tx (usesB op 0) ((r.drop 1).drop 1)).2).2).2).1 = 0) := by
    cases usesB op 3 with
    | false => exact ⟨⟨show (0 : Int) ≤ 0 by decide, show (0 : Int) ≤ 255 by decide⟩, fun _ => rfl⟩
    | true => exact ⟨g5.hd, fun h => by cases h⟩
  rw [← hopd] at hop
  show errE (hd r) (hd (r.drop 1)) (tx (usesB (hd (r.drop 1)) 0) ((r.drop 1).drop 1)).1 (tx (usesB (hd (r.drop 1)) 1) (tx (usesB (hd (r.drop 1)) 0) ((r.drop 1).drop 1)).2).1 (tx (usesB (hd (r.drop 1)) 2) (tx (usesB (hd (r.drop 1)) 1) (tx (usesB (hd (r.drop 1)) 0) ((r.drop 1).drop 1)).2).2).1 (nx (usesB (hd (r.drop 1)) 3) (tx (usesB (hd (r.drop 1)) 2) (tx (usesB (hd (r.drop 1)) 1) (tx (usesB (hd (r.drop 1)) 0) ((r.drop 1).drop 1)).2).2).2).1 = 0
  rw [← hopd]
  unfold errE
  rw [if_neg (by omega), if_neg (by omega), neq_ok k.2 v.2 o.2 hh.2]
  rfl
theorem decL_ok : ∀ (n : Nat) (r : List Int), Rg r → (decL n r).length ≤ n ∧ ∀ e ∈ decL n r, errS e = 0
  | 0, r, _ => ⟨by simp [decL], fun e he => by simp [decL] at he⟩
  | n + 1, r, h => by
    rw [decL]
    by_cases h0 : r = []
    · rw [if_pos h0]
      exact ⟨by simp, fun e he => by simp at he⟩
    · rw [if_neg h0]
      obtain ⟨h1, h2⟩ := decL_ok n (decE r).2 h.decE
      refine ⟨by simpa using h1, fun e he => ?_⟩
      rcases List.mem_cons.1 he with rfl | he
      · exact err_dec r h
      · exact h2 e he
/-- Whatever bytes are read: Encode has no error, and is read as that again. -/
theorem back (b : List Int) (h : Rg b) : (encode (decode b)).2 = 0 ∧ (decode b).length ≤ 5000 := by
  obtain ⟨h1, h2⟩ := decL_ok 5000 b h
  exact ⟨by rw [show decode b = decL 5000 b from rfl, encode_ok h1 h2], h1⟩

/-- Do two entries differ? -/
def nqB (x y : S54) : Bool := (!(x.f0 == y.f0) || ((!(x.f1.f0 == y.f1.f0) || (!(x.f1.f1.toList == y.f1.f1.toList) || (!(x.f1.f2.toList == y.f1.f2.toList) || (!(x.f1.f3.toList == y.f1.f3.toList) || (!(x.f1.f4 == y.f1.f4))))))))
/-- Are two scripts the same? -/
def sameL (l m : List S54) : Bool := (l.zip m).all fun p => !nqB p.1 p.2
def same (l m : List S54) : Bool := if (l.length : Int) = (m.length : Int) then sameL l m else false
theorem nqB_refl (x : S54) : nqB x x = false := by simp [nqB]
theorem same_refl (l : List S54) : same l l = true := by
  unfold same
  rw [if_pos rfl]
  unfold sameL
  induction l with
  | nil => rfl
  | cons x l ih => simp only [List.zip_cons_cons, List.all_cons, nqB_refl, ih, Bool.not_false, Bool.and_true]
theorem rd54 (l : List S54) (i : Nat) : HScript.rd_T54 l (i : Int) = l.getD i z54 := rfl
theorem drop54 (l : List S54) (i : Nat) (h : i < l.length) : l.drop i = l.getD i z54 :: l.drop (i + 1) := by
  rw [List.drop_eq_getElem_cons h]
  simp [h]
theorem w_succ (i : Nat) (h : i < 4611686018427387904) : wrap64 ((i : Int) + 1) = ((i + 1 : Nat) : Int) := by unfold wrap64; omega
theorem rstep (q : Nat) (l m : List S54) (i : Int) : HScript.boscageref42_Same.l0 (q + 1) l m i = if i < (l.length : Int) then (if 0 ≤ i then (if i < (m.length : Int) then (if nqB (HScript.rd_T54 l i) (HScript.rd_T54 m i) = true then some false else HScript.boscageref42_Same.l0 q l m (wrap64 (i + 1))) else none) else none) else some true := rfl
theorem estep (q : Nat) (l m : List S54) (n i : Int) : HScript.api_Entry.l0 (q + 1) l m n i = if i < n then (if 0 ≤ i then (if i < (l.length : Int) then (if i < (m.length : Int) then (if nqB (HScript.rd_T54 l i) (HScript.rd_T54 m i) = true then some false else HScript.api_Entry.l0 q l m n (wrap64 (i + 1))) else none) else none) else none) else some true := rfl
theorem rsame_l (l m : List S54) (he : l.length = m.length) (hl : l.length ≤ 100000) : ∀ (n i k : Nat), i + n = l.length → HScript.boscageref42_Same.l0 (k + n + 1) l m (i : Int) = some (sameL (l.drop i) (m.drop i))
  | 0, i, k, hi => by
    rw [rstep, if_neg (by omega), List.drop_eq_nil_of_le (by omega)]
    rfl
  | n + 1, i, k, hi => by
    obtain ⟨q, hq⟩ : ∃ q, q = k + n + 1 := ⟨_, rfl⟩
    rw [show k + (n + 1) + 1 = q + 1 by omega]
    rw [rstep, rd54, rd54, drop54 l i (by omega), drop54 m i (by omega), if_pos (by omega), if_pos (by omega), if_pos (by omega)]
    unfold sameL
    rw [List.zip_cons_cons, List.all_cons]
    cases hb : nqB (l.getD i z54) (m.getD i z54) with
    | true =>
      rw [if_pos rfl]
      rfl
    | false =>
      rw [if_neg (by decide), w_succ i (by omega), hq, rsame_l l m he hl n (i + 1) k (by omega)]
      rfl
theorem rsame_f (l m : List S54) (hl : l.length ≤ 100000) : ∃ k, HScript.boscageref42_Same.f k l m = some (same l m) := by
  unfold same
  by_cases h : (l.length : Int) = (m.length : Int)
  · refine ⟨0 + l.length + 1, ?_⟩
    unfold HScript.boscageref42_Same.f
    rw [if_pos h, if_pos h]
    exact rsame_l l m (by omega) hl l.length 0 0 (by omega)
  · exact ⟨0, by unfold HScript.boscageref42_Same.f; rw [if_neg h, if_neg h]⟩
theorem esame_l (l m : List S54) (he : l.length = m.length) (hl : l.length ≤ 100000) : ∀ (n i k : Nat), i + n = l.length → HScript.api_Entry.l0 (k + n + 1) l m (l.length : Int) (i : Int) = some (sameL (l.drop i) (m.drop i))
  | 0, i, k, hi => by
    rw [estep, if_neg (by omega), List.drop_eq_nil_of_le (by omega)]
    rfl
  | n + 1, i, k, hi => by
    obtain ⟨q, hq⟩ : ∃ q, q = k + n + 1 := ⟨_, rfl⟩
    rw [show k + (n + 1) + 1 = q + 1 by omega]
    rw [estep, rd54, rd54, drop54 l i (by omega), drop54 m i (by omega), if_pos (by omega), if_pos (by omega), if_pos (by omega), if_pos (by omega)]
    unfold sameL
    rw [List.zip_cons_cons, List.all_cons]
    cases hb : nqB (l.getD i z54) (m.getD i z54) with
    | true =>
      rw [if_pos rfl]
      rfl
    | false =>
      rw [if_neg (by decide), w_succ i (by omega), hq, esame_l l m he hl n (i + 1) k (by omega)]
      rfl
theorem psame_f (l m : List S54) (hl : l.length ≤ 100000) : ∃ k, HScript.script_Same.f k l m = some (same l m) := by
  unfold same
  by_cases h : (l.length : Int) = (m.length : Int)
  · refine ⟨0 + l.length + 1, ?_⟩
    unfold HScript.script_Same.f HScript.api_Entry.f
    have h3 : HScript.api_Entry.l0 (0 + l.length + 1) l m (l.length : Int) 0 = some (sameL l m) := esame_l l m (by omega) hl l.length 0 0 (by omega)
    rw [if_pos h, if_pos h, h3]
    rfl
  · exact ⟨0, by unfold HScript.script_Same.f HScript.api_Entry.f; rw [if_neg h, if_neg h]; rfl⟩
end Go.Proofs.YtfpjfndelkgciaaDoor.Sc
