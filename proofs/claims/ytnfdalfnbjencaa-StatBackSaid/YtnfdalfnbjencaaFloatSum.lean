/- Sums, means and bests of floats in plain words; and what the model's float operations give where the language leaves a NaN's bits open. -/
import Derived.Test.YtnfdalfnbjencaaFloatLaw
import Derived.Laws.FloatArith
import Derived.Laws.NewFold
import Derived.WalkKit
import Derived.Deep.Draws
namespace Go.Proofs.Ytnfdalfnbjencaa.Fl
open Ieee Go.RowKit

/-- What a float stands for beside its bits: 'none': some NaN. -/
def Rep (s : Nat) (o : Option Nat) : Prop := s < full ∧ match o with | none => isNaN s = true | some b => s = b

theorem nan_same (a b : Nat) (ha : a < full) (hb : b < full) (na : isNaN a = true) (nb : isNaN b = true) : same a b = true := by
  rw [same_rank a b ha hb]
  simp [rank, na, nb]
theorem rep_same {a b : Nat} {o : Option Nat} (ha : Rep a o) (hb : Rep b o) : same a b = true := by
  obtain ⟨h1, h2⟩ := ha
  obtain ⟨h3, h4⟩ := hb
  cases o with
  | none => exact nan_same a b h1 h3 h2 h4
  | some c =>
    have e1 : a = c := h2
    have e2 : b = c := h4
    subst e1 e2
    exact same_refl _ h1

def addO (o : Option Nat) (x : Nat) : Option Nat := o.bind fun s => double.add s x
def sumO : List Nat → Option Nat
  | [] => some 0
  | x :: r => r.foldl addO (if isNaN x then none else some x)
theorem sumO_one (x : Nat) : sumO [x] = if isNaN x then none else some x := rfl
theorem sumO_snoc (l : List Nat) (x : Nat) (h : l ≠ []) : sumO (l ++ [x]) = addO (sumO l) x := by
  cases l with
  | nil => exact absurd rfl h
  | cons y r => simp [sumO, List.foldl_append]
theorem rep_one (x : Nat) (hx : x < full) : Rep x (sumO [x]) := by
  rw [sumO_one]
  by_cases h : isNaN x = true
  · rw [if_pos h]; exact ⟨hx, h⟩
  · rw [if_neg h]; exact ⟨hx, rfl⟩

theorem add_none (s x : Nat) (h : isNaN s = true) : double.add s x = none := by
  obtain ⟨a, t, e⟩ := read_nan s (by simpa [isNaN] using h)
  unfold Format.add
  rw [e]; rfl
theorem div_none (s x : Nat) (h : isNaN s = true) : double.div s x = none := by
  obtain ⟨a, t, e⟩ := read_nan s (by simpa [isNaN] using h)
  unfold Format.div
  rw [e]; rfl
theorem sub_none (s x : Nat) (h : isNaN s = true ∨ isNaN x = true) : double.sub s x = none := by
  unfold Format.sub
  rcases h with h | h
  · obtain ⟨a, t, e⟩ := read_nan s (by simpa [isNaN] using h)
    rw [e]; rfl
  · obtain ⟨a, t, e⟩ := read_nan x (by simpa [isNaN] using h)
    rw [e]
    cases double.read s <;> rfl
theorem dbl_lt {x : Nat} (h : x < 2 ^ double.width) : x < full := h

/-- The bits that the model draws for a NaN: a NaN's. -/
theorem cut_nan (x y t : Nat) : isNaN ((Question.nanBits FloatKind.f64 x y).cut t) = true ∧ (Question.nanBits FloatKind.f64 x y).cut t < full := by
  have h : (Question.nanBits FloatKind.f64 x y).cut t = (t % 2) * 2 ^ 63 + 0x7ff0000000000000 + 1 + (t / 2) % (2 ^ 52 - 1) := rfl
  rw [h]
  unfold isNaN top big full
  rw [decide_eq_true_eq]
  have hq : (t / 2) % (2 ^ 52 - 1) < 2 ^ 52 - 1 := Nat.mod_lt _ (by decide)
  generalize (t / 2) % (2 ^ 52 - 1) = q at *
  rcases Nat.mod_two_eq_zero_or_one t with e | e <;> rw [e] <;> omega

theorem add_run (P : Program) (t : TypeId) (a b : Nat) (o : Option Nat) (ha : Rep a o) (w : World) :
    ∃ r n, Rep r (addO o b) ∧ (binOp .add t (.float .f64 a) (.float .f64 b)).run P w = .ok (.float .f64 r) (w.drewN n) := by
  have key : ∀ o' : Option Nat, double.add a b = o' → ∃ r n, Rep r o' ∧ (binOp .add t (.float .f64 a) (.float .f64 b)).run P w = .ok (.float .f64 r) (w.drewN n) := by
    intro o' ho
    cases o' with
    | some r =>
      refine ⟨r, 0, ⟨?_, rfl⟩, run_float_arith w .add t .f64 a b r ho⟩
      exact dbl_lt (double.add_lt ho)
    | none =>
      refine ⟨(Question.nanBits FloatKind.f64 a b).cut (w.tape w.drawn (Question.nanBits FloatKind.f64 a b)), 1, ⟨(cut_nan a b _).2, (cut_nan a b _).1⟩, ?_⟩
      have hf : FloatKind.f64.format.add a b = none := ho
      simp [binOp, Op.floatArith, hf, Question.forced]
      rfl
  cases o with
  | none => exact key none (add_none a b ha.2)
  | some c =>
    have e : a = c := ha.2
    subst e
    exact key _ rfl

def divO (o : Option Nat) (x : Nat) : Option Nat := o.bind fun s => double.div s x
theorem div_run (P : Program) (t : TypeId) (a b : Nat) (o : Option Nat) (ha : Rep a o) (w : World) :
    ∃ r n, Rep r (divO o b) ∧ (binOp .quo t (.float .f64 a) (.float .f64 b)).run P w = .ok (.float .f64 r) (w.drewN n) := by
  have key : ∀ o' : Option Nat, double.div a b = o' → ∃ r n, Rep r o' ∧ (binOp .quo t (.float .f64 a) (.float .f64 b)).run P w = .ok (.float .f64 r) (w.drewN n) := by
    intro o' ho
    cases o' with
    | some r =>
      refine ⟨r, 0, ⟨?_, rfl⟩, run_float_arith w .quo t .f64 a b r ho⟩
      exact dbl_lt (double.div_lt ho)
    | none =>
      refine ⟨(Question.nanBits FloatKind.f64 a b).cut (w.tape w.drawn (Question.nanBits FloatKind.f64 a b)), 1, ⟨(cut_nan a b _).2, (cut_nan a b _).1⟩, ?_⟩
      have hf : FloatKind.f64.format.div a b = none := ho
      simp [binOp, Op.floatArith, hf, Question.forced]
      rfl
  cases o with
  | none => exact key none (div_none a b ha.2)
  | some c =>
    have e : a = c := ha.2
    subst e
    exact key _ rfl

def subO (a b : Nat) : Option Nat := double.sub a b
theorem sub_run (P : Program) (t : TypeId) (a b : Nat) (w : World) :
    ∃ r n, Rep r (subO a b) ∧ (binOp .sub t (.float .f64 a) (.float .f64 b)).run P w = .ok (.float .f64 r) (w.drewN n) := by
  unfold subO
  cases ho : double.sub a b with
  | some r =>
    refine ⟨r, 0, ⟨?_, rfl⟩, run_float_arith w .sub t .f64 a b r ho⟩
    exact dbl_lt (double.sub_lt ho)
  | none =>
    refine ⟨(Question.nanBits FloatKind.f64 a b).cut (w.tape w.drawn (Question.nanBits FloatKind.f64 a b)), 1, ⟨(cut_nan a b _).2, (cut_nan a b _).1⟩, ?_⟩
    have hf : FloatKind.f64.format.sub a b = none := ho
    simp [binOp, Op.floatArith, hf, Question.forced]
    rfl

/-- The first of floats, by what is ahead; 'first' if there are none. -/
def best (first : Nat) (ahead : Nat → Nat → Bool) : List Nat → Nat
  | [] => first
  | x :: r => r.foldl (fun o f => if ahead f o then f else o) x
theorem best_one (first : Nat) (ahead : Nat → Nat → Bool) (x : Nat) : best first ahead [x] = x := rfl
theorem best_snoc (first : Nat) (ahead : Nat → Nat → Bool) (l : List Nat) (x : Nat) (h : l ≠ []) : best first ahead (l ++ [x]) = if ahead x (best first ahead l) then x else best first ahead l := by
  cases l with
  | nil => exact absurd rfl h
  | cons y r =>
    show (r ++ [x]).foldl _ y = _
    rw [List.foldl_append]
    rfl
theorem best_lt (first : Nat) (ahead : Nat → Nat → Bool) (hf : first < full) (l : List Nat) (hl : ∀ x ∈ l, x < full) : best first ahead l < full := by
  cases l with
  | nil => exact hf
  | cons y r =>
    have : ∀ (r : List Nat) (o : Nat), o < full → (∀ x ∈ r, x < full) → r.foldl (fun o f => if ahead f o then f else o) o < full := by
      intro r
      induction r with
      | nil => intro o ho _; exact ho
      | cons z r ih =>
        intro o ho h
        simp only [List.foldl_cons]
        refine ih _ ?_ (fun x hx => h x (List.mem_cons_of_mem _ hx))
        split
        · exact h z List.mem_cons_self
        · exact ho
    exact this r y (hl y List.mem_cons_self) (fun x hx => hl x (List.mem_cons_of_mem _ hx))
def infBits : Nat := 9218868437227405312
def ninfBits : Nat := 18442240474082181120
def least (l : List Nat) : Nat := best infBits less l
def most (l : List Nat) : Nat := best ninfBits (fun a b => less b a) l
/-- A mean, beside its bits. -/
def meanO (l : List Nat) : Option Nat := divO (sumO l) (floatOfInt .f64 (l.length : Int))
theorem meanO_nil : meanO [] = none := by decide +kernel

theorem take_snoc (l : List Nat) (k : Nat) (h : k < l.length) : l.take (k + 1) = l.take k ++ [l[k]] := by
  rw [List.take_succ_eq_append_getElem h]
theorem take_ne (l : List Nat) (k : Nat) (h : k ≤ l.length) (h0 : 0 < k) : l.take k ≠ [] := by
  intro e
  have : (l.take k).length = 0 := by rw [e]; rfl
  rw [List.length_take] at this
  omega

end Go.Proofs.Ytnfdalfnbjencaa.Fl
