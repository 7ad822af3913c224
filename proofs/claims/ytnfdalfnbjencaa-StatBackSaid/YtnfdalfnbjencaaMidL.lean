/- The plain law of the one in the middle. -/
import Derived.Test.YtnfdalfnbjencaaMidW2
namespace Go.Proofs.Ytnfdalfnbjencaa.Fw
open Go.RowKit Go.Proofs.Ytnfdalfnbjencaa.Fl
set_option linter.unusedVariables false
set_option linter.unusedSimpArgs false

theorem nless_rank (ys : List Nat) (x : Nat) (hy : ∀ y ∈ ys, y < full) (hx : x < full) : nless ys x = ys.countP fun y => decide (rank y < rank x) := by
  unfold nless
  exact List.countP_congr fun y h => by rw [less_rank y x (hy y h) hx]
theorem nboth_rank (ys : List Nat) (x : Nat) (hy : ∀ y ∈ ys, y < full) (hx : x < full) : nless ys x + nsame ys x = ys.countP fun y => decide (rank y ≤ rank x) := by
  unfold nless nsame
  induction ys with
  | nil => rfl
  | cons y ys ih =>
    have h1 := ih (fun z hz => hy z (List.mem_cons_of_mem _ hz))
    have hyy := hy y (List.mem_cons_self ..)
    rw [List.countP_cons, List.countP_cons, List.countP_cons, ← h1, less_rank y x hyy hx, same_rank y x hyy hx]
    by_cases a : rank y < rank x
    · have : rank y ≤ rank x := by omega
      simp [a, this]; omega
    · by_cases b : rank y = rank x
      · simp [a, b]; omega
      · have : ¬ rank y ≤ rank x := by omega
        simp [a, b, this]

theorem countP_le_idx (L : List Nat) (p : Nat → Bool) (k : Nat) (h : ∀ j (hj : j < L.length), k ≤ j → p L[j] = false) : L.countP p ≤ k := by
  rw [← List.take_append_drop k L, List.countP_append]
  have h1 : (L.take k).countP p ≤ k := Nat.le_trans List.countP_le_length (by rw [List.length_take]; omega)
  have h2 : (L.drop k).countP p = 0 := by
    rw [List.countP_eq_zero]
    intro a ha
    obtain ⟨i, hi, rfl⟩ := List.getElem_of_mem ha
    rw [List.getElem_drop, h _ _ (by omega)]
    decide
  omega
theorem countP_ge_idx (L : List Nat) (p : Nat → Bool) (k : Nat) (hk : k < L.length) (h : ∀ j (hj : j < L.length), j ≤ k → p L[j] = true) : k < L.countP p := by
  rw [← List.take_append_drop (k + 1) L, List.countP_append]
  have h1 : (L.take (k + 1)).countP p = (L.take (k + 1)).length := by
    rw [List.countP_eq_length]
    intro a ha
    obtain ⟨i, hi, rfl⟩ := List.getElem_of_mem ha
    rw [List.length_take] at hi
    rw [List.getElem_take]
    exact h _ _ (by omega)
  rw [h1, List.length_take]
  omega

theorem mid_sorted (ys L : List Nat) (hp : L.Perm ys) (hy : ∀ y ∈ ys, y < full) (hs : ∀ i j (hi : i < L.length) (hj : j < L.length), i < j → rank L[i] ≤ rank L[j]) (k : Nat) (hk : k < L.length) (he : k = (ys.length - 1) / 2) : mid ys L[k] = true := by
  have hx : L[k] < full := hy _ (hp.subset (List.getElem_mem hk))
  unfold mid
  rw [nboth_rank ys _ hy hx, nless_rank ys _ hy hx, ← he, ← hp.countP_eq, ← hp.countP_eq]
  have h1 : L.countP (fun y => decide (rank y < rank L[k])) ≤ k := countP_le_idx L _ k fun j hj hkj => by
    rcases Nat.eq_or_lt_of_le hkj with rfl | h
    · simp
    · have := hs k j hk hj h
      exact decide_eq_false (by omega)
  have h2 : k < L.countP (fun y => decide (rank y ≤ rank L[k])) := countP_ge_idx L _ k hk fun j hj hjk => by
    rcases Nat.eq_or_lt_of_le hjk with rfl | h
    · simp
    · exact decide_eq_true (hs j k hj hk h)
  rw [decide_eq_true h1, decide_eq_true h2]; rfl

theorem mid_same (ys : List Nat) (hy : ∀ y ∈ ys, y < full) (x y : Nat) (hx : x ∈ ys) (hyy : y ∈ ys) (mx : mid ys x = true) (my : mid ys y = true) : same x y = true := by
  have fx := hy x hx
  have fy := hy y hyy
  rw [same_rank x y fx fy]
  unfold mid at mx my
  rw [nboth_rank ys _ hy fx, nless_rank ys _ hy fx] at mx
  rw [nboth_rank ys _ hy fy, nless_rank ys _ hy fy] at my
  simp only [Bool.and_eq_true, decide_eq_true_eq] at mx my ⊢
  rcases Nat.lt_trichotomy (rank x) (rank y) with h | h | h
  · exfalso
    have : ys.countP (fun z => decide (rank z ≤ rank x)) ≤ ys.countP (fun z => decide (rank z < rank y)) := List.countP_mono_left fun z _ hz => by
      simp only [decide_eq_true_eq] at hz ⊢; omega
    omega
  · exact h
  · exfalso
    have : ys.countP (fun z => decide (rank z ≤ rank y)) ≤ ys.countP (fun z => decide (rank z < rank x)) := List.countP_mono_left fun z _ hz => by
      simp only [decide_eq_true_eq] at hz ⊢; omega
    omega

/-- What Middle of floats may be. -/
def MidIs (ys : List Nat) (m : Nat) : Prop := m < full ∧ (ys = [] ∧ m = nanBits ∨ m ∈ ys ∧ mid ys m = true)
theorem mid_true (ys : List Nat) (hy : ∀ y ∈ ys, y < full) (m r : Nat) (hm : MidIs ys m) (hr : r < full) (h : (r ∈ ys ∧ mid ys r = true) ∨ (r = nanBits ∧ ∀ x ∈ ys, mid ys x = false)) : same m r = true := by
  obtain ⟨mf, hm⟩ := hm
  rcases hm with ⟨rfl, rfl⟩ | ⟨hm, hmm⟩
  · rcases h with ⟨h, _⟩ | ⟨rfl, _⟩
    · cases h
    · exact same_refl _ mf
  · rcases h with ⟨h, hr⟩ | ⟨_, h⟩
    · exact mid_same ys hy m r hm h hmm hr
    · rw [h m hm] at hmm; cases hmm

end Go.Proofs.Ytnfdalfnbjencaa.Fw
