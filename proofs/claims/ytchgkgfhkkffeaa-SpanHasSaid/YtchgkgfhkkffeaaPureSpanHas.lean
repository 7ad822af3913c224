/- SpanHas: for every span, version and versions the law boscagelaw15.SpanHas returns true. -/
import Derived.Test.YtchgkgfhkkffeaaHSpanHasx1
namespace Go.Proofs.Ytchgkgfhkkffeaa.Pure
open Go.RowKit Go.Proofs.Ytchgkgfhkkffeaa.HSpanHas Go.Proofs.YtchgkgfhkkffeaaW.PrintWords Go.Proofs.YtchgkgfhkkffeaaW.PrintLast Go.Proofs.YtchgkgfhkkffeaaW.PrintMore

theorem some_ref (a b : Int) (l : List Int) : ∀ (k : Nat) (i : Int), span_Some.l0 k a b l i = boscageref15_Some.l0 k a b l i
  | 0, _ => rfl
  | k + 1, i => by simp only [span_Some.l0, boscageref15_Some.l0, some_ref a b l k]

theorem has_ref (a b v : Int) : boscageref15_Has.f a b v = span_Has.f a b v := by
  unfold boscageref15_Has.f span_Has.f
  by_cases h : v < a
  · rw [if_pos h, if_neg (by omega)]
  · rw [if_neg h, if_pos (by omega)]

theorem some_ends (a b : Int) (l : List Int) (hl : l.length ≤ 100) (d : Nat) : ∀ (k : Nat) (i : Int), 0 ≤ i → i ≤ l.length → (l.length : Int) - i = d → d < k → ∃ x y, boscageref15_Some.l0 k a b l i = some (x, y) := by
  induction d with
  | zero =>
    intro k i h0 h1 hd hk
    obtain ⟨k, rfl⟩ : ∃ m, k = m + 1 := ⟨k - 1, by omega⟩
    exact ⟨0, false, by simp only [boscageref15_Some.l0]; rw [if_neg (by omega)]⟩
  | succ d ih =>
    intro k i h0 h1 hd hk
    obtain ⟨k, rfl⟩ : ∃ m, k = m + 1 := ⟨k - 1, by omega⟩
    have hw : wrap64 (i + 1) = i + 1 := by unfold wrap64; omega
    obtain ⟨x, y, h⟩ := ih k (i + 1) (by omega) (by omega) (by omega) (by omega)
    have hb : ∃ t, boscageref15_Has.f a b (rd l i) = some t := by unfold boscageref15_Has.f; split <;> exact ⟨_, rfl⟩
    obtain ⟨t, hb⟩ := hb
    cases t with
    | true => exact ⟨_, _, by simp only [boscageref15_Some.l0]; rw [if_pos (by omega), if_pos h0, hb]; simp; exact ⟨rfl, rfl⟩⟩
    | false => exact ⟨x, y, by simp only [boscageref15_Some.l0]; rw [if_pos (by omega), if_pos h0, hb, hw]; simpa using h⟩

theorem ints (l : List Int) (h : l.length ≤ 100) : boscagebase_Ints.f l = some l := by
  unfold boscagebase_Ints.f
  simp only [Option.bind_some, List.length_nil, List.nil_append]
  rw [if_pos (by omega)]

theorem SpanHas : boscagelaw15_SpanHas.Pure := by
  intro a b v l _ _ _ _ _ _
  have hw : boscagelaw15_works.f = some true := by decide +kernel
  have hm : 0 ≤ mn (l.length : Int) 100 ∧ mn (l.length : Int) 100 ≤ l.length ∧ mn (l.length : Int) 100 ≤ 100 := by unfold mn; split <;> omega
  have hl : (l.take (mn (l.length : Int) 100).toNat).length ≤ 100 := by rw [List.length_take]; omega
  refine ⟨101, ?_⟩
  unfold boscagelaw15_SpanHas.f
  rw [if_pos hm.1, if_pos hm.2.1]
  generalize l.take (mn (l.length : Int) 100).toNat = m at hl
  obtain ⟨x, y, hs⟩ := some_ends a b m hl m.length 101 0 (by omega) (by omega) (by omega) (by omega)
  have h1 : boscageref15_Some.f 101 a b m = some (x, y) := hs
  have h2 : span_Some.f 101 a b m = some (x, y) := (some_ref a b m 101 0).trans hs
  have hb : ∃ t, span_Has.f a b v = some t := by unfold span_Has.f; split <;> exact ⟨_, rfl⟩
  obtain ⟨t, hb⟩ := hb
  rw [ints m hl]
  simp only [Option.bind_some]
  rw [ints m hl]
  simp only [Option.bind_some]
  rw [h1, h2, has_ref, hb, hw]
  simp

end Go.Proofs.Ytchgkgfhkkffeaa.Pure
