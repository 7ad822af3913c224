/- SpanMeets: for every four whole numbers the law boscagelaw15.SpanMeets returns true. -/
import Derived.Test.YtchgkgfhkkffeaaPSpanMeetsx1
import Derived.OpenShut
namespace Go.Proofs.Ytchgkgfhkkffeaa.Pure
open Go.RowKit Go.Proofs.Ytchgkgfhkkffeaa.PSpanMeets Go.Proofs.YtchgkgfhkkffeaaW.PrintWords Go.Proofs.YtchgkgfhkkffeaaW.PrintLast Go.Proofs.YtchgkgfhkkffeaaW.PrintMore

theorem meet_ref (k : Nat) (a b c d : Int) : boscageref15_Meet.f (k + 1) a b c d = span_Meet.f a b c d := by
  simp only [boscageref15_Meet.f, boscageref15_Meet.j0, span_Meet.f, mx, mn]
  by_cases h1 : a < c <;> by_cases h2 : d < b <;> simp [h1, h2] <;> (repeat' split) <;> first | rfl | omega

theorem wrap_u64 (n : Int) : IntKind.u64.wrap n = n % 18446744073709551616 := by
  simp [IntKind.wrap, IntKind.bits, IntKind.signed]

theorem len_ref (a b : Int) (ha : -9223372036854775808 ≤ a ∧ a ≤ 9223372036854775807) (hb : -9223372036854775808 ≤ b ∧ b ≤ 9223372036854775807) : boscageref15_Len.f a b = span_Len.f a b := by
  unfold boscageref15_Len.f span_Len.f
  by_cases h : a ≥ b
  · rw [if_pos h, if_pos h]
  · rw [if_neg h, if_neg h]
    have e : IntKind.u64.wrap (IntKind.u64.wrap b - IntKind.u64.wrap a) = b - a := by
      simp only [wrap_u64]; omega
    rw [e]
    by_cases h2 : b - a > 9223372036854775807
    · rw [if_pos h2, if_pos (by unfold wrap64; omega)]
    · rw [if_neg h2, if_neg (by unfold wrap64; omega)]

theorem SpanMeets : boscagelaw15_SpanMeets.Pure := by
  intro a b c d ha hb _ _
  have hw : boscagelaw15_works.f = some true := by decide +kernel
  refine ⟨1, ?_⟩
  unfold boscagelaw15_SpanMeets.f
  rw [meet_ref 0, len_ref a b (bounds_i64 ha) (bounds_i64 hb), hw]
  have h1 : ∃ x, span_Meet.f a b c d = some x := by unfold span_Meet.f; split <;> exact ⟨_, rfl⟩
  have h2 : ∃ x, span_Len.f a b = some x := by unfold span_Len.f; split <;> (try split) <;> exact ⟨_, rfl⟩
  obtain ⟨x, h1⟩ := h1
  obtain ⟨y, h2⟩ := h2
  rw [h1, h2]
  simp

end Go.Proofs.Ytchgkgfhkkffeaa.Pure
