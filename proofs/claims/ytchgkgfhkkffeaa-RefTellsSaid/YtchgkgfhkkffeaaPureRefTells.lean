/- RefTells: for every input the law boscagelaw08.RefTells returns true. -/
import Derived.Test.YtchgkgfhkkffeaaPRefTellsx2
import Derived.OpenShut
namespace Go.Proofs.Ytchgkgfhkkffeaa.Pure
open Go.RowKit Go.Proofs.Ytchgkgfhkkffeaa.PRefTells Go.Proofs.YtchgkgfhkkffeaaW.PrintWords Go.Proofs.YtchgkgfhkkffeaaW.PrintLast Go.Proofs.YtchgkgfhkkffeaaW.PrintMore

theorem make_ref (k : Nat) (a b : Int) : boscageref08_Make.f (k + 1) a b = ref_Make.f (k + 1) a b := by
  simp only [boscageref08_Make.f, ref_Make.f, boscageref08_Make.j0, ref_Make.j0, Int.mul_comm]

theorem make_some (k : Nat) (a b : Int) : ∃ x y, ref_Make.f (k + 1) a b = some (x, y) := by
  have hj : ∀ c, ∃ x y, ref_Make.j0 (k + 1) a b c = some (x, y) := by
    intro c
    simp only [ref_Make.j0]
    by_cases h1 : c = true
    · exact ⟨_, _, if_pos h1⟩
    by_cases h2 : b < 1
    · exact ⟨_, _, by rw [if_neg h1, if_pos h2]⟩
    by_cases h3 : b > 4503599627370496
    · exact ⟨_, _, by rw [if_neg h1, if_neg h2, if_pos h3]⟩
    exact ⟨_, _, by rw [if_neg h1, if_neg h2, if_neg h3]⟩
  unfold ref_Make.f
  by_cases h : a < 1
  · rw [if_pos h]; exact hj _
  · rw [if_neg h]; exact hj _

theorem kind_neg (k : Nat) (a : Int) (h : a < 0) : ref_Kind.f k a = some 2 := by
  unfold ref_Kind.f
  rw [if_neg (by omega), if_pos h]

theorem RefTells : boscagelaw08_RefTells.Pure := by
  intro a ha
  have hb := bounds_i64 ha
  have hw : boscagelaw08_works.f 1 = some true := by decide +kernel
  refine ⟨1, ?_⟩
  obtain ⟨x, y, hm⟩ := make_some 0 (Int.tmod a 1024) (wrap64 (Int.tdiv a 1024))
  unfold boscagelaw08_RefTells.f
  rw [hw]
  by_cases h0 : a = 0
  · subst h0
    decide +kernel
  by_cases hn : a < 0
  · have hp : ¬ a > 0 := by omega
    have e : wrap64 (-(wrap64 (a + 1))) = wrap64 ((-1) - a) := by unfold wrap64; omega
    simp only [ref_Which.f, ref_Slot.f, ref_Inc.f, boscageref08_Which.f, boscageref08_Slot.f, boscageref08_Inc.f, boscageref08_Kind.f, boscageref08_parts.f, kind_neg _ a hn, make_ref 0, hm, hp, hn, h0, e]
    simp
  · have hp : a > 0 := by omega
    simp only [ref_Which.f, ref_Slot.f, ref_Inc.f, boscageref08_Which.f, boscageref08_Slot.f, boscageref08_Inc.f, boscageref08_Kind.f, boscageref08_parts.f, ref_Kind.f, make_ref 0, hm, hp, hn, h0]
    by_cases hy : y = 0 <;> simp [hy]

end Go.Proofs.Ytchgkgfhkkffeaa.Pure
