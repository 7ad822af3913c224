/- RefMakes: for every input the law boscagelaw08.RefMakes returns true. -/
import Derived.Test.YtchgkgfhkkffeaaPRefMakesx1
import Derived.OpenShut
namespace Go.Proofs.Ytchgkgfhkkffeaa.Pure
open Go.RowKit Go.Proofs.Ytchgkgfhkkffeaa.PRefMakes Go.Proofs.YtchgkgfhkkffeaaW.PrintWords Go.Proofs.YtchgkgfhkkffeaaW.PrintLast Go.Proofs.YtchgkgfhkkffeaaW.PrintMore

theorem make_ref (k : Nat) (a b : Int) : boscageref08_Make.f (k + 1) a b = ref_Make.f (k + 1) a b := by
  simp only [boscageref08_Make.f, ref_Make.f, boscageref08_Make.j0, ref_Make.j0, Int.mul_comm]

theorem make_some (k : Nat) (a b : Int) : ∃ x y, ref_Make.f (k + 1) a b = some (x, y) := by
  have hj : ∀ c, ∃ x y, ref_Make.j0 (k + 1) a b c = some (x, y) := by
    intro c
    simp only [ref_Make.j0]
    by_cases h1 : c = true
    · exact ⟨_, _, if_pos h1⟩
    by_cases h2 : b < 1
    · exact ⟨_, _, by rw [if_neg h1, if_pos h2]⟩
    by_cases h3 : b > 4503599627370496
    · exact ⟨_, _, by rw [if_neg h1, if_neg h2, if_pos h3]⟩
    exact ⟨_, _, by rw [if_neg h1, if_neg h2, if_neg h3]⟩
  unfold ref_Make.f
  by_cases h : a < 1
  · rw [if_pos h]; exact hj _
  · rw [if_neg h]; exact hj _

theorem new_ref (a : Int) : boscageref08_New.f a = ref_New.f a := by
  unfold boscageref08_New.f ref_New.f
  split
  · rfl
  · congr 1
    unfold wrap64
    omega

theorem RefMakes : boscagelaw08_RefMakes.Pure := by
  intro a b c _ _ _
  have hw : boscagelaw08_works.f 1 = some true := by decide +kernel
  refine ⟨1, ?_⟩
  unfold boscagelaw08_RefMakes.f
  obtain ⟨x, x', h1⟩ := make_some 0 a b
  have h2 : ∃ x, ref_New.f c = some x := by unfold ref_New.f; split <;> exact ⟨_, rfl⟩
  obtain ⟨y, h2⟩ := h2
  rw [make_ref 0, h1, new_ref c, h2, hw]
  simp

end Go.Proofs.Ytchgkgfhkkffeaa.Pure
