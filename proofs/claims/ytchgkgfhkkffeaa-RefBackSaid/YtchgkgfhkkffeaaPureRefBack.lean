/- RefBack: for every input the law boscagelaw08.RefBack returns true. -/
import Derived.Test.YtchgkgfhkkffeaaPRefBackx1
import Derived.OpenShut
namespace Go.Proofs.Ytchgkgfhkkffeaa.Pure
open Go.RowKit Go.Proofs.Ytchgkgfhkkffeaa.PRefBack Go.Proofs.YtchgkgfhkkffeaaW.PrintWords Go.Proofs.YtchgkgfhkkffeaaW.PrintLast Go.Proofs.YtchgkgfhkkffeaaW.PrintMore

theorem make_ok (k : Nat) (a b x : Int) (h : ref_Make.f (k + 1) a b = some (x, 0)) : 1 ≤ a ∧ a ≤ 1000 ∧ 1 ≤ b ∧ b ≤ 4503599627370496 ∧ x = b * 1024 + a := by
  unfold ref_Make.f at h
  by_cases h1 : a < 1
  · rw [if_pos h1] at h; simp [ref_Make.j0] at h
  rw [if_neg h1] at h
  by_cases h2 : a > 1000
  · simp [ref_Make.j0, h2] at h
  by_cases h3 : b < 1
  · simp [ref_Make.j0, h2, h3] at h
  by_cases h4 : b > 4503599627370496
  · simp [ref_Make.j0, h2, h3, h4] at h
  simp [ref_Make.j0, h2, h3, h4] at h
  unfold wrap64 at h
  omega

theorem make_some (k : Nat) (a b : Int) : ∃ x y, ref_Make.f (k + 1) a b = some (x, y) := by
  have hj : ∀ c, ∃ x y, ref_Make.j0 (k + 1) a b c = some (x, y) := by
    intro c
    simp only [ref_Make.j0]
    by_cases h1 : c = true
    · exact ⟨_, _, if_pos h1⟩
    by_cases h2 : b < 1
    · exact ⟨_, _, by rw [if_neg h1, if_pos h2]⟩
    by_cases h3 : b > 4503599627370496
    · exact ⟨_, _, by rw [if_neg h1, if_neg h2, if_pos h3]⟩
    exact ⟨_, _, by rw [if_neg h1, if_neg h2, if_neg h3]⟩
  unfold ref_Make.f
  by_cases h : a < 1
  · rw [if_pos h]; exact hj _
  · rw [if_neg h]; exact hj _

theorem back (k : Nat) (a b : Int) (h1 : 1 ≤ a ∧ a ≤ 1000) (h2 : 1 ≤ b ∧ b ≤ 4503599627370496) : ref_Make.f (k + 1) a b = some (b * 1024 + a, 0) := by
  unfold ref_Make.f
  rw [if_neg (by omega)]
  have h3 : ¬ a > 1000 := by omega
  have h4 : ¬ b < 1 := by omega
  have h5 : ¬ b > 4503599627370496 := by omega
  simp only [ref_Make.j0, h3, h4, h5]
  have e : wrap64 (wrap64 (b * 1024) + a) = b * 1024 + a := by unfold wrap64; omega
  simp [e]

theorem parts (a b : Int) (h1 : 1 ≤ a ∧ a ≤ 1000) (h2 : 1 ≤ b ∧ b ≤ 4503599627370496) : Int.tmod (b * 1024 + a) 1024 = a ∧ wrap64 (Int.tdiv (b * 1024 + a) 1024) = b := by
  rw [Int.tmod_eq_emod_of_nonneg (by omega), Int.tdiv_eq_ediv_of_nonneg (by omega)]
  unfold wrap64
  omega

theorem kind_old (k : Nat) (a b : Int) (h1 : 1 ≤ a ∧ a ≤ 1000) (h2 : 1 ≤ b ∧ b ≤ 4503599627370496) : ref_Kind.f (k + 1) (b * 1024 + a) = some 1 := by
  unfold ref_Kind.f
  rw [if_neg (by omega), if_neg (by omega), (parts a b h1 h2).1, (parts a b h1 h2).2, back k a b h1 h2]
  simp

theorem tail (k : Nat) (c : Int) (hc : -9223372036854775808 ≤ c ∧ c ≤ 9223372036854775807) : boscagelaw08_RefBack.j0 (k + 1) c false = some true := by
  unfold boscagelaw08_RefBack.j0
  by_cases hn : c < 0
  · have h5 : ¬ c ≥ 0 := by omega
    simp [ref_New.f, ref_Which.f, ref_Kind.f, hn]
  · have h5 : c ≥ 0 := by omega
    have e : wrap64 ((-1) - c) = -1 - c := by unfold wrap64; omega
    have e2 : wrap64 ((-1) - (-1 - c)) = c := by unfold wrap64; omega
    have h6 : ¬ (-1 - c = 0) := by omega
    have h7 : -1 - c < 0 := by omega
    simp [ref_New.f, ref_Which.f, ref_Kind.f, hn, e, e2, h6, h7, h5]

theorem RefBack : boscagelaw08_RefBack.Pure := by
  intro a b c ha hb hc
  have hc := bounds_i64 hc
  have hw : boscagelaw08_works.f 2 = some true := by decide +kernel
  refine ⟨2, ?_⟩
  obtain ⟨x, y, hm⟩ := make_some 1 a b
  unfold boscagelaw08_RefBack.f
  rw [hw, hm]
  by_cases hy : y = 0
  · subst hy
    obtain ⟨g1, g2, g3, g4, rfl⟩ := make_ok 1 a b x hm
    have p := parts a b ⟨g1, g2⟩ ⟨g3, g4⟩
    simp [ref_Slot.f, ref_Inc.f, kind_old 1 a b ⟨g1, g2⟩ ⟨g3, g4⟩, p.1, p.2, tail 1 c hc]
  · simp [hy, tail 1 c hc]

end Go.Proofs.Ytchgkgfhkkffeaa.Pure
