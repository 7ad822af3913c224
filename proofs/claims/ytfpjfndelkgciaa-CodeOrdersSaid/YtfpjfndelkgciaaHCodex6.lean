/- Code: out of the translation, by a program of this session (wip/tools/mp.py) over the kit's print program; contracts of replaced functions are proved by hand. -/
import Derived.Test.YtfpjfndelkgciaaCodeShort
import Derived.Test.YtfpjfndelkgciaaHCodex0
import Derived.Test.YtfpjfndelkgciaaHCodex2
import Derived.Test.YtfpjfndelkgciaaHCodex3
import Derived.Test.YtfpjfndelkgciaaHCodex5
namespace Go.Proofs.Ytfpjfndelkgciaa.HCode
open Go.RowKit Go.Proofs.YtfpjfndelkgciaaW.PrintWords Go.Proofs.YtfpjfndelkgciaaW.PrintLast Go.Proofs.YtfpjfndelkgciaaW.PrintMore
attribute [local go_sem] max2_int min2_int max_two min_two max_three min_three max_four min_four   -- for this text's walks alone
open Go.Proofs.Ytfpjfndelkgciaa.Fl Go.Proofs.Ytfpjfndelkgciaa.Fw
set_option linter.unusedVariables false
set_option linter.unusedSimpArgs false

/-! ### boscagelaw03_CodeOrders: function 6 -/
def boscagelaw03_CodeOrders.f (k : Nat) (a0_0 : Int) (a0_1 : Int) (a0_2 : Int) (a0_3 : ByteArray) (a1_0 : Int) (a1_1 : Int) (a1_2 : Int) (a1_3 : ByteArray) : Option (Bool) := (boscagelaw03_Give.f a0_0 a0_1 a0_2 a0_3).bind fun bt200 => ((code_Make.f bt200.1 bt200.2.1 bt200.2.2.1 bt200.2.2.2).bind fun bt204 => ((boscagelaw03_Give.f a1_0 a1_1 a1_2 a1_3).bind fun bt206 => ((code_Make.f bt206.1 bt206.2.1 bt206.2.2.1 bt206.2.2.2).bind fun bt210 => ((boscagelaw03_Give.f a0_0 a0_1 a0_2 a0_3).bind fun bt212 => ((boscagelaw03_Give.f a1_0 a1_1 a1_2 a1_3).bind fun bt216 => ((code_Less.f bt212.1 bt212.2.1 bt212.2.2.1 bt212.2.2.2 bt216.1 bt216.2.1 bt216.2.2.1 bt216.2.2.2).bind fun t220 => ((boscagelaw03_short.f a0_0 a0_1 a0_2 a0_3).bind fun bt221 => ((boscagelaw03_short.f a1_0 a1_1 a1_2 a1_3).bind fun bt225 => ((boscageref03_Less.f k bt221.1 bt221.2.1 bt221.2.2.1 bt221.2.2.2 bt225.1 bt225.2.1 bt225.2.2.1 bt225.2.2.2).bind fun t229 => (if (t220 == t229) = true then (if bt204.2 = 0 then (if bt210.2 = 0 then ((boscageref01_Less.f k bt204.1 bt210.1).bind fun t230 => (if (t220 == t230) = true then ((boscagelaw03_works.f k).bind fun t231 => (some t231)) else (some false))) else (if (t220 == false) = true then ((boscagelaw03_works.f k).bind fun t232 => (some t232)) else (some false))) else (if (t220 == false) = true then ((boscagelaw03_works.f k).bind fun t233 => (some t233)) else (some false))) else (some false)))))))))))
theorem boscagelaw03_CodeOrders.mono : ∀ a0 a1 a2 a3 a4 a5 a6 a7 k, LeO (boscagelaw03_CodeOrders.f k a0 a1 a2 a3 a4 a5 a6 a7) (boscagelaw03_CodeOrders.f (k + 1) a0 a1 a2 a3 a4 a5 a6 a7) := by
  intro a0 a1 a2 a3 a4 a5 a6 a7 k
  unfold boscagelaw03_CodeOrders.f
  repeat' first
      | (with_reducible exact boscagelaw03_works.mono _)
      | (with_reducible exact boscageref01_Less.mono _ _ _)
      | (with_reducible exact boscageref03_Less.mono _ _ _ _ _ _ _ _ _)
      | (with_reducible exact LeO.refl _)
      | (with_reducible exact LeO.none _)
      | (with_reducible refine LeO.ite ?_ ?_)
      | (with_reducible refine LeO.bind ?_ (fun _ => ?_))
      | exact boscagelaw03_works.mono _
      | exact boscageref01_Less.mono _ _ _
      | exact boscageref03_Less.mono _ _ _ _ _ _ _ _ _
      | exact LeO.none _
      | refine LeO.ite ?_ ?_
      | refine LeO.bind ?_ (fun _ => ?_)
def boscagelaw03_CodeOrders.T4 : Bool × List (List Nat × List Nat) := (true, [([], []), ([], []), ([1], [1]), ([], []), ([3, 2], [3]), ([2, 4, 4], [2, 4]), ([0, 5], [0, 5]), ([6, 5], [6]), ([7], [7]), ([7], [7]), ([9, 7], [7, 9]), ([10, 7, 7], [7, 10]), ([11], [11]), ([12, 11], [11, 12]), ([11, 13, 7], [7, 11, 13]), ([14, 11, 7], [7, 14]), ([15], [15]), ([15], [15]), ([16, 17, 15, 15], [15, 16, 17]), ([15, 18, 7], [7, 15, 18]), ([8, 19, 7], [7, 8, 19]), ([7, 20], [7, 20]), ([21, 18], [21]), ([22, 22], [22]), ([22, 23], [22, 23]), ([24, 23, 0, 1, 2, 3, 4, 5, 6, 7, 8, 9, 10, 11, 12, 13, 14, 15, 16, 17, 18, 19, 20, 21, 22, 23, 24], [24])])
def boscagelaw03_CodeOrders.B4 : List Nat := [0, 0, 2, 0, 14, 30, 63, 127, 255, 255, 767, 1791, 3839, 7935, 16127, 32511, 65279, 65279, 261887, 524031, 1048575, 2097151, 4194303, 8388607, 16777215, 33554431]
theorem boscagelaw03_CodeOrders.tab4 : rtab .any (opsOf Try.f6 4) = boscagelaw03_CodeOrders.T4 := by kernel_rfl
theorem boscagelaw03_CodeOrders.bits4 : waitsOk boscagelaw03_CodeOrders.T4.2 boscagelaw03_CodeOrders.B4 = true := by kernel_rfl
set_option maxHeartbeats 8000000 in
set_option maxRecDepth 100000 in
theorem boscagelaw03_CodeOrders.calls (k : Nat) (a0_0 : Int) (a0_1 : Int) (a0_2 : Int) (a0_3 : ByteArray) (a1_0 : Int) (a1_1 : Int) (a1_2 : Int) (a1_3 : ByteArray) (r : Bool) (w : World) (h : boscagelaw03_CodeOrders.f k a0_0 a0_1 a0_2 a0_3 a1_0 a1_1 a1_2 a1_3 = some r) :
    Calls Try.prog 6 #[.agg #[.int .i64 a0_0, .int .i64 a0_1, .int .u64 a0_2, .string a0_3], .agg #[.int .i64 a1_0, .int .i64 a1_1, .int .u64 a1_2, .string a1_3]] w fun e w' => e = .returned (.bool r) ∧ Below w.heap.size w w' := by
  have hu24 := Try.underlying24
  have HB := am_ (Below.refl w.heap.size w)
  have H : ((boscagelaw03_Give.f a0_0 a0_1 a0_2 a0_3).bind fun bt200 => ((code_Make.f bt200.1 bt200.2.1 bt200.2.2.1 bt200.2.2.2).bind fun bt204 => ((boscagelaw03_Give.f a1_0 a1_1 a1_2 a1_3).bind fun bt206 => ((code_Make.f bt206.1 bt206.2.1 bt206.2.2.1 bt206.2.2.2).bind fun bt210 => ((boscagelaw03_Give.f a0_0 a0_1 a0_2 a0_3).bind fun bt212 => ((boscagelaw03_Give.f a1_0 a1_1 a1_2 a1_3).bind fun bt216 => ((code_Less.f bt212.1 bt212.2.1 bt212.2.2.1 bt212.2.2.2 bt216.1 bt216.2.1 bt216.2.2.1 bt216.2.2.2).bind fun t220 => ((boscagelaw03_short.f a0_0 a0_1 a0_2 a0_3).bind fun bt221 => ((boscagelaw03_short.f a1_0 a1_1 a1_2 a1_3).bind fun bt225 => ((boscageref03_Less.f k bt221.1 bt221.2.1 bt221.2.2.1 bt221.2.2.2 bt225.1 bt225.2.1 bt225.2.2.1 bt225.2.2.2).bind fun t229 => (if (t220 == t229) = true then (if bt204.2 = 0 then (if bt210.2 = 0 then ((boscageref01_Less.f k bt204.1 bt210.1).bind fun t230 => (if (t220 == t230) = true then ((boscagelaw03_works.f k).bind fun t231 => (some t231)) else (some false))) else (if (t220 == false) = true then ((boscagelaw03_works.f k).bind fun t232 => (some t232)) else (some false))) else (if (t220 == false) = true then ((boscagelaw03_works.f k).bind fun t233 => (some t233)) else (some false))) else (some false)))))))))))) = some r := h
  clear h
  replace H := Option.bind_eq_some_iff.mp H
  obtain ⟨⟨t200, t201, t202, t203⟩, A30, H⟩ := H
  replace H : ((code_Make.f t200 t201 t202 t203).bind fun bt204 => ((boscagelaw03_Give.f a1_0 a1_1 a1_2 a1_3).bind fun bt206 => ((code_Make.f bt206.1 bt206.2.1 bt206.2.2.1 bt206.2.2.2).bind fun bt210 => ((boscagelaw03_Give.f a0_0 a0_1 a0_2 a0_3).bind fun bt212 => ((boscagelaw03_Give.f a1_0 a1_1 a1_2 a1_3).bind fun bt216 => ((code_Less.f bt212.1 bt212.2.1 bt212.2.2.1 bt212.2.2.2 bt216.1 bt216.2.1 bt216.2.2.1 bt216.2.2.2).bind fun t220 => ((boscagelaw03_short.f a0_0 a0_1 a0_2 a0_3).bind fun bt221 => ((boscagelaw03_short.f a1_0 a1_1 a1_2 a1_3).bind fun bt225 => ((boscageref03_Less.f k bt221.1 bt221.2.1 bt221.2.2.1 bt221.2.2.2 bt225.1 bt225.2.1 bt225.2.2.1 bt225.2.2.2).bind fun t229 => (if (t220 == t229) = true then (if bt204.2 = 0 then (if bt210.2 = 0 then ((boscageref01_Less.f k bt204.1 bt210.1).bind fun t230 => (if (t220 == t230) = true then ((boscagelaw03_works.f k).bind fun t231 => (some t231)) else (some false))) else (if (t220 == false) = true then ((boscagelaw03_works.f k).bind fun t232 => (some t232)) else (some false))) else (if (t220 == false) = true then ((boscagelaw03_works.f k).bind fun t233 => (some t233)) else (some false))) else (some false))))))))))) = some r := H
  have A3 := am_ A30
  clear A30
  replace H := Option.bind_eq_some_iff.mp H
  obtain ⟨⟨t204, t205⟩, A40, H⟩ := H
  (try with_reducible have HBK := float_back A40)
  (try with_reducible have HBK := rfloat_back A40)
  replace H : ((boscagelaw03_Give.f a1_0 a1_1 a1_2 a1_3).bind fun bt206 => ((code_Make.f bt206.1 bt206.2.1 bt206.2.2.1 bt206.2.2.2).bind fun bt210 => ((boscagelaw03_Give.f a0_0 a0_1 a0_2 a0_3).bind fun bt212 => ((boscagelaw03_Give.f a1_0 a1_1 a1_2 a1_3).bind fun bt216 => ((code_Less.f bt212.1 bt212.2.1 bt212.2.2.1 bt212.2.2.2 bt216.1 bt216.2.1 bt216.2.2.1 bt216.2.2.2).bind fun t220 => ((boscagelaw03_short.f a0_0 a0_1 a0_2 a0_3).bind fun bt221 => ((boscagelaw03_short.f a1_0 a1_1 a1_2 a1_3).bind fun bt225 => ((boscageref03_Less.f k bt221.1 bt221.2.1 bt221.2.2.1 bt221.2.2.2 bt225.1 bt225.2.1 bt225.2.2.1 bt225.2.2.2).bind fun t229 => (if (t220 == t229) = true then (if t205 = 0 then (if bt210.2 = 0 then ((boscageref01_Less.f k t204 bt210.1).bind fun t230 => (if (t220 == t230) = true then ((boscagelaw03_works.f k).bind fun t231 => (some t231)) else (some false))) else (if (t220 == false) = true then ((boscagelaw03_works.f k).bind fun t232 => (some t232)) else (some false))) else (if (t220 == false) = true then ((boscagelaw03_works.f k).bind fun t233 => (some t233)) else (some false))) else (some false)))))))))) = some r := H
  have A4 := am_ A40
  clear A40
  replace H := Option.bind_eq_some_iff.mp H
  obtain ⟨⟨t206, t207, t208, t209⟩, A50, H⟩ := H
  replace H : ((code_Make.f t206 t207 t208 t209).bind fun bt210 => ((boscagelaw03_Give.f a0_0 a0_1 a0_2 a0_3).bind fun bt212 => ((boscagelaw03_Give.f a1_0 a1_1 a1_2 a1_3).bind fun bt216 => ((code_Less.f bt212.1 bt212.2.1 bt212.2.2.1 bt212.2.2.2 bt216.1 bt216.2.1 bt216.2.2.1 bt216.2.2.2).bind fun t220 => ((boscagelaw03_short.f a0_0 a0_1 a0_2 a0_3).bind fun bt221 => ((boscagelaw03_short.f a1_0 a1_1 a1_2 a1_3).bind fun bt225 => ((boscageref03_Less.f k bt221.1 bt221.2.1 bt221.2.2.1 bt221.2.2.2 bt225.1 bt225.2.1 bt225.2.2.1 bt225.2.2.2).bind fun t229 => (if (t220 == t229) = true then (if t205 = 0 then (if bt210.2 = 0 then ((boscageref01_Less.f k t204 bt210.1).bind fun t230 => (if (t220 == t230) = true then ((boscagelaw03_works.f k).bind fun t231 => (some t231)) else (some false))) else (if (t220 == false) = true then ((boscagelaw03_works.f k).bind fun t232 => (some t232)) else (some false))) else (if (t220 == false) = true then ((boscagelaw03_works.f k).bind fun t233 => (some t233)) else (some false))) else (some false))))))))) = some r := H
  have A5 := am_ A50
  clear A50
  replace H := Option.bind_eq_some_iff.mp H
  obtain ⟨⟨t210, t211⟩, A60, H⟩ := H
  (try with_reducible have HBK := float_back A60)
  (try with_reducible have HBK := rfloat_back A60)
  replace H : ((boscagelaw03_Give.f a0_0 a0_1 a0_2 a0_3).bind fun bt212 => ((boscagelaw03_Give.f a1_0 a1_1 a1_2 a1_3).bind fun bt216 => ((code_Less.f bt212.1 bt212.2.1 bt212.2.2.1 bt212.2.2.2 bt216.1 bt216.2.1 bt216.2.2.1 bt216.2.2.2).bind fun t220 => ((boscagelaw03_short.f a0_0 a0_1 a0_2 a0_3).bind fun bt221 => ((boscagelaw03_short.f a1_0 a1_1 a1_2 a1_3).bind fun bt225 => ((boscageref03_Less.f k bt221.1 bt221.2.1 bt221.2.2.1 bt221.2.2.2 bt225.1 bt225.2.1 bt225.2.2.1 bt225.2.2.2).bind fun t229 => (if (t220 == t229) = true then (if t205 = 0 then (if t211 = 0 then ((boscageref01_Less.f k t204 t210).bind fun t230 => (if (t220 == t230) = true then ((boscagelaw03_works.f k).bind fun t231 => (some t231)) else (some false))) else (if (t220 == false) = true then ((boscagelaw03_works.f k).bind fun t232 => (some t232)) else (some false))) else (if (t220 == false) = true then ((boscagelaw03_works.f k).bind fun t233 => (some t233)) else (some false))) else (some false)))))))) = some r := H
  have A6 := am_ A60
  clear A60
  replace H := Option.bind_eq_some_iff.mp H
  obtain ⟨⟨t212, t213, t214, t215⟩, A70, H⟩ := H
  replace H : ((boscagelaw03_Give.f a1_0 a1_1 a1_2 a1_3).bind fun bt216 => ((code_Less.f t212 t213 t214 t215 bt216.1 bt216.2.1 bt216.2.2.1 bt216.2.2.2).bind fun t220 => ((boscagelaw03_short.f a0_0 a0_1 a0_2 a0_3).bind fun bt221 => ((boscagelaw03_short.f a1_0 a1_1 a1_2 a1_3).bind fun bt225 => ((boscageref03_Less.f k bt221.1 bt221.2.1 bt221.2.2.1 bt221.2.2.2 bt225.1 bt225.2.1 bt225.2.2.1 bt225.2.2.2).bind fun t229 => (if (t220 == t229) = true then (if t205 = 0 then (if t211 = 0 then ((boscageref01_Less.f k t204 t210).bind fun t230 => (if (t220 == t230) = true then ((boscagelaw03_works.f k).bind fun t231 => (some t231)) else (some false))) else (if (t220 == false) = true then ((boscagelaw03_works.f k).bind fun t232 => (some t232)) else (some false))) else (if (t220 == false) = true then ((boscagelaw03_works.f k).bind fun t233 => (some t233)) else (some false))) else (some false))))))) = some r := H
  have A7 := am_ A70
  clear A70
  replace H := Option.bind_eq_some_iff.mp H
  obtain ⟨⟨t216, t217, t218, t219⟩, A80, H⟩ := H
  replace H : ((code_Less.f t212 t213 t214 t215 t216 t217 t218 t219).bind fun t220 => ((boscagelaw03_short.f a0_0 a0_1 a0_2 a0_3).bind fun bt221 => ((boscagelaw03_short.f a1_0 a1_1 a1_2 a1_3).bind fun bt225 => ((boscageref03_Less.f k bt221.1 bt221.2.1 bt221.2.2.1 bt221.2.2.2 bt225.1 bt225.2.1 bt225.2.2.1 bt225.2.2.2).bind fun t229 => (if (t220 == t229) = true then (if t205 = 0 then (if t211 = 0 then ((boscageref01_Less.f k t204 t210).bind fun t230 => (if (t220 == t230) = true then ((boscagelaw03_works.f k).bind fun t231 => (some t231)) else (some false))) else (if (t220 == false) = true then ((boscagelaw03_works.f k).bind fun t232 => (some t232)) else (some false))) else (if (t220 == false) = true then ((boscagelaw03_works.f k).bind fun t233 => (some t233)) else (some false))) else (some false)))))) = some r := H
  have A8 := am_ A80
  clear A80
  replace H := Option.bind_eq_some_iff.mp H
  obtain ⟨t220, A90, H⟩ := H
  replace H : ((boscagelaw03_short.f a0_0 a0_1 a0_2 a0_3).bind fun bt221 => ((boscagelaw03_short.f a1_0 a1_1 a1_2 a1_3).bind fun bt225 => ((boscageref03_Less.f k bt221.1 bt221.2.1 bt221.2.2.1 bt221.2.2.2 bt225.1 bt225.2.1 bt225.2.2.1 bt225.2.2.2).bind fun t229 => (if (t220 == t229) = true then (if t205 = 0 then (if t211 = 0 then ((boscageref01_Less.f k t204 t210).bind fun t230 => (if (t220 == t230) = true then ((boscagelaw03_works.f k).bind fun t231 => (some t231)) else (some false))) else (if (t220 == false) = true then ((boscagelaw03_works.f k).bind fun t232 => (some t232)) else (some false))) else (if (t220 == false) = true then ((boscagelaw03_works.f k).bind fun t233 => (some t233)) else (some false))) else (some false))))) = some r := H
  have A9 := am_ A90
  clear A90
  replace H := Option.bind_eq_some_iff.mp H
  obtain ⟨⟨t221, t222, t223, t224⟩, A100, H⟩ := H
  replace H : ((boscagelaw03_short.f a1_0 a1_1 a1_2 a1_3).bind fun bt225 => ((boscageref03_Less.f k t221 t222 t223 t224 bt225.1 bt225.2.1 bt225.2.2.1 bt225.2.2.2).bind fun t229 => (if (t220 == t229) = true then (if t205 = 0 then (if t211 = 0 then ((boscageref01_Less.f k t204 t210).bind fun t230 => (if (t220 == t230) = true then ((boscagelaw03_works.f k).bind fun t231 => (some t231)) else (some false))) else (if (t220 == false) = true then ((boscagelaw03_works.f k).bind fun t232 => (some t232)) else (some false))) else (if (t220 == false) = true then ((boscagelaw03_works.f k).bind fun t233 => (some t233)) else (some false))) else (some false)))) = some r := H
  have A10 := am_ A100
  clear A100
  replace H := Option.bind_eq_some_iff.mp H
  obtain ⟨⟨t225, t226, t227, t228⟩, A110, H⟩ := H
  replace H : ((boscageref03_Less.f k t221 t222 t223 t224 t225 t226 t227 t228).bind fun t229 => (if (t220 == t229) = true then (if t205 = 0 then (if t211 = 0 then ((boscageref01_Less.f k t204 t210).bind fun t230 => (if (t220 == t230) = true then ((boscagelaw03_works.f k).bind fun t231 => (some t231)) else (some false))) else (if (t220 == false) = true then ((boscagelaw03_works.f k).bind fun t232 => (some t232)) else (some false))) else (if (t220 == false) = true then ((boscagelaw03_works.f k).bind fun t233 => (some t233)) else (some false))) else (some false))) = some r := H
  have A11 := am_ A110
  clear A110
  replace H := Option.bind_eq_some_iff.mp H
  obtain ⟨t229, A120, H⟩ := H
  replace H : (if (t220 == t229) = true then (if t205 = 0 then (if t211 = 0 then ((boscageref01_Less.f k t204 t210).bind fun t230 => (if (t220 == t230) = true then ((boscagelaw03_works.f k).bind fun t231 => (some t231)) else (some false))) else (if (t220 == false) = true then ((boscagelaw03_works.f k).bind fun t232 => (some t232)) else (some false))) else (if (t220 == false) = true then ((boscagelaw03_works.f k).bind fun t233 => (some t233)) else (some false))) else (some false)) = some r := H
  have A12 := am_ A120
  clear A120
  by_cases c13 : (t220 == t229) = true
  · rw [if_pos c13] at H
    have c13b0 : (t220 == t229) = true := c13
    (try (have c13b1 : decide (t220 = t229) = true := by simpa using c13))
    (try (have c13b2 : (t220 == t229) = true := by simpa using c13))
    clear c13
    by_cases c14 : t205 = 0
    · rw [if_pos c14] at H
      have c14b0 : (t205 == 0) = true := beq_iff_eq.mpr c14
      have c14b1 : (t205 != 0) = false := bne_eq_false_iff_eq.mpr c14
      clear c14
      by_cases c15 : t211 = 0
      · rw [if_pos c15] at H
        have c15b0 : (t211 == 0) = true := beq_iff_eq.mpr c15
        have c15b1 : (t211 != 0) = false := bne_eq_false_iff_eq.mpr c15
        clear c15
        replace H := Option.bind_eq_some_iff.mp H
        obtain ⟨t230, A160, H⟩ := H
        replace H : (if (t220 == t230) = true then ((boscagelaw03_works.f k).bind fun t231 => (some t231)) else (some false)) = some r := H
        have A16 := am_ A160
        clear A160
        by_cases c17 : (t220 == t230) = true
        · rw [if_pos c17] at H
          have c17b0 : (t220 == t230) = true := c17
          (try (have c17b1 : decide (t220 = t230) = true := by simpa using c17))
          (try (have c17b2 : (t220 == t230) = true := by simpa using c17))
          clear c17
          replace H := Option.bind_eq_some_iff.mp H
          obtain ⟨t231, A180, H⟩ := H
          replace H : (some t231) = some r := H
          have A18 := am_ A180
          clear A180
          obtain rfl := Option.some.inj H
          go_enter Try.func6, Try.ntmps6
          try go_wp2_with (first | ((with_reducible refine gate_dst (N := 2) rfl ?_); refine box_event ?hg (N := 2) ?hd (cs := #[.int .i64 a0_0, .int .i64 a0_1, .int .u64 a0_2, .string a0_3]) (t := 24) ?hr ?_; (case hd => rfl); (case hg => rfl); (case hr => first | (go_simp; done) | (go_simp; rfl)); intro g8 hg w19 hbox hb; have m0 := am_ (below_step (by repeat (first | (with_reducible first | exact HB.out | apply below_alloc | apply pw_below_drewN | apply below_drew1) | exact HB.out)) hb); have m1 := am_ (hbox); have m2 := am_ ((by rw [hg]; exact (below_size (by repeat (first | (with_reducible first | exact HB.out | apply below_alloc | apply pw_below_drewN | apply below_drew1) | exact HB.out))) : w.heap.size ≤ g8)); have n3_ := am_ ((by rw [hg]; exact (below_size (by repeat (first | (with_reducible first | exact HB.out | apply below_alloc | apply pw_below_drewN | apply below_drew1) | exact HB.out))) : w.heap.size ≤ g8)); clear HB; have HB := m0; have K8 := m1; have GW198 := m2; have G8 := n3_; clear m0 m1 m2 n3_; clear hb hbox hg) | ((with_reducible refine gate_dst (N := 3) rfl ?_); refine box_event ?hg (N := 3) ?hd (cs := #[.int .i64 a1_0, .int .i64 a1_1, .int .u64 a1_2, .string a1_3]) (t := 24) ?hr ?_; (case hd => rfl); (case hg => rfl); (case hr => first | (go_simp; done) | (go_simp; rfl)); intro g9 hg w20 hbox hb; have m0 := am_ (blk_below (g := g8) (o := .cells #[.int .i64 a0_0, .int .i64 a0_1, .int .u64 a0_2, .string a0_3] 24 (0, 0)) (by (with_reducible repeat (first | refine blk_drewN ?_ _ | refine blk_drew ?_ | refine blk_alloc ?_ _)); exact K8.out) hb); have m1 := am_ (below_step (by repeat (first | (with_reducible first | exact HB.out | apply below_alloc | apply pw_below_drewN | apply below_drew1 | refine below_set ?_ G8.out) | exact HB.out)) hb); have m2 := am_ (hbox); have n3_ := am_ ((by rw [hg]; exact (below_size (by repeat (first | (with_reducible first | exact HB.out | apply below_alloc | apply pw_below_drewN | apply below_drew1 | refine below_set ?_ G8.out) | exact HB.out))) : w.heap.size ≤ g9)); have n4_ := am_ ((by rw [hg]; exact (below_size (by repeat (first | (with_reducible first | exact HB.out | apply below_alloc | apply pw_below_drewN | apply below_drew1 | refine below_set ?_ G8.out) | exact HB.out))) : w.heap.size ≤ g9)); have n5_ := am_ ((by rw [hg]; exact Nat.ne_of_lt (blk_lt (g := g8) (o := .cells #[.int .i64 a0_0, .int .i64 a0_1, .int .u64 a0_2, .string a0_3] 24 (0, 0)) (by (with_reducible repeat (first | refine blk_drewN ?_ _ | refine blk_drew ?_ | refine blk_alloc ?_ _)); exact K8.out)) : g8 ≠ g9)); have n6_ := am_ ((by rw [hg]; exact Nat.ne_of_gt (blk_lt (g := g8) (o := .cells #[.int .i64 a0_0, .int .i64 a0_1, .int .u64 a0_2, .string a0_3] 24 (0, 0)) (by (with_reducible repeat (first | refine blk_drewN ?_ _ | refine blk_drew ?_ | refine blk_alloc ?_ _)); exact K8.out)) : g9 ≠ g8)); clear K8; clear HB; have K8 := m0; have HB := m1; have K9 := m2; have GW199 := n3_; have G9 := n4_; have NB198_199 := n5_; have NB199_198 := n6_; clear m0 m1 m2 n3_ n4_ n5_ n6_; clear hb hbox hg; have hnb21 := NB198_199.out; have hnc21 := NB199_198.out; have hcz22_0 : w20.cell? ⟨g8, 0, none⟩ = some (.int .i64 a0_0) := (bc_ K8.out 0).trans rfl; have hcz22_1 : w20.cell? ⟨g8, 1, none⟩ = some (.int .i64 a0_1) := (bc_ K8.out 1).trans rfl; have hcz22_2 : w20.cell? ⟨g8, 2, none⟩ = some (.int .u64 a0_2) := (bc_ K8.out 2).trans rfl; have hcz22_3 : w20.cell? ⟨g8, 3, none⟩ = some (.string a0_3) := (bc_ K8.out 3).trans rfl; have hfz22_0 := blk_frozen K8.out 0; have hfz22_1 := blk_frozen K8.out 1; have hfz22_2 := blk_frozen K8.out 2; have hfz22_3 := blk_frozen K8.out 3) | ((with_reducible refine gate_callee (f := 8) rfl ?_); refine goesL_ (some 12) rfl rfl Try.func8 (by kernel_rfl) rfl #[.agg #[.int .i64 a0_0, .int .i64 a0_1, .int .u64 a0_2, .string a0_3]] rfl (by (try simp only [List.map_toArray, List.map_cons, List.map_nil]); first | done | rfl | (simp only [List.length_drop, List.length_take]; rfl)) ?_; (with_reducible refine (boscagelaw03_Give.calls a0_0 a0_1 a0_2 a0_3 t200 t201 t202 t203 _ A3.out).mono ?_); rintro e w23 ⟨rfl, hb⟩; refine ⟨_, rfl, ?_⟩; have m0 := am_ (blk_below (g := g8) (o := .cells #[.int .i64 a0_0, .int .i64 a0_1, .int .u64 a0_2, .string a0_3] 24 (0, 0)) (by (with_reducible repeat (first | refine blk_drewN ?_ _ | refine blk_drew ?_ | refine blk_alloc ?_ _)); exact K8.out) hb); have m1 := am_ (blk_below (g := g9) (o := .cells #[.int .i64 a1_0, .int .i64 a1_1, .int .u64 a1_2, .string a1_3] 24 (0, 0)) (by (with_reducible repeat (first | refine blk_drewN ?_ _ | refine blk_drew ?_ | refine blk_alloc ?_ _)); exact K9.out) hb); have m2 := am_ (below_step (by repeat (first | (with_reducible first | exact HB.out | apply below_alloc | apply pw_below_drewN | apply below_drew1 | refine below_set ?_ G8.out | refine below_set ?_ G9.out) | exact HB.out)) hb); clear K8; clear K9; clear HB; have K8 := m0; have K9 := m1; have HB := m2; clear m0 m1 m2; (try clear hb); (try clear hb2); (try clear hk); (try clear hi)) | ((with_reducible refine gate_callee (f := 7) rfl ?_); refine goesL_ (some 13) rfl rfl Try.func7 (by kernel_rfl) rfl #[.agg #[.int .i64 t200, .int .i64 t201, .int .u64 t202, .string t203]] rfl (by (try simp only [List.map_toArray, List.map_cons, List.map_nil]); first | done | rfl | (simp only [List.length_drop, List.length_take]; rfl)) ?_; (with_reducible refine (code_Make.calls t200 t201 t202 t203 t204 t205 _ A4.out).mono ?_); rintro e w24 ⟨rfl, hb⟩; refine ⟨_, rfl, ?_⟩; have m0 := am_ (blk_below (g := g8) (o := .cells #[.int .i64 a0_0, .int .i64 a0_1, .int .u64 a0_2, .string a0_3] 24 (0, 0)) (by (with_reducible repeat (first | refine blk_drewN ?_ _ | refine blk_drew ?_ | refine blk_alloc ?_ _)); exact K8.out) hb); have m1 := am_ (blk_below (g := g9) (o := .cells #[.int .i64 a1_0, .int .i64 a1_1, .int .u64 a1_2, .string a1_3] 24 (0, 0)) (by (with_reducible repeat (first | refine blk_drewN ?_ _ | refine blk_drew ?_ | refine blk_alloc ?_ _)); exact K9.out) hb); have m2 := am_ (below_step (by repeat (first | (with_reducible first | exact HB.out | apply below_alloc | apply pw_below_drewN | apply below_drew1 | refine below_set ?_ G8.out | refine below_set ?_ G9.out) | exact HB.out)) hb); clear K8; clear K9; clear HB; have K8 := m0; have K9 := m1; have HB := m2; clear m0 m1 m2; (try clear hb); (try clear hb2); (try clear hk); (try clear hi); have hcz25_0 : w24.cell? ⟨g9, 0, none⟩ = some (.int .i64 a1_0) := (bc_ K9.out 0).trans rfl; have hcz25_1 : w24.cell? ⟨g9, 1, none⟩ = some (.int .i64 a1_1) := (bc_ K9.out 1).trans rfl; have hcz25_2 : w24.cell? ⟨g9, 2, none⟩ = some (.int .u64 a1_2) := (bc_ K9.out 2).trans rfl; have hcz25_3 : w24.cell? ⟨g9, 3, none⟩ = some (.string a1_3) := (bc_ K9.out 3).trans rfl; have hfz25_0 := blk_frozen K9.out 0; have hfz25_1 := blk_frozen K9.out 1; have hfz25_2 := blk_frozen K9.out 2; have hfz25_3 := blk_frozen K9.out 3) | ((with_reducible refine gate_callee (f := 8) rfl ?_); refine goesL_ (some 18) rfl rfl Try.func8 (by kernel_rfl) rfl #[.agg #[.int .i64 a1_0, .int .i64 a1_1, .int .u64 a1_2, .string a1_3]] rfl (by (try simp only [List.map_toArray, List.map_cons, List.map_nil]); first | done | rfl | (simp only [List.length_drop, List.length_take]; rfl)) ?_; (with_reducible refine (boscagelaw03_Give.calls a1_0 a1_1 a1_2 a1_3 t206 t207 t208 t209 _ A5.out).mono ?_); rintro e w26 ⟨rfl, hb⟩; refine ⟨_, rfl, ?_⟩; have m0 := am_ (blk_below (g := g8) (o := .cells #[.int .i64 a0_0, .int .i64 a0_1, .int .u64 a0_2, .string a0_3] 24 (0, 0)) (by (with_reducible repeat (first | refine blk_drewN ?_ _ | refine blk_drew ?_ | refine blk_alloc ?_ _)); exact K8.out) hb); have m1 := am_ (blk_below (g := g9) (o := .cells #[.int .i64 a1_0, .int .i64 a1_1, .int .u64 a1_2, .string a1_3] 24 (0, 0)) (by (with_reducible repeat (first | refine blk_drewN ?_ _ | refine blk_drew ?_ | refine blk_alloc ?_ _)); exact K9.out) hb); have m2 := am_ (below_step (by repeat (first | (with_reducible first | exact HB.out | apply below_alloc | apply pw_below_drewN | apply below_drew1 | refine below_set ?_ G8.out | refine below_set ?_ G9.out) | exact HB.out)) hb); clear K8; clear K9; clear HB; have K8 := m0; have K9 := m1; have HB := m2; clear m0 m1 m2; (try clear hb); (try clear hb2); (try clear hk); (try clear hi)) | ((with_reducible refine gate_callee (f := 7) rfl ?_); refine goesL_ (some 19) rfl rfl Try.func7 (by kernel_rfl) rfl #[.agg #[.int .i64 t206, .int .i64 t207, .int .u64 t208, .string t209]] rfl (by (try simp only [List.map_toArray, List.map_cons, List.map_nil]); first | done | rfl | (simp only [List.length_drop, List.length_take]; rfl)) ?_; (with_reducible refine (code_Make.calls t206 t207 t208 t209 t210 t211 _ A6.out).mono ?_); rintro e w27 ⟨rfl, hb⟩; refine ⟨_, rfl, ?_⟩; have m0 := am_ (blk_below (g := g8) (o := .cells #[.int .i64 a0_0, .int .i64 a0_1, .int .u64 a0_2, .string a0_3] 24 (0, 0)) (by (with_reducible repeat (first | refine blk_drewN ?_ _ | refine blk_drew ?_ | refine blk_alloc ?_ _)); exact K8.out) hb); have m1 := am_ (blk_below (g := g9) (o := .cells #[.int .i64 a1_0, .int .i64 a1_1, .int .u64 a1_2, .string a1_3] 24 (0, 0)) (by (with_reducible repeat (first | refine blk_drewN ?_ _ | refine blk_drew ?_ | refine blk_alloc ?_ _)); exact K9.out) hb); have m2 := am_ (below_step (by repeat (first | (with_reducible first | exact HB.out | apply below_alloc | apply pw_below_drewN | apply below_drew1 | refine below_set ?_ G8.out | refine below_set ?_ G9.out) | exact HB.out)) hb); clear K8; clear K9; clear HB; have K8 := m0; have K9 := m1; have HB := m2; clear m0 m1 m2; (try clear hb); (try clear hb2); (try clear hk); (try clear hi)))
          have m0 := am_ (blk_drew K8.out)
          have m1 := am_ (blk_drew K9.out)
          have m2 := am_ (below_drew1 HB.out)
          clear K8
          clear K9
          clear HB
          have K8 := m0
          have K9 := m1
          have HB := m2
          clear m0 m1 m2
          refine start_ (n := 6) (S := fun w' => w'.cell? ⟨g8, 0, none⟩ = some (.int .i64 a0_0) ∧ w'.cell? ⟨g8, 1, none⟩ = some (.int .i64 a0_1) ∧ w'.cell? ⟨g8, 2, none⟩ = some (.int .u64 a0_2) ∧ w'.cell? ⟨g8, 3, none⟩ = some (.string a0_3) ∧ w'.cell? ⟨g9, 0, none⟩ = some (.int .i64 a1_0) ∧ w'.cell? ⟨g9, 1, none⟩ = some (.int .i64 a1_1) ∧ w'.cell? ⟨g9, 2, none⟩ = some (.int .u64 a1_2) ∧ w'.cell? ⟨g9, 3, none⟩ = some (.string a1_3)) (ds := []) #[false, false, false, false, false, false] (by kernel_rfl) rfl rfl ⟨(bc_ K8.out 0).trans rfl, (bc_ K8.out 1).trans rfl, (bc_ K8.out 2).trans rfl, (bc_ K8.out 3).trans rfl, (bc_ K9.out 0).trans rfl, (bc_ K9.out 1).trans rfl, (bc_ K9.out 2).trans rfl, (bc_ K9.out 3).trans rfl⟩ (fun hL => ?_)
          generalize w27.drew = w28 at K8 K9 HB hL ⊢
          refine take_ (i := 0) (N := some 22) (v := ?_) (a' := ?_) #[true, false, false, false, false, false] rfl rfl (by kernel_rfl) (fun _ _ _ h => h) (Or.inl ⟨by rfl, ?_⟩) hL ?_ ?_
          rotate_left
          · rintro w' ⟨s0, s1, s2, s3, s4, s5, s6, s7⟩
            go_simp
            with_reducible rfl
          rotate_left
          · simp only [Act.put, sa_, sz_, ss_, i64_w, i32_w]
            rfl
          refine take_ (i := 2) (N := some 24) (v := ?_) (a' := ?_) #[true, false, true, false, false, false] rfl rfl (by kernel_rfl) (fun _ _ _ h => h) (Or.inl ⟨by rfl, ?_⟩) hL ?_ ?_
          rotate_left
          · rintro w' ⟨s0, s1, s2, s3, s4, s5, s6, s7⟩
            go_simp
            with_reducible rfl
          rotate_left
          · simp only [Act.put, sa_, sz_, ss_, i64_w, i32_w]
            rfl
          refine one_ (i := 1) (N := some 23) #[true, true, true, false, false, false] rfl rfl (by kernel_rfl) (by decide) (fun K hK => ?_)
          refine goes_ Try.func8 (by kernel_rfl) rfl #[.agg #[.int .i64 a0_0, .int .i64 a0_1, .int .u64 a0_2, .string a0_3]] (by rfl) rfl rfl (by (try simp only [List.map_toArray, List.map_cons, List.map_nil]); first | done | rfl | (simp only [List.length_drop, List.length_take]; rfl)) ?_
          with_reducible refine (boscagelaw03_Give.calls a0_0 a0_1 a0_2 a0_3 t212 t213 t214 t215 _ A7.out).mono ?_
          rintro e w29 ⟨rfl, hb⟩
          refine ⟨_, rfl, ?_⟩
          have m0 := am_ (blk_below (g := g8) (o := .cells #[.int .i64 a0_0, .int .i64 a0_1, .int .u64 a0_2, .string a0_3] 24 (0, 0)) (by (with_reducible repeat (first | refine blk_drewN ?_ _ | refine blk_drew ?_ | refine blk_alloc ?_ _)); exact K8.out) hb)
          have m1 := am_ (blk_below (g := g9) (o := .cells #[.int .i64 a1_0, .int .i64 a1_1, .int .u64 a1_2, .string a1_3] 24 (0, 0)) (by (with_reducible repeat (first | refine blk_drewN ?_ _ | refine blk_drew ?_ | refine blk_alloc ?_ _)); exact K9.out) hb)
          have m2 := am_ (below_step (by repeat (first | (with_reducible first | exact HB.out | apply below_alloc | apply pw_below_drewN | apply below_drew1 | refine below_set ?_ G8.out | refine below_set ?_ G9.out) | exact HB.out)) hb)
          clear K8
          clear K9
          clear HB
          have K8 := m0
          have K9 := m1
          have HB := m2
          clear m0 m1 m2
          (try clear hb)
          (try clear hb2)
          (try clear hk)
          (try clear hi)
          refine hK.out _ _ ⟨(bc_ K8.out 0).trans rfl, (bc_ K8.out 1).trans rfl, (bc_ K8.out 2).trans rfl, (bc_ K8.out 3).trans rfl, (bc_ K9.out 0).trans rfl, (bc_ K9.out 1).trans rfl, (bc_ K9.out 2).trans rfl, (bc_ K9.out 3).trans rfl⟩ (fun hL => ?_)
          clear hK K
          refine norm_ (a' := ?_) ?_ ?_
          rotate_left
          · show Act.put _ (some 23) _ = _
            simp only [Act.put, sa_, sz_, ss_, i64_w, i32_w]
            rfl
          refine one_ (i := 3) (N := some 25) #[true, true, true, true, false, false] rfl rfl (by kernel_rfl) (by decide) (fun K hK => ?_)
          refine goes_ Try.func8 (by kernel_rfl) rfl #[.agg #[.int .i64 a1_0, .int .i64 a1_1, .int .u64 a1_2, .string a1_3]] (by rfl) rfl rfl (by (try simp only [List.map_toArray, List.map_cons, List.map_nil]); first | done | rfl | (simp only [List.length_drop, List.length_take]; rfl)) ?_
          with_reducible refine (boscagelaw03_Give.calls a1_0 a1_1 a1_2 a1_3 t216 t217 t218 t219 _ A8.out).mono ?_
          rintro e w30 ⟨rfl, hb⟩
          refine ⟨_, rfl, ?_⟩
          have m0 := am_ (blk_below (g := g8) (o := .cells #[.int .i64 a0_0, .int .i64 a0_1, .int .u64 a0_2, .string a0_3] 24 (0, 0)) (by (with_reducible repeat (first | refine blk_drewN ?_ _ | refine blk_drew ?_ | refine blk_alloc ?_ _)); exact K8.out) hb)
          have m1 := am_ (blk_below (g := g9) (o := .cells #[.int .i64 a1_0, .int .i64 a1_1, .int .u64 a1_2, .string a1_3] 24 (0, 0)) (by (with_reducible repeat (first | refine blk_drewN ?_ _ | refine blk_drew ?_ | refine blk_alloc ?_ _)); exact K9.out) hb)
          have m2 := am_ (below_step (by repeat (first | (with_reducible first | exact HB.out | apply below_alloc | apply pw_below_drewN | apply below_drew1 | refine below_set ?_ G8.out | refine below_set ?_ G9.out) | exact HB.out)) hb)
          clear K8
          clear K9
          clear HB
          have K8 := m0
          have K9 := m1
          have HB := m2
          clear m0 m1 m2
          (try clear hb)
          (try clear hb2)
          (try clear hk)
          (try clear hi)
          refine hK.out _ _ ⟨(bc_ K8.out 0).trans rfl, (bc_ K8.out 1).trans rfl, (bc_ K8.out 2).trans rfl, (bc_ K8.out 3).trans rfl, (bc_ K9.out 0).trans rfl, (bc_ K9.out 1).trans rfl, (bc_ K9.out 2).trans rfl, (bc_ K9.out 3).trans rfl⟩ (fun hL => ?_)
          clear hK K
          refine norm_ (a' := ?_) ?_ ?_
          rotate_left
          · show Act.put _ (some 25) _ = _
            simp only [Act.put, sa_, sz_, ss_, i64_w, i32_w]
            rfl
          refine one_ (i := 4) (N := some 26) #[true, true, true, true, true, false] rfl rfl (by kernel_rfl) (by decide) (fun K hK => ?_)
          refine goes_ Try.func17 (by kernel_rfl) rfl #[.agg #[.int .i64 t212, .int .i64 t213, .int .u64 t214, .string t215], .agg #[.int .i64 t216, .int .i64 t217, .int .u64 t218, .string t219]] (by rfl) rfl rfl (by (try simp only [List.map_toArray, List.map_cons, List.map_nil]); first | done | rfl | (simp only [List.length_drop, List.length_take]; rfl)) ?_
          with_reducible refine (code_Less.calls t212 t213 t214 t215 t216 t217 t218 t219 t220 _ A9.out).mono ?_
          rintro e w31 ⟨rfl, hb⟩
          refine ⟨_, rfl, ?_⟩
          have m0 := am_ (blk_below (g := g8) (o := .cells #[.int .i64 a0_0, .int .i64 a0_1, .int .u64 a0_2, .string a0_3] 24 (0, 0)) (by (with_reducible repeat (first | refine blk_drewN ?_ _ | refine blk_drew ?_ | refine blk_alloc ?_ _)); exact K8.out) hb)
          have m1 := am_ (blk_below (g := g9) (o := .cells #[.int .i64 a1_0, .int .i64 a1_1, .int .u64 a1_2, .string a1_3] 24 (0, 0)) (by (with_reducible repeat (first | refine blk_drewN ?_ _ | refine blk_drew ?_ | refine blk_alloc ?_ _)); exact K9.out) hb)
          have m2 := am_ (below_step (by repeat (first | (with_reducible first | exact HB.out | apply below_alloc | apply pw_below_drewN | apply below_drew1 | refine below_set ?_ G8.out | refine below_set ?_ G9.out) | exact HB.out)) hb)
          clear K8
          clear K9
          clear HB
          have K8 := m0
          have K9 := m1
          have HB := m2
          clear m0 m1 m2
          (try clear hb)
          (try clear hb2)
          (try clear hk)
          (try clear hi)
          refine hK.out _ _ ⟨(bc_ K8.out 0).trans rfl, (bc_ K8.out 1).trans rfl, (bc_ K8.out 2).trans rfl, (bc_ K8.out 3).trans rfl, (bc_ K9.out 0).trans rfl, (bc_ K9.out 1).trans rfl, (bc_ K9.out 2).trans rfl, (bc_ K9.out 3).trans rfl⟩ (fun hL => ?_)
          clear hK K
          refine norm_ (a' := ?_) ?_ ?_
          rotate_left
          · show Act.put _ (some 26) _ = _
            simp only [Act.put, sa_, sz_, ss_, i64_w, i32_w]
            rfl
          refine pure_ (i := 5) (N := some 9) (v := ?_) (a' := ?_) #[true, true, true, true, true, true] rfl rfl (by kernel_rfl) (fun _ _ _ h => h) (Or.inl ⟨by rfl, ?_⟩) ?_ ?_
          rotate_left
          · intro w'
            go_simp
            with_reducible rfl
          rotate_left
          · simp only [Act.put, sa_, sz_, ss_, i64_w, i32_w]
            rfl
          refine done_ (by kernel_rfl) ?_
          try go_wp2
          have m0 := am_ (blk_drew K8.out)
          have m1 := am_ (blk_drew K9.out)
          have m2 := am_ (below_drew1 HB.out)
          clear K8
          clear K9
          clear HB
          have K8 := m0
          have K9 := m1
          have HB := m2
          clear m0 m1 m2
          refine start_ (n := 26) (S := fun w' => w'.cell? ⟨g8, 0, none⟩ = some (.int .i64 a0_0) ∧ w'.cell? ⟨g8, 1, none⟩ = some (.int .i64 a0_1) ∧ w'.cell? ⟨g8, 2, none⟩ = some (.int .u64 a0_2) ∧ w'.cell? ⟨g8, 3, none⟩ = some (.string a0_3) ∧ w'.cell? ⟨g9, 0, none⟩ = some (.int .i64 a1_0) ∧ w'.cell? ⟨g9, 1, none⟩ = some (.int .i64 a1_1) ∧ w'.cell? ⟨g9, 2, none⟩ = some (.int .u64 a1_2) ∧ w'.cell? ⟨g9, 3, none⟩ = some (.string a1_3)) (ds := []) #[false, false, false, false, false, false, false, false, false, false, false, false, false, false, false, false, false, false, false, false, false, false, false, false, false, false] (by kernel_rfl) rfl rfl ⟨(bc_ K8.out 0).trans rfl, (bc_ K8.out 1).trans rfl, (bc_ K8.out 2).trans rfl, (bc_ K8.out 3).trans rfl, (bc_ K9.out 0).trans rfl, (bc_ K9.out 1).trans rfl, (bc_ K9.out 2).trans rfl, (bc_ K9.out 3).trans rfl⟩ (fun hL => ?_); refine with_tabW boscagelaw03_CodeOrders.tab4 boscagelaw03_CodeOrders.bits4 (fun HT_ HW_ => ?_)
          generalize w31.drew = w32 at K8 K9 HB hL ⊢
          refine pure_ (i := 0) (N := some 27) (v := ?_) (a' := ?_) #[true, false, false, false, false, false, false, false, false, false, false, false, false, false, false, false, false, false, false, false, false, false, false, false, false, false] rfl rfl (any_of HT_.out (by kernel_rfl)) (fun _ _ _ h => h) (Or.inl ⟨by rfl, ?_⟩) ?_ ?_
          rotate_left
          · intro w'
            go_simp
            with_reducible rfl
          rotate_left
          · simp only [Act.put, sa_, sz_, ss_, i64_w, i32_w]
            rfl
          refine take_ (i := 1) (N := some 28) (v := ?_) (a' := ?_) #[true, true, false, false, false, false, false, false, false, false, false, false, false, false, false, false, false, false, false, false, false, false, false, false, false, false] rfl rfl (take_ofW HT_.out HW_.out (by kernel_rfl)) (fun _ _ _ h => h) (Or.inl ⟨by rfl, ?_⟩) hL ?_ ?_
          rotate_left
          · rintro w' ⟨s0, s1, s2, s3, s4, s5, s6, s7⟩
            go_simp
            with_reducible rfl
          rotate_left
          · simp only [Act.put, sa_, sz_, ss_, i64_w, i32_w]
            rfl
          refine take_ (i := 3) (N := some 30) (v := ?_) (a' := ?_) #[true, true, false, true, false, false, false, false, false, false, false, false, false, false, false, false, false, false, false, false, false, false, false, false, false, false] rfl rfl (take_ofW HT_.out HW_.out (by kernel_rfl)) (fun _ _ _ h => h) (Or.inl ⟨by rfl, ?_⟩) hL ?_ ?_
          rotate_left
          · rintro w' ⟨s0, s1, s2, s3, s4, s5, s6, s7⟩
            go_simp
            with_reducible rfl
          rotate_left
          · simp only [Act.put, sa_, sz_, ss_, i64_w, i32_w]
            rfl
          refine one_ (i := 2) (N := some 29) #[true, true, true, true, false, false, false, false, false, false, false, false, false, false, false, false, false, false, false, false, false, false, false, false, false, false] rfl rfl (one_of HT_.out (by kernel_rfl)) (by decide) (fun K hK => ?_)
          refine goes_ Try.func10 (by kernel_rfl) rfl #[.agg #[.int .i64 a0_0, .int .i64 a0_1, .int .u64 a0_2, .string a0_3]] (by rfl) rfl rfl (by (try simp only [List.map_toArray, List.map_cons, List.map_nil]); first | done | rfl | (simp only [List.length_drop, List.length_take]; rfl)) ?_
          with_reducible refine (boscagelaw03_short.calls a0_0 a0_1 a0_2 a0_3 t221 t222 t223 t224 _ A10.out).mono ?_
          rintro e w33 ⟨rfl, hb⟩
          refine ⟨_, rfl, ?_⟩
          have m0 := am_ (blk_below (g := g8) (o := .cells #[.int .i64 a0_0, .int .i64 a0_1, .int .u64 a0_2, .string a0_3] 24 (0, 0)) (by (with_reducible repeat (first | refine blk_drewN ?_ _ | refine blk_drew ?_ | refine blk_alloc ?_ _)); exact K8.out) hb)
          have m1 := am_ (blk_below (g := g9) (o := .cells #[.int .i64 a1_0, .int .i64 a1_1, .int .u64 a1_2, .string a1_3] 24 (0, 0)) (by (with_reducible repeat (first | refine blk_drewN ?_ _ | refine blk_drew ?_ | refine blk_alloc ?_ _)); exact K9.out) hb)
          have m2 := am_ (below_step (by repeat (first | (with_reducible first | exact HB.out | apply below_alloc | apply pw_below_drewN | apply below_drew1 | refine below_set ?_ G8.out | refine below_set ?_ G9.out) | exact HB.out)) hb)
          clear K8
          clear K9
          clear HB
          have K8 := m0
          have K9 := m1
          have HB := m2
          clear m0 m1 m2
          (try clear hb)
          (try clear hb2)
          (try clear hk)
          (try clear hi)
          refine hK.out _ _ ⟨(bc_ K8.out 0).trans rfl, (bc_ K8.out 1).trans rfl, (bc_ K8.out 2).trans rfl, (bc_ K8.out 3).trans rfl, (bc_ K9.out 0).trans rfl, (bc_ K9.out 1).trans rfl, (bc_ K9.out 2).trans rfl, (bc_ K9.out 3).trans rfl⟩ (fun hL => ?_)
          clear hK K
          refine norm_ (a' := ?_) ?_ ?_
          rotate_left
          · show Act.put _ (some 29) _ = _
            simp only [Act.put, sa_, sz_, ss_, i64_w, i32_w]
            rfl
          refine one_ (i := 4) (N := some 31) #[true, true, true, true, true, false, false, false, false, false, false, false, false, false, false, false, false, false, false, false, false, false, false, false, false, false] rfl rfl (one_of HT_.out (by kernel_rfl)) (by decide) (fun K hK => ?_)
          refine goes_ Try.func10 (by kernel_rfl) rfl #[.agg #[.int .i64 a1_0, .int .i64 a1_1, .int .u64 a1_2, .string a1_3]] (by rfl) rfl rfl (by (try simp only [List.map_toArray, List.map_cons, List.map_nil]); first | done | rfl | (simp only [List.length_drop, List.length_take]; rfl)) ?_
          with_reducible refine (boscagelaw03_short.calls a1_0 a1_1 a1_2 a1_3 t225 t226 t227 t228 _ A11.out).mono ?_
          rintro e w34 ⟨rfl, hb⟩
          refine ⟨_, rfl, ?_⟩
          have m0 := am_ (blk_below (g := g8) (o := .cells #[.int .i64 a0_0, .int .i64 a0_1, .int .u64 a0_2, .string a0_3] 24 (0, 0)) (by (with_reducible repeat (first | refine blk_drewN ?_ _ | refine blk_drew ?_ | refine blk_alloc ?_ _)); exact K8.out) hb)
          have m1 := am_ (blk_below (g := g9) (o := .cells #[.int .i64 a1_0, .int .i64 a1_1, .int .u64 a1_2, .string a1_3] 24 (0, 0)) (by (with_reducible repeat (first | refine blk_drewN ?_ _ | refine blk_drew ?_ | refine blk_alloc ?_ _)); exact K9.out) hb)
          have m2 := am_ (below_step (by repeat (first | (with_reducible first | exact HB.out | apply below_alloc | apply pw_below_drewN | apply below_drew1 | refine below_set ?_ G8.out | refine below_set ?_ G9.out) | exact HB.out)) hb)
          clear K8
          clear K9
          clear HB
          have K8 := m0
          have K9 := m1
          have HB := m2
          clear m0 m1 m2
          (try clear hb)
          (try clear hb2)
          (try clear hk)
          (try clear hi)
          refine hK.out _ _ ⟨(bc_ K8.out 0).trans rfl, (bc_ K8.out 1).trans rfl, (bc_ K8.out 2).trans rfl, (bc_ K8.out 3).trans rfl, (bc_ K9.out 0).trans rfl, (bc_ K9.out 1).trans rfl, (bc_ K9.out 2).trans rfl, (bc_ K9.out 3).trans rfl⟩ (fun hL => ?_)
          clear hK K
          refine norm_ (a' := ?_) ?_ ?_
          rotate_left
          · show Act.put _ (some 31) _ = _
            simp only [Act.put, sa_, sz_, ss_, i64_w, i32_w]
            rfl
          refine one_ (i := 5) (N := some 32) #[true, true, true, true, true, true, false, false, false, false, false, false, false, false, false, false, false, false, false, false, false, false, false, false, false, false] rfl rfl (one_of HT_.out (by kernel_rfl)) (by decide) (fun K hK => ?_)
          refine goes_ Try.func18 (by kernel_rfl) rfl #[.agg #[.int .i64 t221, .int .i64 t222, .int .u64 t223, .string t224], .agg #[.int .i64 t225, .int .i64 t226, .int .u64 t227, .string t228]] (by rfl) rfl rfl (by (try simp only [List.map_toArray, List.map_cons, List.map_nil]); first | done | rfl | (simp only [List.length_drop, List.length_take]; rfl)) ?_
          with_reducible refine (boscageref03_Less.calls k t221 t222 t223 t224 t225 t226 t227 t228 t229 _ A12.out).mono ?_
          rintro e w35 ⟨rfl, hb⟩
          refine ⟨_, rfl, ?_⟩
          have m0 := am_ (blk_below (g := g8) (o := .cells #[.int .i64 a0_0, .int .i64 a0_1, .int .u64 a0_2, .string a0_3] 24 (0, 0)) (by (with_reducible repeat (first | refine blk_drewN ?_ _ | refine blk_drew ?_ | refine blk_alloc ?_ _)); exact K8.out) hb)
          have m1 := am_ (blk_below (g := g9) (o := .cells #[.int .i64 a1_0, .int .i64 a1_1, .int .u64 a1_2, .string a1_3] 24 (0, 0)) (by (with_reducible repeat (first | refine blk_drewN ?_ _ | refine blk_drew ?_ | refine blk_alloc ?_ _)); exact K9.out) hb)
          have m2 := am_ (below_step (by repeat (first | (with_reducible first | exact HB.out | apply below_alloc | apply pw_below_drewN | apply below_drew1 | refine below_set ?_ G8.out | refine below_set ?_ G9.out) | exact HB.out)) hb)
          clear K8
          clear K9
          clear HB
          have K8 := m0
          have K9 := m1
          have HB := m2
          clear m0 m1 m2
          (try clear hb)
          (try clear hb2)
          (try clear hk)
          (try clear hi)
          refine hK.out _ _ ⟨(bc_ K8.out 0).trans rfl, (bc_ K8.out 1).trans rfl, (bc_ K8.out 2).trans rfl, (bc_ K8.out 3).trans rfl, (bc_ K9.out 0).trans rfl, (bc_ K9.out 1).trans rfl, (bc_ K9.out 2).trans rfl, (bc_ K9.out 3).trans rfl⟩ (fun hL => ?_)
          clear hK K
          refine norm_ (a' := ?_) ?_ ?_
          rotate_left
          · show Act.put _ (some 32) _ = _
            simp only [Act.put, sa_, sz_, ss_, i64_w, i32_w]
            rfl
          refine pure_ (i := 6) (N := some 33) (v := ?_) (a' := ?_) #[true, true, true, true, true, true, true, false, false, false, false, false, false, false, false, false, false, false, false, false, false, false, false, false, false, false] rfl rfl (any_of HT_.out (by kernel_rfl)) (fun _ _ _ h => h) (Or.inl ⟨by rfl, ?_⟩) ?_ ?_
          rotate_left
          · intro w'
            go_simp
            with_reducible rfl
          rotate_left
          · simp only [Act.put, sa_, sz_, ss_, i64_w, i32_w]
            rfl
          refine pure_ (i := 7) (N := some 34) (v := ?_) (a' := ?_) #[true, true, true, true, true, true, true, true, false, false, false, false, false, false, false, false, false, false, false, false, false, false, false, false, false, false] rfl rfl (any_of HT_.out (by kernel_rfl)) (fun _ _ _ h => h) (Or.inl ⟨by rfl, ?_⟩) ?_ ?_
          rotate_left
          · intro w'
            go_simp
            with_reducible rfl
          rotate_left
          · simp only [Act.put, sa_, sz_, ss_, i64_w, i32_w]
            rfl
          refine pure_ (i := 8) (N := some 35) (v := ?_) (a' := ?_) #[true, true, true, true, true, true, true, true, true, false, false, false, false, false, false, false, false, false, false, false, false, false, false, false, false, false] rfl rfl (any_of HT_.out (by kernel_rfl)) (fun _ _ _ h => h) (Or.inl ⟨by rfl, ?_⟩) ?_ ?_
          rotate_left
          · intro w'
            go_simp
            with_reducible rfl
          rotate_left
          · simp only [Act.put, sa_, sz_, ss_, i64_w, i32_w]
            rfl
          refine pure_ (i := 9) (N := some 36) (v := ?_) (a' := ?_) #[true, true, true, true, true, true, true, true, true, true, false, false, false, false, false, false, false, false, false, false, false, false, false, false, false, false] rfl rfl (any_of HT_.out (by kernel_rfl)) (fun _ _ _ h => h) (Or.inl ⟨by rfl, ?_⟩) ?_ ?_
          rotate_left
          · intro w'
            go_simp
            with_reducible rfl
          rotate_left
          · simp only [Act.put, sa_, sz_, ss_, i64_w, i32_w]
            rfl
          refine pure_ (i := 10) (N := some 37) (v := ?_) (a' := ?_) #[true, true, true, true, true, true, true, true, true, true, true, false, false, false, false, false, false, false, false, false, false, false, false, false, false, false] rfl rfl (any_of HT_.out (by kernel_rfl)) (fun _ _ _ h => h) (Or.inl ⟨by rfl, ?_⟩) ?_ ?_
          rotate_left
          · intro w'
            go_simp
            with_reducible rfl
          rotate_left
          · simp only [Act.put, sa_, sz_, ss_, i64_w, i32_w]
            rfl
          refine pure_ (i := 11) (N := some 38) (v := ?_) (a' := ?_) #[true, true, true, true, true, true, true, true, true, true, true, true, false, false, false, false, false, false, false, false, false, false, false, false, false, false] rfl rfl (any_of HT_.out (by kernel_rfl)) (fun _ _ _ h => h) (Or.inl ⟨by rfl, ?_⟩) ?_ ?_
          rotate_left
          · intro w'
            go_simp
            with_reducible rfl
          rotate_left
          · simp only [Act.put, sa_, sz_, ss_, i64_w, i32_w]
            rfl
          refine pure_ (i := 12) (N := some 39) (v := ?_) (a' := ?_) #[true, true, true, true, true, true, true, true, true, true, true, true, true, false, false, false, false, false, false, false, false, false, false, false, false, false] rfl rfl (any_of HT_.out (by kernel_rfl)) (fun _ _ _ h => h) (Or.inl ⟨by rfl, ?_⟩) ?_ ?_
          rotate_left
          · intro w'
            go_simp
            with_reducible rfl
          rotate_left
          · simp only [Act.put, sa_, sz_, ss_, i64_w, i32_w]
            rfl
          refine pure_ (i := 13) (N := some 40) (v := ?_) (a' := ?_) #[true, true, true, true, true, true, true, true, true, true, true, true, true, true, false, false, false, false, false, false, false, false, false, false, false, false] rfl rfl (any_of HT_.out (by kernel_rfl)) (fun _ _ _ h => h) (Or.inl ⟨by rfl, ?_⟩) ?_ ?_
          rotate_left
          · intro w'
            go_simp
            with_reducible rfl
          rotate_left
          · simp only [Act.put, sa_, sz_, ss_, i64_w, i32_w]
            rfl
          refine pure_ (i := 14) (N := some 41) (v := ?_) (a' := ?_) #[true, true, true, true, true, true, true, true, true, true, true, true, true, true, true, false, false, false, false, false, false, false, false, false, false, false] rfl rfl (any_of HT_.out (by kernel_rfl)) (fun _ _ _ h => h) (Or.inl ⟨by rfl, ?_⟩) ?_ ?_
          rotate_left
          · intro w'
            go_simp
            with_reducible rfl
          rotate_left
          · simp only [Act.put, sa_, sz_, ss_, i64_w, i32_w]
            rfl
          refine pure_ (i := 15) (N := some 42) (v := ?_) (a' := ?_) #[true, true, true, true, true, true, true, true, true, true, true, true, true, true, true, true, false, false, false, false, false, false, false, false, false, false] rfl rfl (any_of HT_.out (by kernel_rfl)) (fun _ _ _ h => h) (Or.inl ⟨by rfl, ?_⟩) ?_ ?_
          rotate_left
          · intro w'
            go_simp
            with_reducible rfl
          rotate_left
          · simp only [Act.put, sa_, sz_, ss_, i64_w, i32_w]
            rfl
          refine pure_ (i := 16) (N := some 43) (v := ?_) (a' := ?_) #[true, true, true, true, true, true, true, true, true, true, true, true, true, true, true, true, true, false, false, false, false, false, false, false, false, false] rfl rfl (any_of HT_.out (by kernel_rfl)) (fun _ _ _ h => h) (Or.inl ⟨by rfl, ?_⟩) ?_ ?_
          rotate_left
          · intro w'
            go_simp
            with_reducible rfl
          rotate_left
          · simp only [Act.put, sa_, sz_, ss_, i64_w, i32_w]
            rfl
          refine pure_ (i := 17) (N := some 44) (v := ?_) (a' := ?_) #[true, true, true, true, true, true, true, true, true, true, true, true, true, true, true, true, true, true, false, false, false, false, false, false, false, false] rfl rfl (any_of HT_.out (by kernel_rfl)) (fun _ _ _ h => h) (Or.inl ⟨by rfl, ?_⟩) ?_ ?_
          rotate_left
          · intro w'
            go_simp
            with_reducible rfl
          rotate_left
          · simp only [Act.put, sa_, sz_, ss_, i64_w, i32_w]
            rfl
          refine one_ (i := 18) (N := some 45) #[true, true, true, true, true, true, true, true, true, true, true, true, true, true, true, true, true, true, true, false, false, false, false, false, false, false] rfl rfl (one_of HT_.out (by kernel_rfl)) (by decide) (fun K hK => ?_)
          refine goes_ Try.func19 (by kernel_rfl) rfl #[.string t204, .string t210] (by rfl) rfl rfl (by (try simp only [List.map_toArray, List.map_cons, List.map_nil]); first | done | rfl | (simp only [List.length_drop, List.length_take]; rfl)) ?_
          with_reducible refine (boscageref01_Less.calls k t204 t210 t230 _ A16.out).mono ?_
          rintro e w' ⟨rfl, ⟨nd, rfl⟩⟩
          refine ⟨_, rfl, ?_⟩
          refine hK.out _ _ ⟨(bc_ K8.out 0).trans rfl, (bc_ K8.out 1).trans rfl, (bc_ K8.out 2).trans rfl, (bc_ K8.out 3).trans rfl, (bc_ K9.out 0).trans rfl, (bc_ K9.out 1).trans rfl, (bc_ K9.out 2).trans rfl, (bc_ K9.out 3).trans rfl⟩ (fun hL => ?_)
          clear hK K
          refine norm_ (a' := ?_) ?_ ?_
          rotate_left
          · show Act.put _ (some 45) _ = _
            simp only [Act.put, sa_, sz_, ss_, i64_w, i32_w]
            rfl
          refine pure_ (i := 19) (N := some 46) (v := ?_) (a' := ?_) #[true, true, true, true, true, true, true, true, true, true, true, true, true, true, true, true, true, true, true, true, false, false, false, false, false, false] rfl rfl (any_of HT_.out (by kernel_rfl)) (fun _ _ _ h => h) (Or.inl ⟨by rfl, ?_⟩) ?_ ?_
          rotate_left
          · intro w'
            go_simp
            with_reducible rfl
          rotate_left
          · simp only [Act.put, sa_, sz_, ss_, i64_w, i32_w]
            rfl
          refine pure_ (i := 20) (N := some 47) (v := ?_) (a' := ?_) #[true, true, true, true, true, true, true, true, true, true, true, true, true, true, true, true, true, true, true, true, true, false, false, false, false, false] rfl rfl (any_of HT_.out (by kernel_rfl)) (fun _ _ _ h => h) (Or.inl ⟨by rfl, ?_⟩) ?_ ?_
          rotate_left
          · intro w'
            go_simp
            with_reducible rfl
          rotate_left
          · simp only [Act.put, sa_, sz_, ss_, i64_w, i32_w]
            rfl
          refine pure_ (i := 21) (N := some 48) (v := ?_) (a' := ?_) #[true, true, true, true, true, true, true, true, true, true, true, true, true, true, true, true, true, true, true, true, true, true, false, false, false, false] rfl rfl (any_of HT_.out (by kernel_rfl)) (fun _ _ _ h => h) (Or.inl ⟨by rfl, ?_⟩) ?_ ?_
          rotate_left
          · intro w'
            go_simp
            with_reducible rfl
          rotate_left
          · simp only [Act.put, sa_, sz_, ss_, i64_w, i32_w]
            rfl
          refine pure_ (i := 22) (N := some 49) (v := ?_) (a' := ?_) #[true, true, true, true, true, true, true, true, true, true, true, true, true, true, true, true, true, true, true, true, true, true, true, false, false, false] rfl rfl (any_of HT_.out (by kernel_rfl)) (fun _ _ _ h => h) (Or.inl ⟨by rfl, ?_⟩) ?_ ?_
          rotate_left
          · intro w'
            go_simp
            with_reducible rfl
          rotate_left
          · simp only [Act.put, sa_, sz_, ss_, i64_w, i32_w]
            rfl
          refine one_ (i := 23) (N := some 50) #[true, true, true, true, true, true, true, true, true, true, true, true, true, true, true, true, true, true, true, true, true, true, true, true, false, false] rfl rfl (one_of HT_.out (by kernel_rfl)) (by decide) (fun K hK => ?_)
          refine goes_ Try.func11 (by kernel_rfl) rfl #[] (by rfl) rfl rfl (by (try simp only [List.map_toArray, List.map_cons, List.map_nil]); first | done | rfl | (simp only [List.length_drop, List.length_take]; rfl)) ?_
          with_reducible refine (boscagelaw03_works.calls k  t231 _ A18.out).mono ?_
          rintro e w36 ⟨rfl, hb⟩
          refine ⟨_, rfl, ?_⟩
          have m0 := am_ (blk_below (g := g8) (o := .cells #[.int .i64 a0_0, .int .i64 a0_1, .int .u64 a0_2, .string a0_3] 24 (0, 0)) (by (with_reducible repeat (first | refine blk_drewN ?_ _ | refine blk_drew ?_ | refine blk_alloc ?_ _)); exact K8.out) hb)
          have m1 := am_ (blk_below (g := g9) (o := .cells #[.int .i64 a1_0, .int .i64 a1_1, .int .u64 a1_2, .string a1_3] 24 (0, 0)) (by (with_reducible repeat (first | refine blk_drewN ?_ _ | refine blk_drew ?_ | refine blk_alloc ?_ _)); exact K9.out) hb)
          have m2 := am_ (below_step (by repeat (first | (with_reducible first | exact HB.out | apply below_alloc | apply pw_below_drewN | apply below_drew1 | refine below_set ?_ G8.out | refine below_set ?_ G9.out) | exact HB.out)) hb)
          clear K8
          clear K9
          clear HB
          have K8 := m0
          have K9 := m1
          have HB := m2
          clear m0 m1 m2
          (try clear hb)
          (try clear hb2)
          (try clear hk)
          (try clear hi)
          refine hK.out _ _ ⟨(bc_ K8.out 0).trans rfl, (bc_ K8.out 1).trans rfl, (bc_ K8.out 2).trans rfl, (bc_ K8.out 3).trans rfl, (bc_ K9.out 0).trans rfl, (bc_ K9.out 1).trans rfl, (bc_ K9.out 2).trans rfl, (bc_ K9.out 3).trans rfl⟩ (fun hL => ?_)
          clear hK K
          refine norm_ (a' := ?_) ?_ ?_
          rotate_left
          · show Act.put _ (some 50) _ = _
            simp only [Act.put, sa_, sz_, ss_, i64_w, i32_w]
            rfl
          refine pure_ (i := 24) (N := some 51) (v := ?_) (a' := ?_) #[true, true, true, true, true, true, true, true, true, true, true, true, true, true, true, true, true, true, true, true, true, true, true, true, true, false] rfl rfl (any_of HT_.out (by kernel_rfl)) (fun _ _ _ h => h) (Or.inl ⟨by rfl, ?_⟩) ?_ ?_
          rotate_left
          · intro w'
            go_simp
            with_reducible rfl
          rotate_left
          · simp only [Act.put, sa_, sz_, ss_, i64_w, i32_w]
            rfl
          refine pure_ (i := 25) (N := some 4) (v := ?_) (a' := ?_) #[true, true, true, true, true, true, true, true, true, true, true, true, true, true, true, true, true, true, true, true, true, true, true, true, true, true] rfl rfl (any_of HT_.out (by kernel_rfl)) (fun _ _ _ h => h) (Or.inl ⟨by rfl, ?_⟩) ?_ ?_
          rotate_left
          · intro w'
            go_simp
            with_reducible rfl
          rotate_left
          · simp only [Act.put, sa_, sz_, ss_, i64_w, i32_w]
            rfl
          refine done_ (done_of HT_.out (by kernel_rfl)) ?_
          try go_wp2
          go_ret
          exact ⟨by first | rfl | (simp [errW_none, errW_some] <;> rfl) | (simp [*, errW_none, errW_some] <;> rfl), by repeat (first | (with_reducible first | exact HB.out | apply below_alloc | apply pw_below_drewN | apply below_drew1 | refine below_set ?_ G8.out | refine below_set ?_ G9.out) | exact HB.out)⟩
        · rw [if_neg c17] at H
          have c17b0 : (t220 == t230) = false := by simpa using c17
          (try (have c17b1 : decide (t220 = t230) = false := by simpa using c17))
          (try (have c17b2 : (t220 == t230) = false := by simpa using c17))
          (try (have c17b3 : ¬ (t220 = t230) := by simpa using c17))
          clear c17
          obtain rfl := Option.some.inj H
          go_enter Try.func6, Try.ntmps6
          try go_wp2_with (first | ((with_reducible refine gate_dst (N := 2) rfl ?_); refine box_event ?hg (N := 2) ?hd (cs := #[.int .i64 a0_0, .int .i64 a0_1, .int .u64 a0_2, .string a0_3]) (t := 24) ?hr ?_; (case hd => rfl); (case hg => rfl); (case hr => first | (go_simp; done) | (go_simp; rfl)); intro g8 hg w37 hbox hb; have m0 := am_ (below_step (by repeat (first | (with_reducible first | exact HB.out | apply below_alloc | apply pw_below_drewN | apply below_drew1) | exact HB.out)) hb); have m1 := am_ (hbox); have m2 := am_ ((by rw [hg]; exact (below_size (by repeat (first | (with_reducible first | exact HB.out | apply below_alloc | apply pw_below_drewN | apply below_drew1) | exact HB.out))) : w.heap.size ≤ g8)); have n3_ := am_ ((by rw [hg]; exact (below_size (by repeat (first | (with_reducible first | exact HB.out | apply below_alloc | apply pw_below_drewN | apply below_drew1) | exact HB.out))) : w.heap.size ≤ g8)); clear HB; have HB := m0; have K8 := m1; have GW198 := m2; have G8 := n3_; clear m0 m1 m2 n3_; clear hb hbox hg) | ((with_reducible refine gate_dst (N := 3) rfl ?_); refine box_event ?hg (N := 3) ?hd (cs := #[.int .i64 a1_0, .int .i64 a1_1, .int .u64 a1_2, .string a1_3]) (t := 24) ?hr ?_; (case hd => rfl); (case hg => rfl); (case hr => first | (go_simp; done) | (go_simp; rfl)); intro g9 hg w38 hbox hb; have m0 := am_ (blk_below (g := g8) (o := .cells #[.int .i64 a0_0, .int .i64 a0_1, .int .u64 a0_2, .string a0_3] 24 (0, 0)) (by (with_reducible repeat (first | refine blk_drewN ?_ _ | refine blk_drew ?_ | refine blk_alloc ?_ _)); exact K8.out) hb); have m1 := am_ (below_step (by repeat (first | (with_reducible first | exact HB.out | apply below_alloc | apply pw_below_drewN | apply below_drew1 | refine below_set ?_ G8.out) | exact HB.out)) hb); have m2 := am_ (hbox); have n3_ := am_ ((by rw [hg]; exact (below_size (by repeat (first | (with_reducible first | exact HB.out | apply below_alloc | apply pw_below_drewN | apply below_drew1 | refine below_set ?_ G8.out) | exact HB.out))) : w.heap.size ≤ g9)); have n4_ := am_ ((by rw [hg]; exact (below_size (by repeat (first | (with_reducible first | exact HB.out | apply below_alloc | apply pw_below_drewN | apply below_drew1 | refine below_set ?_ G8.out) | exact HB.out))) : w.heap.size ≤ g9)); have n5_ := am_ ((by rw [hg]; exact Nat.ne_of_lt (blk_lt (g := g8) (o := .cells #[.int .i64 a0_0, .int .i64 a0_1, .int .u64 a0_2, .string a0_3] 24 (0, 0)) (by (with_reducible repeat (first | refine blk_drewN ?_ _ | refine blk_drew ?_ | refine blk_alloc ?_ _)); exact K8.out)) : g8 ≠ g9)); have n6_ := am_ ((by rw [hg]; exact Nat.ne_of_gt (blk_lt (g := g8) (o := .cells #[.int .i64 a0_0, .int .i64 a0_1, .int .u64 a0_2, .string a0_3] 24 (0, 0)) (by (with_reducible repeat (first | refine blk_drewN ?_ _ | refine blk_drew ?_ | refine blk_alloc ?_ _)); exact K8.out)) : g9 ≠ g8)); clear K8; clear HB; have K8 := m0; have HB := m1; have K9 := m2; have GW199 := n3_; have G9 := n4_; have NB198_199 := n5_; have NB199_198 := n6_; clear m0 m1 m2 n3_ n4_ n5_ n6_; clear hb hbox hg; have hnb39 := NB198_199.out; have hnc39 := NB199_198.out; have hcz40_0 : w38.cell? ⟨g8, 0, none⟩ = some (.int .i64 a0_0) := (bc_ K8.out 0).trans rfl; have hcz40_1 : w38.cell? ⟨g8, 1, none⟩ = some (.int .i64 a0_1) := (bc_ K8.out 1).trans rfl; have hcz40_2 : w38.cell? ⟨g8, 2, none⟩ = some (.int .u64 a0_2) := (bc_ K8.out 2).trans rfl; have hcz40_3 : w38.cell? ⟨g8, 3, none⟩ = some (.string a0_3) := (bc_ K8.out 3).trans rfl; have hfz40_0 := blk_frozen K8.out 0; have hfz40_1 := blk_frozen K8.out 1; have hfz40_2 := blk_frozen K8.out 2; have hfz40_3 := blk_frozen K8.out 3) | ((with_reducible refine gate_callee (f := 8) rfl ?_); refine goesL_ (some 12) rfl rfl Try.func8 (by kernel_rfl) rfl #[.agg #[.int .i64 a0_0, .int .i64 a0_1, .int .u64 a0_2, .string a0_3]] rfl (by (try simp only [List.map_toArray, List.map_cons, List.map_nil]); first | done | rfl | (simp only [List.length_drop, List.length_take]; rfl)) ?_; (with_reducible refine (boscagelaw03_Give.calls a0_0 a0_1 a0_2 a0_3 t200 t201 t202 t203 _ A3.out).mono ?_); rintro e w41 ⟨rfl, hb⟩; refine ⟨_, rfl, ?_⟩; have m0 := am_ (blk_below (g := g8) (o := .cells #[.int .i64 a0_0, .int .i64 a0_1, .int .u64 a0_2, .string a0_3] 24 (0, 0)) (by (with_reducible repeat (first | refine blk_drewN ?_ _ | refine blk_drew ?_ | refine blk_alloc ?_ _)); exact K8.out) hb); have m1 := am_ (blk_below (g := g9) (o := .cells #[.int .i64 a1_0, .int .i64 a1_1, .int .u64 a1_2, .string a1_3] 24 (0, 0)) (by (with_reducible repeat (first | refine blk_drewN ?_ _ | refine blk_drew ?_ | refine blk_alloc ?_ _)); exact K9.out) hb); have m2 := am_ (below_step (by repeat (first | (with_reducible first | exact HB.out | apply below_alloc | apply pw_below_drewN | apply below_drew1 | refine below_set ?_ G8.out | refine below_set ?_ G9.out) | exact HB.out)) hb); clear K8; clear K9; clear HB; have K8 := m0; have K9 := m1; have HB := m2; clear m0 m1 m2; (try clear hb); (try clear hb2); (try clear hk); (try clear hi)) | ((with_reducible refine gate_callee (f := 7) rfl ?_); refine goesL_ (some 13) rfl rfl Try.func7 (by kernel_rfl) rfl #[.agg #[.int .i64 t200, .int .i64 t201, .int .u64 t202, .string t203]] rfl (by (try simp only [List.map_toArray, List.map_cons, List.map_nil]); first | done | rfl | (simp only [List.length_drop, List.length_take]; rfl)) ?_; (with_reducible refine (code_Make.calls t200 t201 t202 t203 t204 t205 _ A4.out).mono ?_); rintro e w42 ⟨rfl, hb⟩; refine ⟨_, rfl, ?_⟩; have m0 := am_ (blk_below (g := g8) (o := .cells #[.int .i64 a0_0, .int .i64 a0_1, .int .u64 a0_2, .string a0_3] 24 (0, 0)) (by (with_reducible repeat (first | refine blk_drewN ?_ _ | refine blk_drew ?_ | refine blk_alloc ?_ _)); exact K8.out) hb); have m1 := am_ (blk_below (g := g9) (o := .cells #[.int .i64 a1_0, .int .i64 a1_1, .int .u64 a1_2, .string a1_3] 24 (0, 0)) (by (with_reducible repeat (first | refine blk_drewN ?_ _ | refine blk_drew ?_ | refine blk_alloc ?_ _)); exact K9.out) hb); have m2 := am_ (below_step (by repeat (first | (with_reducible first | exact HB.out | apply below_alloc | apply pw_below_drewN | apply below_drew1 | refine below_set ?_ G8.out | refine below_set ?_ G9.out) | exact HB.out)) hb); clear K8; clear K9; clear HB; have K8 := m0; have K9 := m1; have HB := m2; clear m0 m1 m2; (try clear hb); (try clear hb2); (try clear hk); (try clear hi); have hcz43_0 : w42.cell? ⟨g9, 0, none⟩ = some (.int .i64 a1_0) := (bc_ K9.out 0).trans rfl; have hcz43_1 : w42.cell? ⟨g9, 1, none⟩ = some (.int .i64 a1_1) := (bc_ K9.out 1).trans rfl; have hcz43_2 : w42.cell? ⟨g9, 2, none⟩ = some (.int .u64 a1_2) := (bc_ K9.out 2).trans rfl; have hcz43_3 : w42.cell? ⟨g9, 3, none⟩ = some (.string a1_3) := (bc_ K9.out 3).trans rfl; have hfz43_0 := blk_frozen K9.out 0; have hfz43_1 := blk_frozen K9.out 1; have hfz43_2 := blk_frozen K9.out 2; have hfz43_3 := blk_frozen K9.out 3) | ((with_reducible refine gate_callee (f := 8) rfl ?_); refine goesL_ (some 18) rfl rfl Try.func8 (by kernel_rfl) rfl #[.agg #[.int .i64 a1_0, .int .i64 a1_1, .int .u64 a1_2, .string a1_3]] rfl (by (try simp only [List.map_toArray, List.map_cons, List.map_nil]); first | done | rfl | (simp only [List.length_drop, List.length_take]; rfl)) ?_; (with_reducible refine (boscagelaw03_Give.calls a1_0 a1_1 a1_2 a1_3 t206 t207 t208 t209 _ A5.out).mono ?_); rintro e w44 ⟨rfl, hb⟩; refine ⟨_, rfl, ?_⟩; have m0 := am_ (blk_below (g := g8) (o := .cells #[.int .i64 a0_0, .int .i64 a0_1, .int .u64 a0_2, .string a0_3] 24 (0, 0)) (by (with_reducible repeat (first | refine blk_drewN ?_ _ | refine blk_drew ?_ | refine blk_alloc ?_ _)); exact K8.out) hb); have m1 := am_ (blk_below (g := g9) (o := .cells #[.int .i64 a1_0, .int .i64 a1_1, .int .u64 a1_2, .string a1_3] 24 (0, 0)) (by (with_reducible repeat (first | refine blk_drewN ?_ _ | refine blk_drew ?_ | refine blk_alloc ?_ _)); exact K9.out) hb); have m2 := am_ (below_step (by repeat (first | (with_reducible first | exact HB.out | apply below_alloc | apply pw_below_drewN | apply below_drew1 | refine below_set ?_ G8.out | refine below_set ?_ G9.out) | exact HB.out)) hb); clear K8; clear K9; clear HB; have K8 := m0; have K9 := m1; have HB := m2; clear m0 m1 m2; (try clear hb); (try clear hb2); (try clear hk); (try clear hi)) | ((with_reducible refine gate_callee (f := 7) rfl ?_); refine goesL_ (some 19) rfl rfl Try.func7 (by kernel_rfl) rfl #[.agg #[.int .i64 t206, .int .i64 t207, .int .u64 t208, .string t209]] rfl (by (try simp only [List.map_toArray, List.map_cons, List.map_nil]); first | done | rfl | (simp only [List.length_drop, List.length_take]; rfl)) ?_; (with_reducible refine (code_Make.calls t206 t207 t208 t209 t210 t211 _ A6.out).mono ?_); rintro e w45 ⟨rfl, hb⟩; refine ⟨_, rfl, ?_⟩; have m0 := am_ (blk_below (g := g8) (o := .cells #[.int .i64 a0_0, .int .i64 a0_1, .int .u64 a0_2, .string a0_3] 24 (0, 0)) (by (with_reducible repeat (first | refine blk_drewN ?_ _ | refine blk_drew ?_ | refine blk_alloc ?_ _)); exact K8.out) hb); have m1 := am_ (blk_below (g := g9) (o := .cells #[.int .i64 a1_0, .int .i64 a1_1, .int .u64 a1_2, .string a1_3] 24 (0, 0)) (by (with_reducible repeat (first | refine blk_drewN ?_ _ | refine blk_drew ?_ | refine blk_alloc ?_ _)); exact K9.out) hb); have m2 := am_ (below_step (by repeat (first | (with_reducible first | exact HB.out | apply below_alloc | apply pw_below_drewN | apply below_drew1 | refine below_set ?_ G8.out | refine below_set ?_ G9.out) | exact HB.out)) hb); clear K8; clear K9; clear HB; have K8 := m0; have K9 := m1; have HB := m2; clear m0 m1 m2; (try clear hb); (try clear hb2); (try clear hk); (try clear hi)))
          have m0 := am_ (blk_drew K8.out)
          have m1 := am_ (blk_drew K9.out)
          have m2 := am_ (below_drew1 HB.out)
          clear K8
          clear K9
          clear HB
          have K8 := m0
          have K9 := m1
          have HB := m2
          clear m0 m1 m2
          refine start_ (n := 6) (S := fun w' => w'.cell? ⟨g8, 0, none⟩ = some (.int .i64 a0_0) ∧ w'.cell? ⟨g8, 1, none⟩ = some (.int .i64 a0_1) ∧ w'.cell? ⟨g8, 2, none⟩ = some (.int .u64 a0_2) ∧ w'.cell? ⟨g8, 3, none⟩ = some (.string a0_3) ∧ w'.cell? ⟨g9, 0, none⟩ = some (.int .i64 a1_0) ∧ w'.cell? ⟨g9, 1, none⟩ = some (.int .i64 a1_1) ∧ w'.cell? ⟨g9, 2, none⟩ = some (.int .u64 a1_2) ∧ w'.cell? ⟨g9, 3, none⟩ = some (.string a1_3)) (ds := []) #[false, false, false, false, false, false] (by kernel_rfl) rfl rfl ⟨(bc_ K8.out 0).trans rfl, (bc_ K8.out 1).trans rfl, (bc_ K8.out 2).trans rfl, (bc_ K8.out 3).trans rfl, (bc_ K9.out 0).trans rfl, (bc_ K9.out 1).trans rfl, (bc_ K9.out 2).trans rfl, (bc_ K9.out 3).trans rfl⟩ (fun hL => ?_)
          generalize w45.drew = w46 at K8 K9 HB hL ⊢
          refine take_ (i := 0) (N := some 22) (v := ?_) (a' := ?_) #[true, false, false, false, false, false] rfl rfl (by kernel_rfl) (fun _ _ _ h => h) (Or.inl ⟨by rfl, ?_⟩) hL ?_ ?_
          rotate_left
          · rintro w' ⟨s0, s1, s2, s3, s4, s5, s6, s7⟩
            go_simp
            with_reducible rfl
          rotate_left
          · simp only [Act.put, sa_, sz_, ss_, i64_w, i32_w]
            rfl
          refine take_ (i := 2) (N := some 24) (v := ?_) (a' := ?_) #[true, false, true, false, false, false] rfl rfl (by kernel_rfl) (fun _ _ _ h => h) (Or.inl ⟨by rfl, ?_⟩) hL ?_ ?_
          rotate_left
          · rintro w' ⟨s0, s1, s2, s3, s4, s5, s6, s7⟩
            go_simp
            with_reducible rfl
          rotate_left
          · simp only [Act.put, sa_, sz_, ss_, i64_w, i32_w]
            rfl
          refine one_ (i := 1) (N := some 23) #[true, true, true, false, false, false] rfl rfl (by kernel_rfl) (by decide) (fun K hK => ?_)
          refine goes_ Try.func8 (by kernel_rfl) rfl #[.agg #[.int .i64 a0_0, .int .i64 a0_1, .int .u64 a0_2, .string a0_3]] (by rfl) rfl rfl (by (try simp only [List.map_toArray, List.map_cons, List.map_nil]); first | done | rfl | (simp only [List.length_drop, List.length_take]; rfl)) ?_
          with_reducible refine (boscagelaw03_Give.calls a0_0 a0_1 a0_2 a0_3 t212 t213 t214 t215 _ A7.out).mono ?_
          rintro e w47 ⟨rfl, hb⟩
          refine ⟨_, rfl, ?_⟩
          have m0 := am_ (blk_below (g := g8) (o := .cells #[.int .i64 a0_0, .int .i64 a0_1, .int .u64 a0_2, .string a0_3] 24 (0, 0)) (by (with_reducible repeat (first | refine blk_drewN ?_ _ | refine blk_drew ?_ | refine blk_alloc ?_ _)); exact K8.out) hb)
          have m1 := am_ (blk_below (g := g9) (o := .cells #[.int .i64 a1_0, .int .i64 a1_1, .int .u64 a1_2, .string a1_3] 24 (0, 0)) (by (with_reducible repeat (first | refine blk_drewN ?_ _ | refine blk_drew ?_ | refine blk_alloc ?_ _)); exact K9.out) hb)
          have m2 := am_ (below_step (by repeat (first | (with_reducible first | exact HB.out | apply below_alloc | apply pw_below_drewN | apply below_drew1 | refine below_set ?_ G8.out | refine below_set ?_ G9.out) | exact HB.out)) hb)
          clear K8
          clear K9
          clear HB
          have K8 := m0
          have K9 := m1
          have HB := m2
          clear m0 m1 m2
          (try clear hb)
          (try clear hb2)
          (try clear hk)
          (try clear hi)
          refine hK.out _ _ ⟨(bc_ K8.out 0).trans rfl, (bc_ K8.out 1).trans rfl, (bc_ K8.out 2).trans rfl, (bc_ K8.out 3).trans rfl, (bc_ K9.out 0).trans rfl, (bc_ K9.out 1).trans rfl, (bc_ K9.out 2).trans rfl, (bc_ K9.out 3).trans rfl⟩ (fun hL => ?_)
          clear hK K
          refine norm_ (a' := ?_) ?_ ?_
          rotate_left
          · show Act.put _ (some 23) _ = _
            simp only [Act.put, sa_, sz_, ss_, i64_w, i32_w]
            rfl
          refine one_ (i := 3) (N := some 25) #[true, true, true, true, false, false] rfl rfl (by kernel_rfl) (by decide) (fun K hK => ?_)
          refine goes_ Try.func8 (by kernel_rfl) rfl #[.agg #[.int .i64 a1_0, .int .i64 a1_1, .int .u64 a1_2, .string a1_3]] (by rfl) rfl rfl (by (try simp only [List.map_toArray, List.map_cons, List.map_nil]); first | done | rfl | (simp only [List.length_drop, List.length_take]; rfl)) ?_
          with_reducible refine (boscagelaw03_Give.calls a1_0 a1_1 a1_2 a1_3 t216 t217 t218 t219 _ A8.out).mono ?_
          rintro e w48 ⟨rfl, hb⟩
          refine ⟨_, rfl, ?_⟩
          have m0 := am_ (blk_below (g := g8) (o := .cells #[.int .i64 a0_0, .int .i64 a0_1, .int .u64 a0_2, .string a0_3] 24 (0, 0)) (by (with_reducible repeat (first | refine blk_drewN ?_ _ | refine blk_drew ?_ | refine blk_alloc ?_ _)); exact K8.out) hb)
          have m1 := am_ (blk_below (g := g9) (o := .cells #[.int .i64 a1_0, .int .i64 a1_1, .int .u64 a1_2, .string a1_3] 24 (0, 0)) (by (with_reducible repeat (first | refine blk_drewN ?_ _ | refine blk_drew ?_ | refine blk_alloc ?_ _)); exact K9.out) hb)
          have m2 := am_ (below_step (by repeat (first | (with_reducible first | exact HB.out | apply below_alloc | apply pw_below_drewN | apply below_drew1 | refine below_set ?_ G8.out | refine below_set ?_ G9.out) | exact HB.out)) hb)
          clear K8
          clear K9
          clear HB
          have K8 := m0
          have K9 := m1
          have HB := m2
          clear m0 m1 m2
          (try clear hb)
          (try clear hb2)
          (try clear hk)
          (try clear hi)
          refine hK.out _ _ ⟨(bc_ K8.out 0).trans rfl, (bc_ K8.out 1).trans rfl, (bc_ K8.out 2).trans rfl, (bc_ K8.out 3).trans rfl, (bc_ K9.out 0).trans rfl, (bc_ K9.out 1).trans rfl, (bc_ K9.out 2).trans rfl, (bc_ K9.out 3).trans rfl⟩ (fun hL => ?_)
          clear hK K
          refine norm_ (a' := ?_) ?_ ?_
          rotate_left
          · show Act.put _ (some 25) _ = _
            simp only [Act.put, sa_, sz_, ss_, i64_w, i32_w]
            rfl
          refine one_ (i := 4) (N := some 26) #[true, true, true, true, true, false] rfl rfl (by kernel_rfl) (by decide) (fun K hK => ?_)
          refine goes_ Try.func17 (by kernel_rfl) rfl #[.agg #[.int .i64 t212, .int .i64 t213, .int .u64 t214, .string t215], .agg #[.int .i64 t216, .int .i64 t217, .int .u64 t218, .string t219]] (by rfl) rfl rfl (by (try simp only [List.map_toArray, List.map_cons, List.map_nil]); first | done | rfl | (simp only [List.length_drop, List.length_take]; rfl)) ?_
          with_reducible refine (code_Less.calls t212 t213 t214 t215 t216 t217 t218 t219 t220 _ A9.out).mono ?_
          rintro e w49 ⟨rfl, hb⟩
          refine ⟨_, rfl, ?_⟩
          have m0 := am_ (blk_below (g := g8) (o := .cells #[.int .i64 a0_0, .int .i64 a0_1, .int .u64 a0_2, .string a0_3] 24 (0, 0)) (by (with_reducible repeat (first | refine blk_drewN ?_ _ | refine blk_drew ?_ | refine blk_alloc ?_ _)); exact K8.out) hb)
          have m1 := am_ (blk_below (g := g9) (o := .cells #[.int .i64 a1_0, .int .i64 a1_1, .int .u64 a1_2, .string a1_3] 24 (0, 0)) (by (with_reducible repeat (first | refine blk_drewN ?_ _ | refine blk_drew ?_ | refine blk_alloc ?_ _)); exact K9.out) hb)
          have m2 := am_ (below_step (by repeat (first | (with_reducible first | exact HB.out | apply below_alloc | apply pw_below_drewN | apply below_drew1 | refine below_set ?_ G8.out | refine below_set ?_ G9.out) | exact HB.out)) hb)
          clear K8
          clear K9
          clear HB
          have K8 := m0
          have K9 := m1
          have HB := m2
          clear m0 m1 m2
          (try clear hb)
          (try clear hb2)
          (try clear hk)
          (try clear hi)
          refine hK.out _ _ ⟨(bc_ K8.out 0).trans rfl, (bc_ K8.out 1).trans rfl, (bc_ K8.out 2).trans rfl, (bc_ K8.out 3).trans rfl, (bc_ K9.out 0).trans rfl, (bc_ K9.out 1).trans rfl, (bc_ K9.out 2).trans rfl, (bc_ K9.out 3).trans rfl⟩ (fun hL => ?_)
          clear hK K
          refine norm_ (a' := ?_) ?_ ?_
          rotate_left
          · show Act.put _ (some 26) _ = _
            simp only [Act.put, sa_, sz_, ss_, i64_w, i32_w]
            rfl
          refine pure_ (i := 5) (N := some 9) (v := ?_) (a' := ?_) #[true, true, true, true, true, true] rfl rfl (by kernel_rfl) (fun _ _ _ h => h) (Or.inl ⟨by rfl, ?_⟩) ?_ ?_
          rotate_left
          · intro w'
            go_simp
            with_reducible rfl
          rotate_left
          · simp only [Act.put, sa_, sz_, ss_, i64_w, i32_w]
            rfl
          refine done_ (by kernel_rfl) ?_
          try go_wp2
          have m0 := am_ (blk_drew K8.out)
          have m1 := am_ (blk_drew K9.out)
          have m2 := am_ (below_drew1 HB.out)
          clear K8
          clear K9
          clear HB
          have K8 := m0
          have K9 := m1
          have HB := m2
          clear m0 m1 m2
          refine start_ (n := 26) (S := fun w' => w'.cell? ⟨g8, 0, none⟩ = some (.int .i64 a0_0) ∧ w'.cell? ⟨g8, 1, none⟩ = some (.int .i64 a0_1) ∧ w'.cell? ⟨g8, 2, none⟩ = some (.int .u64 a0_2) ∧ w'.cell? ⟨g8, 3, none⟩ = some (.string a0_3) ∧ w'.cell? ⟨g9, 0, none⟩ = some (.int .i64 a1_0) ∧ w'.cell? ⟨g9, 1, none⟩ = some (.int .i64 a1_1) ∧ w'.cell? ⟨g9, 2, none⟩ = some (.int .u64 a1_2) ∧ w'.cell? ⟨g9, 3, none⟩ = some (.string a1_3)) (ds := []) #[false, false, false, false, false, false, false, false, false, false, false, false, false, false, false, false, false, false, false, false, false, false, false, false, false, false] (by kernel_rfl) rfl rfl ⟨(bc_ K8.out 0).trans rfl, (bc_ K8.out 1).trans rfl, (bc_ K8.out 2).trans rfl, (bc_ K8.out 3).trans rfl, (bc_ K9.out 0).trans rfl, (bc_ K9.out 1).trans rfl, (bc_ K9.out 2).trans rfl, (bc_ K9.out 3).trans rfl⟩ (fun hL => ?_); refine with_tabW boscagelaw03_CodeOrders.tab4 boscagelaw03_CodeOrders.bits4 (fun HT_ HW_ => ?_)
          generalize w49.drew = w50 at K8 K9 HB hL ⊢
          refine pure_ (i := 0) (N := some 27) (v := ?_) (a' := ?_) #[true, false, false, false, false, false, false, false, false, false, false, false, false, false, false, false, false, false, false, false, false, false, false, false, false, false] rfl rfl (any_of HT_.out (by kernel_rfl)) (fun _ _ _ h => h) (Or.inl ⟨by rfl, ?_⟩) ?_ ?_
          rotate_left
          · intro w'
            go_simp
            with_reducible rfl
          rotate_left
          · simp only [Act.put, sa_, sz_, ss_, i64_w, i32_w]
            rfl
          refine take_ (i := 1) (N := some 28) (v := ?_) (a' := ?_) #[true, true, false, false, false, false, false, false, false, false, false, false, false, false, false, false, false, false, false, false, false, false, false, false, false, false] rfl rfl (take_ofW HT_.out HW_.out (by kernel_rfl)) (fun _ _ _ h => h) (Or.inl ⟨by rfl, ?_⟩) hL ?_ ?_
          rotate_left
          · rintro w' ⟨s0, s1, s2, s3, s4, s5, s6, s7⟩
            go_simp
            with_reducible rfl
          rotate_left
          · simp only [Act.put, sa_, sz_, ss_, i64_w, i32_w]
            rfl
          refine take_ (i := 3) (N := some 30) (v := ?_) (a' := ?_) #[true, true, false, true, false, false, false, false, false, false, false, false, false, false, false, false, false, false, false, false, false, false, false, false, false, false] rfl rfl (take_ofW HT_.out HW_.out (by kernel_rfl)) (fun _ _ _ h => h) (Or.inl ⟨by rfl, ?_⟩) hL ?_ ?_
          rotate_left
          · rintro w' ⟨s0, s1, s2, s3, s4, s5, s6, s7⟩
            go_simp
            with_reducible rfl
          rotate_left
          · simp only [Act.put, sa_, sz_, ss_, i64_w, i32_w]
            rfl
          refine one_ (i := 2) (N := some 29) #[true, true, true, true, false, false, false, false, false, false, false, false, false, false, false, false, false, false, false, false, false, false, false, false, false, false] rfl rfl (one_of HT_.out (by kernel_rfl)) (by decide) (fun K hK => ?_)
          refine goes_ Try.func10 (by kernel_rfl) rfl #[.agg #[.int .i64 a0_0, .int .i64 a0_1, .int .u64 a0_2, .string a0_3]] (by rfl) rfl rfl (by (try simp only [List.map_toArray, List.map_cons, List.map_nil]); first | done | rfl | (simp only [List.length_drop, List.length_take]; rfl)) ?_
          with_reducible refine (boscagelaw03_short.calls a0_0 a0_1 a0_2 a0_3 t221 t222 t223 t224 _ A10.out).mono ?_
          rintro e w51 ⟨rfl, hb⟩
          refine ⟨_, rfl, ?_⟩
          have m0 := am_ (blk_below (g := g8) (o := .cells #[.int .i64 a0_0, .int .i64 a0_1, .int .u64 a0_2, .string a0_3] 24 (0, 0)) (by (with_reducible repeat (first | refine blk_drewN ?_ _ | refine blk_drew ?_ | refine blk_alloc ?_ _)); exact K8.out) hb)
          have m1 := am_ (blk_below (g := g9) (o := .cells #[.int .i64 a1_0, .int .i64 a1_1, .int .u64 a1_2, .string a1_3] 24 (0, 0)) (by (with_reducible repeat (first | refine blk_drewN ?_ _ | refine blk_drew ?_ | refine blk_alloc ?_ _)); exact K9.out) hb)
          have m2 := am_ (below_step (by repeat (first | (with_reducible first | exact HB.out | apply below_alloc | apply pw_below_drewN | apply below_drew1 | refine below_set ?_ G8.out | refine below_set ?_ G9.out) | exact HB.out)) hb)
          clear K8
          clear K9
          clear HB
          have K8 := m0
          have K9 := m1
          have HB := m2
          clear m0 m1 m2
          (try clear hb)
          (try clear hb2)
          (try clear hk)
          (try clear hi)
          refine hK.out _ _ ⟨(bc_ K8.out 0).trans rfl, (bc_ K8.out 1).trans rfl, (bc_ K8.out 2).trans rfl, (bc_ K8.out 3).trans rfl, (bc_ K9.out 0).trans rfl, (bc_ K9.out 1).trans rfl, (bc_ K9.out 2).trans rfl, (bc_ K9.out 3).trans rfl⟩ (fun hL => ?_)
          clear hK K
          refine norm_ (a' := ?_) ?_ ?_
          rotate_left
          · show Act.put _ (some 29) _ = _
            simp only [Act.put, sa_, sz_, ss_, i64_w, i32_w]
            rfl
          refine one_ (i := 4) (N := some 31) #[true, true, true, true, true, false, false, false, false, false, false, false, false, false, false, false, false, false, false, false, false, false, false, false, false, false] rfl rfl (one_of HT_.out (by kernel_rfl)) (by decide) (fun K hK => ?_)
          refine goes_ Try.func10 (by kernel_rfl) rfl #[.agg #[.int .i64 a1_0, .int .i64 a1_1, .int .u64 a1_2, .string a1_3]] (by rfl) rfl rfl (by (try simp only [List.map_toArray, List.map_cons, List.map_nil]); first | done | rfl | (simp only [List.length_drop, List.length_take]; rfl)) ?_
          with_reducible refine (boscagelaw03_short.calls a1_0 a1_1 a1_2 a1_3 t225 t226 t227 t228 _ A11.out).mono ?_
          rintro e w52 ⟨rfl, hb⟩
          refine ⟨_, rfl, ?_⟩
          have m0 := am_ (blk_below (g := g8) (o := .cells #[.int .i64 a0_0, .int .i64 a0_1, .int .u64 a0_2, .string a0_3] 24 (0, 0)) (by (with_reducible repeat (first | refine blk_drewN ?_ _ | refine blk_drew ?_ | refine blk_alloc ?_ _)); exact K8.out) hb)
          have m1 := am_ (blk_below (g := g9) (o := .cells #[.int .i64 a1_0, .int .i64 a1_1, .int .u64 a1_2, .string a1_3] 24 (0, 0)) (by (with_reducible repeat (first | refine blk_drewN ?_ _ | refine blk_drew ?_ | refine blk_alloc ?_ _)); exact K9.out) hb)
          have m2 := am_ (below_step (by repeat (first | (with_reducible first | exact HB.out | apply below_alloc | apply pw_below_drewN | apply below_drew1 | refine below_set ?_ G8.out | refine below_set ?_ G9.out) | exact HB.out)) hb)
          clear K8
          clear K9
          clear HB
          have K8 := m0
          have K9 := m1
          have HB := m2
          clear m0 m1 m2
          (try clear hb)
          (try clear hb2)
          (try clear hk)
          (try clear hi)
          refine hK.out _ _ ⟨(bc_ K8.out 0).trans rfl, (bc_ K8.out 1).trans rfl, (bc_ K8.out 2).trans rfl, (bc_ K8.out 3).trans rfl, (bc_ K9.out 0).trans rfl, (bc_ K9.out 1).trans rfl, (bc_ K9.out 2).trans rfl, (bc_ K9.out 3).trans rfl⟩ (fun hL => ?_)
          clear hK K
          refine norm_ (a' := ?_) ?_ ?_
          rotate_left
          · show Act.put _ (some 31) _ = _
            simp only [Act.put, sa_, sz_, ss_, i64_w, i32_w]
            rfl
          refine one_ (i := 5) (N := some 32) #[true, true, true, true, true, true, false, false, false, false, false, false, false, false, false, false, false, false, false, false, false, false, false, false, false, false] rfl rfl (one_of HT_.out (by kernel_rfl)) (by decide) (fun K hK => ?_)
          refine goes_ Try.func18 (by kernel_rfl) rfl #[.agg #[.int .i64 t221, .int .i64 t222, .int .u64 t223, .string t224], .agg #[.int .i64 t225, .int .i64 t226, .int .u64 t227, .string t228]] (by rfl) rfl rfl (by (try simp only [List.map_toArray, List.map_cons, List.map_nil]); first | done | rfl | (simp only [List.length_drop, List.length_take]; rfl)) ?_
          with_reducible refine (boscageref03_Less.calls k t221 t222 t223 t224 t225 t226 t227 t228 t229 _ A12.out).mono ?_
          rintro e w53 ⟨rfl, hb⟩
          refine ⟨_, rfl, ?_⟩
          have m0 := am_ (blk_below (g := g8) (o := .cells #[.int .i64 a0_0, .int .i64 a0_1, .int .u64 a0_2, .string a0_3] 24 (0, 0)) (by (with_reducible repeat (first | refine blk_drewN ?_ _ | refine blk_drew ?_ | refine blk_alloc ?_ _)); exact K8.out) hb)
          have m1 := am_ (blk_below (g := g9) (o := .cells #[.int .i64 a1_0, .int .i64 a1_1, .int .u64 a1_2, .string a1_3] 24 (0, 0)) (by (with_reducible repeat (first | refine blk_drewN ?_ _ | refine blk_drew ?_ | refine blk_alloc ?_ _)); exact K9.out) hb)
          have m2 := am_ (below_step (by repeat (first | (with_reducible first | exact HB.out | apply below_alloc | apply pw_below_drewN | apply below_drew1 | refine below_set ?_ G8.out | refine below_set ?_ G9.out) | exact HB.out)) hb)
          clear K8
          clear K9
          clear HB
          have K8 := m0
          have K9 := m1
          have HB := m2
          clear m0 m1 m2
          (try clear hb)
          (try clear hb2)
          (try clear hk)
          (try clear hi)
          refine hK.out _ _ ⟨(bc_ K8.out 0).trans rfl, (bc_ K8.out 1).trans rfl, (bc_ K8.out 2).trans rfl, (bc_ K8.out 3).trans rfl, (bc_ K9.out 0).trans rfl, (bc_ K9.out 1).trans rfl, (bc_ K9.out 2).trans rfl, (bc_ K9.out 3).trans rfl⟩ (fun hL => ?_)
          clear hK K
          refine norm_ (a' := ?_) ?_ ?_
          rotate_left
          · show Act.put _ (some 32) _ = _
            simp only [Act.put, sa_, sz_, ss_, i64_w, i32_w]
            rfl
          refine pure_ (i := 6) (N := some 33) (v := ?_) (a' := ?_) #[true, true, true, true, true, true, true, false, false, false, false, false, false, false, false, false, false, false, false, false, false, false, false, false, false, false] rfl rfl (any_of HT_.out (by kernel_rfl)) (fun _ _ _ h => h) (Or.inl ⟨by rfl, ?_⟩) ?_ ?_
          rotate_left
          · intro w'
            go_simp
            with_reducible rfl
          rotate_left
          · simp only [Act.put, sa_, sz_, ss_, i64_w, i32_w]
            rfl
          refine pure_ (i := 7) (N := some 34) (v := ?_) (a' := ?_) #[true, true, true, true, true, true, true, true, false, false, false, false, false, false, false, false, false, false, false, false, false, false, false, false, false, false] rfl rfl (any_of HT_.out (by kernel_rfl)) (fun _ _ _ h => h) (Or.inl ⟨by rfl, ?_⟩) ?_ ?_
          rotate_left
          · intro w'
            go_simp
            with_reducible rfl
          rotate_left
          · simp only [Act.put, sa_, sz_, ss_, i64_w, i32_w]
            rfl
          refine pure_ (i := 8) (N := some 35) (v := ?_) (a' := ?_) #[true, true, true, true, true, true, true, true, true, false, false, false, false, false, false, false, false, false, false, false, false, false, false, false, false, false] rfl rfl (any_of HT_.out (by kernel_rfl)) (fun _ _ _ h => h) (Or.inl ⟨by rfl, ?_⟩) ?_ ?_
          rotate_left
          · intro w'
            go_simp
            with_reducible rfl
          rotate_left
          · simp only [Act.put, sa_, sz_, ss_, i64_w, i32_w]
            rfl
          refine pure_ (i := 9) (N := some 36) (v := ?_) (a' := ?_) #[true, true, true, true, true, true, true, true, true, true, false, false, false, false, false, false, false, false, false, false, false, false, false, false, false, false] rfl rfl (any_of HT_.out (by kernel_rfl)) (fun _ _ _ h => h) (Or.inl ⟨by rfl, ?_⟩) ?_ ?_
          rotate_left
          · intro w'
            go_simp
            with_reducible rfl
          rotate_left
          · simp only [Act.put, sa_, sz_, ss_, i64_w, i32_w]
            rfl
          refine pure_ (i := 10) (N := some 37) (v := ?_) (a' := ?_) #[true, true, true, true, true, true, true, true, true, true, true, false, false, false, false, false, false, false, false, false, false, false, false, false, false, false] rfl rfl (any_of HT_.out (by kernel_rfl)) (fun _ _ _ h => h) (Or.inl ⟨by rfl, ?_⟩) ?_ ?_
          rotate_left
          · intro w'
            go_simp
            with_reducible rfl
          rotate_left
          · simp only [Act.put, sa_, sz_, ss_, i64_w, i32_w]
            rfl
          refine pure_ (i := 11) (N := some 38) (v := ?_) (a' := ?_) #[true, true, true, true, true, true, true, true, true, true, true, true, false, false, false, false, false, false, false, false, false, false, false, false, false, false] rfl rfl (any_of HT_.out (by kernel_rfl)) (fun _ _ _ h => h) (Or.inl ⟨by rfl, ?_⟩) ?_ ?_
          rotate_left
          · intro w'
            go_simp
            with_reducible rfl
          rotate_left
          · simp only [Act.put, sa_, sz_, ss_, i64_w, i32_w]
            rfl
          refine pure_ (i := 12) (N := some 39) (v := ?_) (a' := ?_) #[true, true, true, true, true, true, true, true, true, true, true, true, true, false, false, false, false, false, false, false, false, false, false, false, false, false] rfl rfl (any_of HT_.out (by kernel_rfl)) (fun _ _ _ h => h) (Or.inl ⟨by rfl, ?_⟩) ?_ ?_
          rotate_left
          · intro w'
            go_simp
            with_reducible rfl
          rotate_left
          · simp only [Act.put, sa_, sz_, ss_, i64_w, i32_w]
            rfl
          refine pure_ (i := 13) (N := some 40) (v := ?_) (a' := ?_) #[true, true, true, true, true, true, true, true, true, true, true, true, true, true, false, false, false, false, false, false, false, false, false, false, false, false] rfl rfl (any_of HT_.out (by kernel_rfl)) (fun _ _ _ h => h) (Or.inl ⟨by rfl, ?_⟩) ?_ ?_
          rotate_left
          · intro w'
            go_simp
            with_reducible rfl
          rotate_left
          · simp only [Act.put, sa_, sz_, ss_, i64_w, i32_w]
            rfl
          refine pure_ (i := 14) (N := some 41) (v := ?_) (a' := ?_) #[true, true, true, true, true, true, true, true, true, true, true, true, true, true, true, false, false, false, false, false, false, false, false, false, false, false] rfl rfl (any_of HT_.out (by kernel_rfl)) (fun _ _ _ h => h) (Or.inl ⟨by rfl, ?_⟩) ?_ ?_
          rotate_left
          · intro w'
            go_simp
            with_reducible rfl
          rotate_left
          · simp only [Act.put, sa_, sz_, ss_, i64_w, i32_w]
            rfl
          refine pure_ (i := 15) (N := some 42) (v := ?_) (a' := ?_) #[true, true, true, true, true, true, true, true, true, true, true, true, true, true, true, true, false, false, false, false, false, false, false, false, false, false] rfl rfl (any_of HT_.out (by kernel_rfl)) (fun _ _ _ h => h) (Or.inl ⟨by rfl, ?_⟩) ?_ ?_
          rotate_left
          · intro w'
            go_simp
            with_reducible rfl
          rotate_left
          · simp only [Act.put, sa_, sz_, ss_, i64_w, i32_w]
            rfl
          refine pure_ (i := 16) (N := some 43) (v := ?_) (a' := ?_) #[true, true, true, true, true, true, true, true, true, true, true, true, true, true, true, true, true, false, false, false, false, false, false, false, false, false] rfl rfl (any_of HT_.out (by kernel_rfl)) (fun _ _ _ h => h) (Or.inl ⟨by rfl, ?_⟩) ?_ ?_
          rotate_left
          · intro w'
            go_simp
            with_reducible rfl
          rotate_left
          · simp only [Act.put, sa_, sz_, ss_, i64_w, i32_w]
            rfl
          refine pure_ (i := 17) (N := some 44) (v := ?_) (a' := ?_) #[true, true, true, true, true, true, true, true, true, true, true, true, true, true, true, true, true, true, false, false, false, false, false, false, false, false] rfl rfl (any_of HT_.out (by kernel_rfl)) (fun _ _ _ h => h) (Or.inl ⟨by rfl, ?_⟩) ?_ ?_
          rotate_left
          · intro w'
            go_simp
            with_reducible rfl
          rotate_left
          · simp only [Act.put, sa_, sz_, ss_, i64_w, i32_w]
            rfl
          refine one_ (i := 18) (N := some 45) #[true, true, true, true, true, true, true, true, true, true, true, true, true, true, true, true, true, true, true, false, false, false, false, false, false, false] rfl rfl (one_of HT_.out (by kernel_rfl)) (by decide) (fun K hK => ?_)
          refine goes_ Try.func19 (by kernel_rfl) rfl #[.string t204, .string t210] (by rfl) rfl rfl (by (try simp only [List.map_toArray, List.map_cons, List.map_nil]); first | done | rfl | (simp only [List.length_drop, List.length_take]; rfl)) ?_
          with_reducible refine (boscageref01_Less.calls k t204 t210 t230 _ A16.out).mono ?_
          rintro e w' ⟨rfl, ⟨nd, rfl⟩⟩
          refine ⟨_, rfl, ?_⟩
          refine hK.out _ _ ⟨(bc_ K8.out 0).trans rfl, (bc_ K8.out 1).trans rfl, (bc_ K8.out 2).trans rfl, (bc_ K8.out 3).trans rfl, (bc_ K9.out 0).trans rfl, (bc_ K9.out 1).trans rfl, (bc_ K9.out 2).trans rfl, (bc_ K9.out 3).trans rfl⟩ (fun hL => ?_)
          clear hK K
          refine norm_ (a' := ?_) ?_ ?_
          rotate_left
          · show Act.put _ (some 45) _ = _
            simp only [Act.put, sa_, sz_, ss_, i64_w, i32_w]
            rfl
          refine pure_ (i := 19) (N := some 46) (v := ?_) (a' := ?_) #[true, true, true, true, true, true, true, true, true, true, true, true, true, true, true, true, true, true, true, true, false, false, false, false, false, false] rfl rfl (any_of HT_.out (by kernel_rfl)) (fun _ _ _ h => h) (Or.inl ⟨by rfl, ?_⟩) ?_ ?_
          rotate_left
          · intro w'
            go_simp
            with_reducible rfl
          rotate_left
          · simp only [Act.put, sa_, sz_, ss_, i64_w, i32_w]
            rfl
          refine pure_ (i := 20) (N := some 47) (v := ?_) (a' := ?_) #[true, true, true, true, true, true, true, true, true, true, true, true, true, true, true, true, true, true, true, true, true, false, false, false, false, false] rfl rfl (any_of HT_.out (by kernel_rfl)) (fun _ _ _ h => h) (Or.inl ⟨by rfl, ?_⟩) ?_ ?_
          rotate_left
          · intro w'
            go_simp
            with_reducible rfl
          rotate_left
          · simp only [Act.put, sa_, sz_, ss_, i64_w, i32_w]
            rfl
          refine pure_ (i := 21) (N := some 48) (v := ?_) (a' := ?_) #[true, true, true, true, true, true, true, true, true, true, true, true, true, true, true, true, true, true, true, true, true, true, false, false, false, false] rfl rfl (any_of HT_.out (by kernel_rfl)) (fun _ _ _ h => h) (Or.inl ⟨by rfl, ?_⟩) ?_ ?_
          rotate_left
          · intro w'
            go_simp
            with_reducible rfl
          rotate_left
          · simp only [Act.put, sa_, sz_, ss_, i64_w, i32_w]
            rfl
          refine pure_ (i := 22) (N := some 49) (v := ?_) (a' := ?_) #[true, true, true, true, true, true, true, true, true, true, true, true, true, true, true, true, true, true, true, true, true, true, true, false, false, false] rfl rfl (any_of HT_.out (by kernel_rfl)) (fun _ _ _ h => h) (Or.inl ⟨by rfl, ?_⟩) ?_ ?_
          rotate_left
          · intro w'
            go_simp
            with_reducible rfl
          rotate_left
          · simp only [Act.put, sa_, sz_, ss_, i64_w, i32_w]
            rfl
          refine pure_ (i := 23) (N := some 50) (v := undef) (a' := ?_) #[true, true, true, true, true, true, true, true, true, true, true, true, true, true, true, true, true, true, true, true, true, true, true, true, false, false] rfl rfl (any_of HT_.out (by kernel_rfl)) (fun _ _ _ h => h) (Or.inr ⟨by rfl, rfl⟩) ?_ ?_
          rotate_left
          · simp only [Act.put, sa_, sz_, ss_, i64_w, i32_w]
            rfl
          refine pure_ (i := 24) (N := some 51) (v := ?_) (a' := ?_) #[true, true, true, true, true, true, true, true, true, true, true, true, true, true, true, true, true, true, true, true, true, true, true, true, true, false] rfl rfl (any_of HT_.out (by kernel_rfl)) (fun _ _ _ h => h) (Or.inl ⟨by rfl, ?_⟩) ?_ ?_
          rotate_left
          · intro w'
            go_simp
            with_reducible rfl
          rotate_left
          · simp only [Act.put, sa_, sz_, ss_, i64_w, i32_w]
            rfl
          refine pure_ (i := 25) (N := some 4) (v := ?_) (a' := ?_) #[true, true, true, true, true, true, true, true, true, true, true, true, true, true, true, true, true, true, true, true, true, true, true, true, true, true] rfl rfl (any_of HT_.out (by kernel_rfl)) (fun _ _ _ h => h) (Or.inl ⟨by rfl, ?_⟩) ?_ ?_
          rotate_left
          · intro w'
            go_simp
            with_reducible rfl
          rotate_left
          · simp only [Act.put, sa_, sz_, ss_, i64_w, i32_w]
            rfl
          refine done_ (done_of HT_.out (by kernel_rfl)) ?_
          try go_wp2
          go_ret
          exact ⟨by first | rfl | (simp [errW_none, errW_some] <;> rfl) | (simp [*, errW_none, errW_some] <;> rfl), by repeat (first | (with_reducible first | exact HB.out | apply below_alloc | apply pw_below_drewN | apply below_drew1 | refine below_set ?_ G8.out | refine below_set ?_ G9.out) | exact HB.out)⟩
      · rw [if_neg c15] at H
        have c15b0 : (t211 == 0) = false := beq_eq_false_iff_ne.mpr c15
        have c15b1 : (t211 != 0) = true := bne_iff_ne.mpr c15
        by_cases c54 : (t220 == false) = true
        · rw [if_pos c54] at H
          have c54b0 : (t220 == false) = true := c54
          (try (have c54b1 : decide (t220 = false) = true := by simpa using c54))
          (try (have c54b2 : (t220 == false) = true := by simpa using c54))
          clear c54
          replace H := Option.bind_eq_some_iff.mp H
          obtain ⟨t232, A550, H⟩ := H
          replace H : (some t232) = some r := H
          have A55 := am_ A550
          clear A550
          obtain rfl := Option.some.inj H
          go_enter Try.func6, Try.ntmps6
          try go_wp2_with (first | ((with_reducible refine gate_dst (N := 2) rfl ?_); refine box_event ?hg (N := 2) ?hd (cs := #[.int .i64 a0_0, .int .i64 a0_1, .int .u64 a0_2, .string a0_3]) (t := 24) ?hr ?_; (case hd => rfl); (case hg => rfl); (case hr => first | (go_simp; done) | (go_simp; rfl)); intro g8 hg w56 hbox hb; have m0 := am_ (below_step (by repeat (first | (with_reducible first | exact HB.out | apply below_alloc | apply pw_below_drewN | apply below_drew1) | exact HB.out)) hb); have m1 := am_ (hbox); have m2 := am_ ((by rw [hg]; exact (below_size (by repeat (first | (with_reducible first | exact HB.out | apply below_alloc | apply pw_below_drewN | apply below_drew1) | exact HB.out))) : w.heap.size ≤ g8)); have n3_ := am_ ((by rw [hg]; exact (below_size (by repeat (first | (with_reducible first | exact HB.out | apply below_alloc | apply pw_below_drewN | apply below_drew1) | exact HB.out))) : w.heap.size ≤ g8)); clear HB; have HB := m0; have K8 := m1; have GW198 := m2; have G8 := n3_; clear m0 m1 m2 n3_; clear hb hbox hg) | ((with_reducible refine gate_dst (N := 3) rfl ?_); refine box_event ?hg (N := 3) ?hd (cs := #[.int .i64 a1_0, .int .i64 a1_1, .int .u64 a1_2, .string a1_3]) (t := 24) ?hr ?_; (case hd => rfl); (case hg => rfl); (case hr => first | (go_simp; done) | (go_simp; rfl)); intro g9 hg w57 hbox hb; have m0 := am_ (blk_below (g := g8) (o := .cells #[.int .i64 a0_0, .int .i64 a0_1, .int .u64 a0_2, .string a0_3] 24 (0, 0)) (by (with_reducible repeat (first | refine blk_drewN ?_ _ | refine blk_drew ?_ | refine blk_alloc ?_ _)); exact K8.out) hb); have m1 := am_ (below_step (by repeat (first | (with_reducible first | exact HB.out | apply below_alloc | apply pw_below_drewN | apply below_drew1 | refine below_set ?_ G8.out) | exact HB.out)) hb); have m2 := am_ (hbox); have n3_ := am_ ((by rw [hg]; exact (below_size (by repeat (first | (with_reducible first | exact HB.out | apply below_alloc | apply pw_below_drewN | apply below_drew1 | refine below_set ?_ G8.out) | exact HB.out))) : w.heap.size ≤ g9)); have n4_ := am_ ((by rw [hg]; exact (below_size (by repeat (first | (with_reducible first | exact HB.out | apply below_alloc | apply pw_below_drewN | apply below_drew1 | refine below_set ?_ G8.out) | exact HB.out))) : w.heap.size ≤ g9)); have n5_ := am_ ((by rw [hg]; exact Nat.ne_of_lt (blk_lt (g := g8) (o := .cells #[.int .i64 a0_0, .int .i64 a0_1, .int .u64 a0_2, .string a0_3] 24 (0, 0)) (by (with_reducible repeat (first | refine blk_drewN ?_ _ | refine blk_drew ?_ | refine blk_alloc ?_ _)); exact K8.out)) : g8 ≠ g9)); have n6_ := am_ ((by rw [hg]; exact Nat.ne_of_gt (blk_lt (g := g8) (o := .cells #[.int .i64 a0_0, .int .i64 a0_1, .int .u64 a0_2, .string a0_3] 24 (0, 0)) (by (with_reducible repeat (first | refine blk_drewN ?_ _ | refine blk_drew ?_ | refine blk_alloc ?_ _)); exact K8.out)) : g9 ≠ g8)); clear K8; clear HB; have K8 := m0; have HB := m1; have K9 := m2; have GW199 := n3_; have G9 := n4_; have NB198_199 := n5_; have NB199_198 := n6_; clear m0 m1 m2 n3_ n4_ n5_ n6_; clear hb hbox hg; have hnb58 := NB198_199.out; have hnc58 := NB199_198.out; have hcz59_0 : w57.cell? ⟨g8, 0, none⟩ = some (.int .i64 a0_0) := (bc_ K8.out 0).trans rfl; have hcz59_1 : w57.cell? ⟨g8, 1, none⟩ = some (.int .i64 a0_1) := (bc_ K8.out 1).trans rfl; have hcz59_2 : w57.cell? ⟨g8, 2, none⟩ = some (.int .u64 a0_2) := (bc_ K8.out 2).trans rfl; have hcz59_3 : w57.cell? ⟨g8, 3, none⟩ = some (.string a0_3) := (bc_ K8.out 3).trans rfl; have hfz59_0 := blk_frozen K8.out 0; have hfz59_1 := blk_frozen K8.out 1; have hfz59_2 := blk_frozen K8.out 2; have hfz59_3 := blk_frozen K8.out 3) | ((with_reducible refine gate_callee (f := 8) rfl ?_); refine goesL_ (some 12) rfl rfl Try.func8 (by kernel_rfl) rfl #[.agg #[.int .i64 a0_0, .int .i64 a0_1, .int .u64 a0_2, .string a0_3]] rfl (by (try simp only [List.map_toArray, List.map_cons, List.map_nil]); first | done | rfl | (simp only [List.length_drop, List.length_take]; rfl)) ?_; (with_reducible refine (boscagelaw03_Give.calls a0_0 a0_1 a0_2 a0_3 t200 t201 t202 t203 _ A3.out).mono ?_); rintro e w60 ⟨rfl, hb⟩; refine ⟨_, rfl, ?_⟩; have m0 := am_ (blk_below (g := g8) (o := .cells #[.int .i64 a0_0, .int .i64 a0_1, .int .u64 a0_2, .string a0_3] 24 (0, 0)) (by (with_reducible repeat (first | refine blk_drewN ?_ _ | refine blk_drew ?_ | refine blk_alloc ?_ _)); exact K8.out) hb); have m1 := am_ (blk_below (g := g9) (o := .cells #[.int .i64 a1_0, .int .i64 a1_1, .int .u64 a1_2, .string a1_3] 24 (0, 0)) (by (with_reducible repeat (first | refine blk_drewN ?_ _ | refine blk_drew ?_ | refine blk_alloc ?_ _)); exact K9.out) hb); have m2 := am_ (below_step (by repeat (first | (with_reducible first | exact HB.out | apply below_alloc | apply pw_below_drewN | apply below_drew1 | refine below_set ?_ G8.out | refine below_set ?_ G9.out) | exact HB.out)) hb); clear K8; clear K9; clear HB; have K8 := m0; have K9 := m1; have HB := m2; clear m0 m1 m2; (try clear hb); (try clear hb2); (try clear hk); (try clear hi)) | ((with_reducible refine gate_callee (f := 7) rfl ?_); refine goesL_ (some 13) rfl rfl Try.func7 (by kernel_rfl) rfl #[.agg #[.int .i64 t200, .int .i64 t201, .int .u64 t202, .string t203]] rfl (by (try simp only [List.map_toArray, List.map_cons, List.map_nil]); first | done | rfl | (simp only [List.length_drop, List.length_take]; rfl)) ?_; (with_reducible refine (code_Make.calls t200 t201 t202 t203 t204 t205 _ A4.out).mono ?_); rintro e w61 ⟨rfl, hb⟩; refine ⟨_, rfl, ?_⟩; have m0 := am_ (blk_below (g := g8) (o := .cells #[.int .i64 a0_0, .int .i64 a0_1, .int .u64 a0_2, .string a0_3] 24 (0, 0)) (by (with_reducible repeat (first | refine blk_drewN ?_ _ | refine blk_drew ?_ | refine blk_alloc ?_ _)); exact K8.out) hb); have m1 := am_ (blk_below (g := g9) (o := .cells #[.int .i64 a1_0, .int .i64 a1_1, .int .u64 a1_2, .string a1_3] 24 (0, 0)) (by (with_reducible repeat (first | refine blk_drewN ?_ _ | refine blk_drew ?_ | refine blk_alloc ?_ _)); exact K9.out) hb); have m2 := am_ (below_step (by repeat (first | (with_reducible first | exact HB.out | apply below_alloc | apply pw_below_drewN | apply below_drew1 | refine below_set ?_ G8.out | refine below_set ?_ G9.out) | exact HB.out)) hb); clear K8; clear K9; clear HB; have K8 := m0; have K9 := m1; have HB := m2; clear m0 m1 m2; (try clear hb); (try clear hb2); (try clear hk); (try clear hi); have hcz62_0 : w61.cell? ⟨g9, 0, none⟩ = some (.int .i64 a1_0) := (bc_ K9.out 0).trans rfl; have hcz62_1 : w61.cell? ⟨g9, 1, none⟩ = some (.int .i64 a1_1) := (bc_ K9.out 1).trans rfl; have hcz62_2 : w61.cell? ⟨g9, 2, none⟩ = some (.int .u64 a1_2) := (bc_ K9.out 2).trans rfl; have hcz62_3 : w61.cell? ⟨g9, 3, none⟩ = some (.string a1_3) := (bc_ K9.out 3).trans rfl; have hfz62_0 := blk_frozen K9.out 0; have hfz62_1 := blk_frozen K9.out 1; have hfz62_2 := blk_frozen K9.out 2; have hfz62_3 := blk_frozen K9.out 3) | ((with_reducible refine gate_callee (f := 8) rfl ?_); refine goesL_ (some 18) rfl rfl Try.func8 (by kernel_rfl) rfl #[.agg #[.int .i64 a1_0, .int .i64 a1_1, .int .u64 a1_2, .string a1_3]] rfl (by (try simp only [List.map_toArray, List.map_cons, List.map_nil]); first | done | rfl | (simp only [List.length_drop, List.length_take]; rfl)) ?_; (with_reducible refine (boscagelaw03_Give.calls a1_0 a1_1 a1_2 a1_3 t206 t207 t208 t209 _ A5.out).mono ?_); rintro e w63 ⟨rfl, hb⟩; refine ⟨_, rfl, ?_⟩; have m0 := am_ (blk_below (g := g8) (o := .cells #[.int .i64 a0_0, .int .i64 a0_1, .int .u64 a0_2, .string a0_3] 24 (0, 0)) (by (with_reducible repeat (first | refine blk_drewN ?_ _ | refine blk_drew ?_ | refine blk_alloc ?_ _)); exact K8.out) hb); have m1 := am_ (blk_below (g := g9) (o := .cells #[.int .i64 a1_0, .int .i64 a1_1, .int .u64 a1_2, .string a1_3] 24 (0, 0)) (by (with_reducible repeat (first | refine blk_drewN ?_ _ | refine blk_drew ?_ | refine blk_alloc ?_ _)); exact K9.out) hb); have m2 := am_ (below_step (by repeat (first | (with_reducible first | exact HB.out | apply below_alloc | apply pw_below_drewN | apply below_drew1 | refine below_set ?_ G8.out | refine below_set ?_ G9.out) | exact HB.out)) hb); clear K8; clear K9; clear HB; have K8 := m0; have K9 := m1; have HB := m2; clear m0 m1 m2; (try clear hb); (try clear hb2); (try clear hk); (try clear hi)) | ((with_reducible refine gate_callee (f := 7) rfl ?_); refine goesL_ (some 19) rfl rfl Try.func7 (by kernel_rfl) rfl #[.agg #[.int .i64 t206, .int .i64 t207, .int .u64 t208, .string t209]] rfl (by (try simp only [List.map_toArray, List.map_cons, List.map_nil]); first | done | rfl | (simp only [List.length_drop, List.length_take]; rfl)) ?_; (with_reducible refine (code_Make.calls t206 t207 t208 t209 t210 t211 _ A6.out).mono ?_); rintro e w64 ⟨rfl, hb⟩; refine ⟨_, rfl, ?_⟩; have m0 := am_ (blk_below (g := g8) (o := .cells #[.int .i64 a0_0, .int .i64 a0_1, .int .u64 a0_2, .string a0_3] 24 (0, 0)) (by (with_reducible repeat (first | refine blk_drewN ?_ _ | refine blk_drew ?_ | refine blk_alloc ?_ _)); exact K8.out) hb); have m1 := am_ (blk_below (g := g9) (o := .cells #[.int .i64 a1_0, .int .i64 a1_1, .int .u64 a1_2, .string a1_3] 24 (0, 0)) (by (with_reducible repeat (first | refine blk_drewN ?_ _ | refine blk_drew ?_ | refine blk_alloc ?_ _)); exact K9.out) hb); have m2 := am_ (below_step (by repeat (first | (with_reducible first | exact HB.out | apply below_alloc | apply pw_below_drewN | apply below_drew1 | refine below_set ?_ G8.out | refine below_set ?_ G9.out) | exact HB.out)) hb); clear K8; clear K9; clear HB; have K8 := m0; have K9 := m1; have HB := m2; clear m0 m1 m2; (try clear hb); (try clear hb2); (try clear hk); (try clear hi)))
          have m0 := am_ (blk_drew K8.out)
          have m1 := am_ (blk_drew K9.out)
          have m2 := am_ (below_drew1 HB.out)
          clear K8
          clear K9
          clear HB
          have K8 := m0
          have K9 := m1
          have HB := m2
          clear m0 m1 m2
          refine start_ (n := 6) (S := fun w' => w'.cell? ⟨g8, 0, none⟩ = some (.int .i64 a0_0) ∧ w'.cell? ⟨g8, 1, none⟩ = some (.int .i64 a0_1) ∧ w'.cell? ⟨g8, 2, none⟩ = some (.int .u64 a0_2) ∧ w'.cell? ⟨g8, 3, none⟩ = some (.string a0_3) ∧ w'.cell? ⟨g9, 0, none⟩ = some (.int .i64 a1_0) ∧ w'.cell? ⟨g9, 1, none⟩ = some (.int .i64 a1_1) ∧ w'.cell? ⟨g9, 2, none⟩ = some (.int .u64 a1_2) ∧ w'.cell? ⟨g9, 3, none⟩ = some (.string a1_3)) (ds := []) #[false, false, false, false, false, false] (by kernel_rfl) rfl rfl ⟨(bc_ K8.out 0).trans rfl, (bc_ K8.out 1).trans rfl, (bc_ K8.out 2).trans rfl, (bc_ K8.out 3).trans rfl, (bc_ K9.out 0).trans rfl, (bc_ K9.out 1).trans rfl, (bc_ K9.out 2).trans rfl, (bc_ K9.out 3).trans rfl⟩ (fun hL => ?_)
          generalize w64.drew = w65 at K8 K9 HB hL ⊢
          refine take_ (i := 0) (N := some 22) (v := ?_) (a' := ?_) #[true, false, false, false, false, false] rfl rfl (by kernel_rfl) (fun _ _ _ h => h) (Or.inl ⟨by rfl, ?_⟩) hL ?_ ?_
          rotate_left
          · rintro w' ⟨s0, s1, s2, s3, s4, s5, s6, s7⟩
            go_simp
            with_reducible rfl
          rotate_left
          · simp only [Act.put, sa_, sz_, ss_, i64_w, i32_w]
            rfl
          refine take_ (i := 2) (N := some 24) (v := ?_) (a' := ?_) #[true, false, true, false, false, false] rfl rfl (by kernel_rfl) (fun _ _ _ h => h) (Or.inl ⟨by rfl, ?_⟩) hL ?_ ?_
          rotate_left
          · rintro w' ⟨s0, s1, s2, s3, s4, s5, s6, s7⟩
            go_simp
            with_reducible rfl
          rotate_left
          · simp only [Act.put, sa_, sz_, ss_, i64_w, i32_w]
            rfl
          refine one_ (i := 1) (N := some 23) #[true, true, true, false, false, false] rfl rfl (by kernel_rfl) (by decide) (fun K hK => ?_)
          refine goes_ Try.func8 (by kernel_rfl) rfl #[.agg #[.int .i64 a0_0, .int .i64 a0_1, .int .u64 a0_2, .string a0_3]] (by rfl) rfl rfl (by (try simp only [List.map_toArray, List.map_cons, List.map_nil]); first | done | rfl | (simp only [List.length_drop, List.length_take]; rfl)) ?_
          with_reducible refine (boscagelaw03_Give.calls a0_0 a0_1 a0_2 a0_3 t212 t213 t214 t215 _ A7.out).mono ?_
          rintro e w66 ⟨rfl, hb⟩
          refine ⟨_, rfl, ?_⟩
          have m0 := am_ (blk_below (g := g8) (o := .cells #[.int .i64 a0_0, .int .i64 a0_1, .int .u64 a0_2, .string a0_3] 24 (0, 0)) (by (with_reducible repeat (first | refine blk_drewN ?_ _ | refine blk_drew ?_ | refine blk_alloc ?_ _)); exact K8.out) hb)
          have m1 := am_ (blk_below (g := g9) (o := .cells #[.int .i64 a1_0, .int .i64 a1_1, .int .u64 a1_2, .string a1_3] 24 (0, 0)) (by (with_reducible repeat (first | refine blk_drewN ?_ _ | refine blk_drew ?_ | refine blk_alloc ?_ _)); exact K9.out) hb)
          have m2 := am_ (below_step (by repeat (first | (with_reducible first | exact HB.out | apply below_alloc | apply pw_below_drewN | apply below_drew1 | refine below_set ?_ G8.out | refine below_set ?_ G9.out) | exact HB.out)) hb)
          clear K8
          clear K9
          clear HB
          have K8 := m0
          have K9 := m1
          have HB := m2
          clear m0 m1 m2
          (try clear hb)
          (try clear hb2)
          (try clear hk)
          (try clear hi)
          refine hK.out _ _ ⟨(bc_ K8.out 0).trans rfl, (bc_ K8.out 1).trans rfl, (bc_ K8.out 2).trans rfl, (bc_ K8.out 3).trans rfl, (bc_ K9.out 0).trans rfl, (bc_ K9.out 1).trans rfl, (bc_ K9.out 2).trans rfl, (bc_ K9.out 3).trans rfl⟩ (fun hL => ?_)
          clear hK K
          refine norm_ (a' := ?_) ?_ ?_
          rotate_left
          · show Act.put _ (some 23) _ = _
            simp only [Act.put, sa_, sz_, ss_, i64_w, i32_w]
            rfl
          refine one_ (i := 3) (N := some 25) #[true, true, true, true, false, false] rfl rfl (by kernel_rfl) (by decide) (fun K hK => ?_)
          refine goes_ Try.func8 (by kernel_rfl) rfl #[.agg #[.int .i64 a1_0, .int .i64 a1_1, .int .u64 a1_2, .string a1_3]] (by rfl) rfl rfl (by (try simp only [List.map_toArray, List.map_cons, List.map_nil]); first | done | rfl | (simp only [List.length_drop, List.length_take]; rfl)) ?_
          with_reducible refine (boscagelaw03_Give.calls a1_0 a1_1 a1_2 a1_3 t216 t217 t218 t219 _ A8.out).mono ?_
          rintro e w67 ⟨rfl, hb⟩
          refine ⟨_, rfl, ?_⟩
          have m0 := am_ (blk_below (g := g8) (o := .cells #[.int .i64 a0_0, .int .i64 a0_1, .int .u64 a0_2, .string a0_3] 24 (0, 0)) (by (with_reducible repeat (first | refine blk_drewN ?_ _ | refine blk_drew ?_ | refine blk_alloc ?_ _)); exact K8.out) hb)
          have m1 := am_ (blk_below (g := g9) (o := .cells #[.int .i64 a1_0, .int .i64 a1_1, .int .u64 a1_2, .string a1_3] 24 (0, 0)) (by (with_reducible repeat (first | refine blk_drewN ?_ _ | refine blk_drew ?_ | refine blk_alloc ?_ _)); exact K9.out) hb)
          have m2 := am_ (below_step (by repeat (first | (with_reducible first | exact HB.out | apply below_alloc | apply pw_below_drewN | apply below_drew1 | refine below_set ?_ G8.out | refine below_set ?_ G9.out) | exact HB.out)) hb)
          clear K8
          clear K9
          clear HB
          have K8 := m0
          have K9 := m1
          have HB := m2
          clear m0 m1 m2
          (try clear hb)
          (try clear hb2)
          (try clear hk)
          (try clear hi)
          refine hK.out _ _ ⟨(bc_ K8.out 0).trans rfl, (bc_ K8.out 1).trans rfl, (bc_ K8.out 2).trans rfl, (bc_ K8.out 3).trans rfl, (bc_ K9.out 0).trans rfl, (bc_ K9.out 1).trans rfl, (bc_ K9.out 2).trans rfl, (bc_ K9.out 3).trans rfl⟩ (fun hL => ?_)
          clear hK K
          refine norm_ (a' := ?_) ?_ ?_
          rotate_left
          · show Act.put _ (some 25) _ = _
            simp only [Act.put, sa_, sz_, ss_, i64_w, i32_w]
            rfl
          refine one_ (i := 4) (N := some 26) #[true, true, true, true, true, false] rfl rfl (by kernel_rfl) (by decide) (fun K hK => ?_)
          refine goes_ Try.func17 (by kernel_rfl) rfl #[.agg #[.int .i64 t212, .int .i64 t213, .int .u64 t214, .string t215], .agg #[.int .i64 t216, .int .i64 t217, .int .u64 t218, .string t219]] (by rfl) rfl rfl (by (try simp only [List.map_toArray, List.map_cons, List.map_nil]); first | done | rfl | (simp only [List.length_drop, List.length_take]; rfl)) ?_
          with_reducible refine (code_Less.calls t212 t213 t214 t215 t216 t217 t218 t219 t220 _ A9.out).mono ?_
          rintro e w68 ⟨rfl, hb⟩
          refine ⟨_, rfl, ?_⟩
          have m0 := am_ (blk_below (g := g8) (o := .cells #[.int .i64 a0_0, .int .i64 a0_1, .int .u64 a0_2, .string a0_3] 24 (0, 0)) (by (with_reducible repeat (first | refine blk_drewN ?_ _ | refine blk_drew ?_ | refine blk_alloc ?_ _)); exact K8.out) hb)
          have m1 := am_ (blk_below (g := g9) (o := .cells #[.int .i64 a1_0, .int .i64 a1_1, .int .u64 a1_2, .string a1_3] 24 (0, 0)) (by (with_reducible repeat (first | refine blk_drewN ?_ _ | refine blk_drew ?_ | refine blk_alloc ?_ _)); exact K9.out) hb)
          have m2 := am_ (below_step (by repeat (first | (with_reducible first | exact HB.out | apply below_alloc | apply pw_below_drewN | apply below_drew1 | refine below_set ?_ G8.out | refine below_set ?_ G9.out) | exact HB.out)) hb)
          clear K8
          clear K9
          clear HB
          have K8 := m0
          have K9 := m1
          have HB := m2
          clear m0 m1 m2
          (try clear hb)
          (try clear hb2)
          (try clear hk)
          (try clear hi)
          refine hK.out _ _ ⟨(bc_ K8.out 0).trans rfl, (bc_ K8.out 1).trans rfl, (bc_ K8.out 2).trans rfl, (bc_ K8.out 3).trans rfl, (bc_ K9.out 0).trans rfl, (bc_ K9.out 1).trans rfl, (bc_ K9.out 2).trans rfl, (bc_ K9.out 3).trans rfl⟩ (fun hL => ?_)
          clear hK K
          refine norm_ (a' := ?_) ?_ ?_
          rotate_left
          · show Act.put _ (some 26) _ = _
            simp only [Act.put, sa_, sz_, ss_, i64_w, i32_w]
            rfl
          refine pure_ (i := 5) (N := some 9) (v := ?_) (a' := ?_) #[true, true, true, true, true, true] rfl rfl (by kernel_rfl) (fun _ _ _ h => h) (Or.inl ⟨by rfl, ?_⟩) ?_ ?_
          rotate_left
          · intro w'
            go_simp
            with_reducible rfl
          rotate_left
          · simp only [Act.put, sa_, sz_, ss_, i64_w, i32_w]
            rfl
          refine done_ (by kernel_rfl) ?_
          try go_wp2
          have m0 := am_ (blk_drew K8.out)
          have m1 := am_ (blk_drew K9.out)
          have m2 := am_ (below_drew1 HB.out)
          clear K8
          clear K9
          clear HB
          have K8 := m0
          have K9 := m1
          have HB := m2
          clear m0 m1 m2
          refine start_ (n := 26) (S := fun w' => w'.cell? ⟨g8, 0, none⟩ = some (.int .i64 a0_0) ∧ w'.cell? ⟨g8, 1, none⟩ = some (.int .i64 a0_1) ∧ w'.cell? ⟨g8, 2, none⟩ = some (.int .u64 a0_2) ∧ w'.cell? ⟨g8, 3, none⟩ = some (.string a0_3) ∧ w'.cell? ⟨g9, 0, none⟩ = some (.int .i64 a1_0) ∧ w'.cell? ⟨g9, 1, none⟩ = some (.int .i64 a1_1) ∧ w'.cell? ⟨g9, 2, none⟩ = some (.int .u64 a1_2) ∧ w'.cell? ⟨g9, 3, none⟩ = some (.string a1_3)) (ds := []) #[false, false, false, false, false, false, false, false, false, false, false, false, false, false, false, false, false, false, false, false, false, false, false, false, false, false] (by kernel_rfl) rfl rfl ⟨(bc_ K8.out 0).trans rfl, (bc_ K8.out 1).trans rfl, (bc_ K8.out 2).trans rfl, (bc_ K8.out 3).trans rfl, (bc_ K9.out 0).trans rfl, (bc_ K9.out 1).trans rfl, (bc_ K9.out 2).trans rfl, (bc_ K9.out 3).trans rfl⟩ (fun hL => ?_); refine with_tabW boscagelaw03_CodeOrders.tab4 boscagelaw03_CodeOrders.bits4 (fun HT_ HW_ => ?_)
          generalize w68.drew = w69 at K8 K9 HB hL ⊢
          refine pure_ (i := 0) (N := some 27) (v := ?_) (a' := ?_) #[true, false, false, false, false, false, false, false, false, false, false, false, false, false, false, false, false, false, false, false, false, false, false, false, false, false] rfl rfl (any_of HT_.out (by kernel_rfl)) (fun _ _ _ h => h) (Or.inl ⟨by rfl, ?_⟩) ?_ ?_
          rotate_left
          · intro w'
            go_simp
            with_reducible rfl
          rotate_left
          · simp only [Act.put, sa_, sz_, ss_, i64_w, i32_w]
            rfl
          refine take_ (i := 1) (N := some 28) (v := ?_) (a' := ?_) #[true, true, false, false, false, false, false, false, false, false, false, false, false, false, false, false, false, false, false, false, false, false, false, false, false, false] rfl rfl (take_ofW HT_.out HW_.out (by kernel_rfl)) (fun _ _ _ h => h) (Or.inl ⟨by rfl, ?_⟩) hL ?_ ?_
          rotate_left
          · rintro w' ⟨s0, s1, s2, s3, s4, s5, s6, s7⟩
            go_simp
            with_reducible rfl
          rotate_left
          · simp only [Act.put, sa_, sz_, ss_, i64_w, i32_w]
            rfl
          refine take_ (i := 3) (N := some 30) (v := ?_) (a' := ?_) #[true, true, false, true, false, false, false, false, false, false, false, false, false, false, false, false, false, false, false, false, false, false, false, false, false, false] rfl rfl (take_ofW HT_.out HW_.out (by kernel_rfl)) (fun _ _ _ h => h) (Or.inl ⟨by rfl, ?_⟩) hL ?_ ?_
          rotate_left
          · rintro w' ⟨s0, s1, s2, s3, s4, s5, s6, s7⟩
            go_simp
            with_reducible rfl
          rotate_left
          · simp only [Act.put, sa_, sz_, ss_, i64_w, i32_w]
            rfl
          refine one_ (i := 2) (N := some 29) #[true, true, true, true, false, false, false, false, false, false, false, false, false, false, false, false, false, false, false, false, false, false, false, false, false, false] rfl rfl (one_of HT_.out (by kernel_rfl)) (by decide) (fun K hK => ?_)
          refine goes_ Try.func10 (by kernel_rfl) rfl #[.agg #[.int .i64 a0_0, .int .i64 a0_1, .int .u64 a0_2, .string a0_3]] (by rfl) rfl rfl (by (try simp only [List.map_toArray, List.map_cons, List.map_nil]); first | done | rfl | (simp only [List.length_drop, List.length_take]; rfl)) ?_
          with_reducible refine (boscagelaw03_short.calls a0_0 a0_1 a0_2 a0_3 t221 t222 t223 t224 _ A10.out).mono ?_
          rintro e w70 ⟨rfl, hb⟩
          refine ⟨_, rfl, ?_⟩
          have m0 := am_ (blk_below (g := g8) (o := .cells #[.int .i64 a0_0, .int .i64 a0_1, .int .u64 a0_2, .string a0_3] 24 (0, 0)) (by (with_reducible repeat (first | refine blk_drewN ?_ _ | refine blk_drew ?_ | refine blk_alloc ?_ _)); exact K8.out) hb)
          have m1 := am_ (blk_below (g := g9) (o := .cells #[.int .i64 a1_0, .int .i64 a1_1, .int .u64 a1_2, .string a1_3] 24 (0, 0)) (by (with_reducible repeat (first | refine blk_drewN ?_ _ | refine blk_drew ?_ | refine blk_alloc ?_ _)); exact K9.out) hb)
          have m2 := am_ (below_step (by repeat (first | (with_reducible first | exact HB.out | apply below_alloc | apply pw_below_drewN | apply below_drew1 | refine below_set ?_ G8.out | refine below_set ?_ G9.out) | exact HB.out)) hb)
          clear K8
          clear K9
          clear HB
          have K8 := m0
          have K9 := m1
          have HB := m2
          clear m0 m1 m2
          (try clear hb)
          (try clear hb2)
          (try clear hk)
          (try clear hi)
          refine hK.out _ _ ⟨(bc_ K8.out 0).trans rfl, (bc_ K8.out 1).trans rfl, (bc_ K8.out 2).trans rfl, (bc_ K8.out 3).trans rfl, (bc_ K9.out 0).trans rfl, (bc_ K9.out 1).trans rfl, (bc_ K9.out 2).trans rfl, (bc_ K9.out 3).trans rfl⟩ (fun hL => ?_)
          clear hK K
          refine norm_ (a' := ?_) ?_ ?_
          rotate_left
          · show Act.put _ (some 29) _ = _
            simp only [Act.put, sa_, sz_, ss_, i64_w, i32_w]
            rfl
          refine one_ (i := 4) (N := some 31) #[true, true, true, true, true, false, false, false, false, false, false, false, false, false, false, false, false, false, false, false, false, false, false, false, false, false] rfl rfl (one_of HT_.out (by kernel_rfl)) (by decide) (fun K hK => ?_)
          refine goes_ Try.func10 (by kernel_rfl) rfl #[.agg #[.int .i64 a1_0, .int .i64 a1_1, .int .u64 a1_2, .string a1_3]] (by rfl) rfl rfl (by (try simp only [List.map_toArray, List.map_cons, List.map_nil]); first | done | rfl | (simp only [List.length_drop, List.length_take]; rfl)) ?_
          with_reducible refine (boscagelaw03_short.calls a1_0 a1_1 a1_2 a1_3 t225 t226 t227 t228 _ A11.out).mono ?_
          rintro e w71 ⟨rfl, hb⟩
          refine ⟨_, rfl, ?_⟩
          have m0 := am_ (blk_below (g := g8) (o := .cells #[.int .i64 a0_0, .int .i64 a0_1, .int .u64 a0_2, .string a0_3] 24 (0, 0)) (by (with_reducible repeat (first | refine blk_drewN ?_ _ | refine blk_drew ?_ | refine blk_alloc ?_ _)); exact K8.out) hb)
          have m1 := am_ (blk_below (g := g9) (o := .cells #[.int .i64 a1_0, .int .i64 a1_1, .int .u64 a1_2, .string a1_3] 24 (0, 0)) (by (with_reducible repeat (first | refine blk_drewN ?_ _ | refine blk_drew ?_ | refine blk_alloc ?_ _)); exact K9.out) hb)
          have m2 := am_ (below_step (by repeat (first | (with_reducible first | exact HB.out | apply below_alloc | apply pw_below_drewN | apply below_drew1 | refine below_set ?_ G8.out | refine below_set ?_ G9.out) | exact HB.out)) hb)
          clear K8
          clear K9
          clear HB
          have K8 := m0
          have K9 := m1
          have HB := m2
          clear m0 m1 m2
          (try clear hb)
          (try clear hb2)
          (try clear hk)
          (try clear hi)
          refine hK.out _ _ ⟨(bc_ K8.out 0).trans rfl, (bc_ K8.out 1).trans rfl, (bc_ K8.out 2).trans rfl, (bc_ K8.out 3).trans rfl, (bc_ K9.out 0).trans rfl, (bc_ K9.out 1).trans rfl, (bc_ K9.out 2).trans rfl, (bc_ K9.out 3).trans rfl⟩ (fun hL => ?_)
          clear hK K
          refine norm_ (a' := ?_) ?_ ?_
          rotate_left
          · show Act.put _ (some 31) _ = _
            simp only [Act.put, sa_, sz_, ss_, i64_w, i32_w]
            rfl
          refine one_ (i := 5) (N := some 32) #[true, true, true, true, true, true, false, false, false, false, false, false, false, false, false, false, false, false, false, false, false, false, false, false, false, false] rfl rfl (one_of HT_.out (by kernel_rfl)) (by decide) (fun K hK => ?_)
          refine goes_ Try.func18 (by kernel_rfl) rfl #[.agg #[.int .i64 t221, .int .i64 t222, .int .u64 t223, .string t224], .agg #[.int .i64 t225, .int .i64 t226, .int .u64 t227, .string t228]] (by rfl) rfl rfl (by (try simp only [List.map_toArray, List.map_cons, List.map_nil]); first | done | rfl | (simp only [List.length_drop, List.length_take]; rfl)) ?_
          with_reducible refine (boscageref03_Less.calls k t221 t222 t223 t224 t225 t226 t227 t228 t229 _ A12.out).mono ?_
          rintro e w72 ⟨rfl, hb⟩
          refine ⟨_, rfl, ?_⟩
          have m0 := am_ (blk_below (g := g8) (o := .cells #[.int .i64 a0_0, .int .i64 a0_1, .int .u64 a0_2, .string a0_3] 24 (0, 0)) (by (with_reducible repeat (first | refine blk_drewN ?_ _ | refine blk_drew ?_ | refine blk_alloc ?_ _)); exact K8.out) hb)
          have m1 := am_ (blk_below (g := g9) (o := .cells #[.int .i64 a1_0, .int .i64 a1_1, .int .u64 a1_2, .string a1_3] 24 (0, 0)) (by (with_reducible repeat (first | refine blk_drewN ?_ _ | refine blk_drew ?_ | refine blk_alloc ?_ _)); exact K9.out) hb)
          have m2 := am_ (below_step (by repeat (first | (with_reducible first | exact HB.out | apply below_alloc | apply pw_below_drewN | apply below_drew1 | refine below_set ?_ G8.out | refine below_set ?_ G9.out) | exact HB.out)) hb)
          clear K8
          clear K9
          clear HB
          have K8 := m0
          have K9 := m1
          have HB := m2
          clear m0 m1 m2
          (try clear hb)
          (try clear hb2)
          (try clear hk)
          (try clear hi)
          refine hK.out _ _ ⟨(bc_ K8.out 0).trans rfl, (bc_ K8.out 1).trans rfl, (bc_ K8.out 2).trans rfl, (bc_ K8.out 3).trans rfl, (bc_ K9.out 0).trans rfl, (bc_ K9.out 1).trans rfl, (bc_ K9.out 2).trans rfl, (bc_ K9.out 3).trans rfl⟩ (fun hL => ?_)
          clear hK K
          refine norm_ (a' := ?_) ?_ ?_
          rotate_left
          · show Act.put _ (some 32) _ = _
            simp only [Act.put, sa_, sz_, ss_, i64_w, i32_w]
            rfl
          refine pure_ (i := 6) (N := some 33) (v := ?_) (a' := ?_) #[true, true, true, true, true, true, true, false, false, false, false, false, false, false, false, false, false, false, false, false, false, false, false, false, false, false] rfl rfl (any_of HT_.out (by kernel_rfl)) (fun _ _ _ h => h) (Or.inl ⟨by rfl, ?_⟩) ?_ ?_
          rotate_left
          · intro w'
            go_simp
            with_reducible rfl
          rotate_left
          · simp only [Act.put, sa_, sz_, ss_, i64_w, i32_w]
            rfl
          refine pure_ (i := 7) (N := some 34) (v := ?_) (a' := ?_) #[true, true, true, true, true, true, true, true, false, false, false, false, false, false, false, false, false, false, false, false, false, false, false, false, false, false] rfl rfl (any_of HT_.out (by kernel_rfl)) (fun _ _ _ h => h) (Or.inl ⟨by rfl, ?_⟩) ?_ ?_
          rotate_left
          · intro w'
            go_simp
            with_reducible rfl
          rotate_left
          · simp only [Act.put, sa_, sz_, ss_, i64_w, i32_w]
            rfl
          refine pure_ (i := 8) (N := some 35) (v := ?_) (a' := ?_) #[true, true, true, true, true, true, true, true, true, false, false, false, false, false, false, false, false, false, false, false, false, false, false, false, false, false] rfl rfl (any_of HT_.out (by kernel_rfl)) (fun _ _ _ h => h) (Or.inl ⟨by rfl, ?_⟩) ?_ ?_
          rotate_left
          · intro w'
            go_simp
            with_reducible rfl
          rotate_left
          · simp only [Act.put, sa_, sz_, ss_, i64_w, i32_w]
            rfl
          refine pure_ (i := 9) (N := some 36) (v := ?_) (a' := ?_) #[true, true, true, true, true, true, true, true, true, true, false, false, false, false, false, false, false, false, false, false, false, false, false, false, false, false] rfl rfl (any_of HT_.out (by kernel_rfl)) (fun _ _ _ h => h) (Or.inl ⟨by rfl, ?_⟩) ?_ ?_
          rotate_left
          · intro w'
            go_simp
            with_reducible rfl
          rotate_left
          · simp only [Act.put, sa_, sz_, ss_, i64_w, i32_w]
            rfl
          refine pure_ (i := 10) (N := some 37) (v := ?_) (a' := ?_) #[true, true, true, true, true, true, true, true, true, true, true, false, false, false, false, false, false, false, false, false, false, false, false, false, false, false] rfl rfl (any_of HT_.out (by kernel_rfl)) (fun _ _ _ h => h) (Or.inl ⟨by rfl, ?_⟩) ?_ ?_
          rotate_left
          · intro w'
            go_simp
            with_reducible rfl
          rotate_left
          · simp only [Act.put, sa_, sz_, ss_, i64_w, i32_w]
            rfl
          refine pure_ (i := 11) (N := some 38) (v := ?_) (a' := ?_) #[true, true, true, true, true, true, true, true, true, true, true, true, false, false, false, false, false, false, false, false, false, false, false, false, false, false] rfl rfl (any_of HT_.out (by kernel_rfl)) (fun _ _ _ h => h) (Or.inl ⟨by rfl, ?_⟩) ?_ ?_
          rotate_left
          · intro w'
            go_simp
            with_reducible rfl
          rotate_left
          · simp only [Act.put, sa_, sz_, ss_, i64_w, i32_w]
            rfl
          refine pure_ (i := 12) (N := some 39) (v := ?_) (a' := ?_) #[true, true, true, true, true, true, true, true, true, true, true, true, true, false, false, false, false, false, false, false, false, false, false, false, false, false] rfl rfl (any_of HT_.out (by kernel_rfl)) (fun _ _ _ h => h) (Or.inl ⟨by rfl, ?_⟩) ?_ ?_
          rotate_left
          · intro w'
            go_simp
            with_reducible rfl
          rotate_left
          · simp only [Act.put, sa_, sz_, ss_, i64_w, i32_w]
            rfl
          refine pure_ (i := 13) (N := some 40) (v := ?_) (a' := ?_) #[true, true, true, true, true, true, true, true, true, true, true, true, true, true, false, false, false, false, false, false, false, false, false, false, false, false] rfl rfl (any_of HT_.out (by kernel_rfl)) (fun _ _ _ h => h) (Or.inl ⟨by rfl, ?_⟩) ?_ ?_
          rotate_left
          · intro w'
            go_simp
            with_reducible rfl
          rotate_left
          · simp only [Act.put, sa_, sz_, ss_, i64_w, i32_w]
            rfl
          refine pure_ (i := 14) (N := some 41) (v := ?_) (a' := ?_) #[true, true, true, true, true, true, true, true, true, true, true, true, true, true, true, false, false, false, false, false, false, false, false, false, false, false] rfl rfl (any_of HT_.out (by kernel_rfl)) (fun _ _ _ h => h) (Or.inl ⟨by rfl, ?_⟩) ?_ ?_
          rotate_left
          · intro w'
            go_simp
            with_reducible rfl
          rotate_left
          · simp only [Act.put, sa_, sz_, ss_, i64_w, i32_w]
            rfl
          refine pure_ (i := 15) (N := some 42) (v := ?_) (a' := ?_) #[true, true, true, true, true, true, true, true, true, true, true, true, true, true, true, true, false, false, false, false, false, false, false, false, false, false] rfl rfl (any_of HT_.out (by kernel_rfl)) (fun _ _ _ h => h) (Or.inl ⟨by rfl, ?_⟩) ?_ ?_
          rotate_left
          · intro w'
            go_simp
            with_reducible rfl
          rotate_left
          · simp only [Act.put, sa_, sz_, ss_, i64_w, i32_w]
            rfl
          refine pure_ (i := 16) (N := some 43) (v := undef) (a' := ?_) #[true, true, true, true, true, true, true, true, true, true, true, true, true, true, true, true, true, false, false, false, false, false, false, false, false, false] rfl rfl (any_of HT_.out (by kernel_rfl)) (fun _ _ _ h => h) (Or.inr ⟨by rfl, rfl⟩) ?_ ?_
          rotate_left
          · simp only [Act.put, sa_, sz_, ss_, i64_w, i32_w]
            rfl
          refine pure_ (i := 17) (N := some 44) (v := undef) (a' := ?_) #[true, true, true, true, true, true, true, true, true, true, true, true, true, true, true, true, true, true, false, false, false, false, false, false, false, false] rfl rfl (any_of HT_.out (by kernel_rfl)) (fun _ _ _ h => h) (Or.inr ⟨by rfl, rfl⟩) ?_ ?_
          rotate_left
          · simp only [Act.put, sa_, sz_, ss_, i64_w, i32_w]
            rfl
          refine pure_ (i := 18) (N := some 45) (v := undef) (a' := ?_) #[true, true, true, true, true, true, true, true, true, true, true, true, true, true, true, true, true, true, true, false, false, false, false, false, false, false] rfl rfl (any_of HT_.out (by kernel_rfl)) (fun _ _ _ h => h) (Or.inr ⟨by rfl, rfl⟩) ?_ ?_
          rotate_left
          · simp only [Act.put, sa_, sz_, ss_, i64_w, i32_w]
            rfl
          refine pure_ (i := 19) (N := some 46) (v := ?_) (a' := ?_) #[true, true, true, true, true, true, true, true, true, true, true, true, true, true, true, true, true, true, true, true, false, false, false, false, false, false] rfl rfl (any_of HT_.out (by kernel_rfl)) (fun _ _ _ h => h) (Or.inl ⟨by rfl, ?_⟩) ?_ ?_
          rotate_left
          · intro w'
            go_simp
            with_reducible rfl
          rotate_left
          · simp only [Act.put, sa_, sz_, ss_, i64_w, i32_w]
            rfl
          refine pure_ (i := 20) (N := some 47) (v := ?_) (a' := ?_) #[true, true, true, true, true, true, true, true, true, true, true, true, true, true, true, true, true, true, true, true, true, false, false, false, false, false] rfl rfl (any_of HT_.out (by kernel_rfl)) (fun _ _ _ h => h) (Or.inl ⟨by rfl, ?_⟩) ?_ ?_
          rotate_left
          · intro w'
            go_simp
            with_reducible rfl
          rotate_left
          · simp only [Act.put, sa_, sz_, ss_, i64_w, i32_w]
            rfl
          refine pure_ (i := 21) (N := some 48) (v := ?_) (a' := ?_) #[true, true, true, true, true, true, true, true, true, true, true, true, true, true, true, true, true, true, true, true, true, true, false, false, false, false] rfl rfl (any_of HT_.out (by kernel_rfl)) (fun _ _ _ h => h) (Or.inl ⟨by rfl, ?_⟩) ?_ ?_
          rotate_left
          · intro w'
            go_simp
            with_reducible rfl
          rotate_left
          · simp only [Act.put, sa_, sz_, ss_, i64_w, i32_w]
            rfl
          refine pure_ (i := 22) (N := some 49) (v := ?_) (a' := ?_) #[true, true, true, true, true, true, true, true, true, true, true, true, true, true, true, true, true, true, true, true, true, true, true, false, false, false] rfl rfl (any_of HT_.out (by kernel_rfl)) (fun _ _ _ h => h) (Or.inl ⟨by rfl, ?_⟩) ?_ ?_
          rotate_left
          · intro w'
            go_simp
            with_reducible rfl
          rotate_left
          · simp only [Act.put, sa_, sz_, ss_, i64_w, i32_w]
            rfl
          refine one_ (i := 23) (N := some 50) #[true, true, true, true, true, true, true, true, true, true, true, true, true, true, true, true, true, true, true, true, true, true, true, true, false, false] rfl rfl (one_of HT_.out (by kernel_rfl)) (by decide) (fun K hK => ?_)
          refine goes_ Try.func11 (by kernel_rfl) rfl #[] (by rfl) rfl rfl (by (try simp only [List.map_toArray, List.map_cons, List.map_nil]); first | done | rfl | (simp only [List.length_drop, List.length_take]; rfl)) ?_
          with_reducible refine (boscagelaw03_works.calls k  t232 _ A55.out).mono ?_
          rintro e w73 ⟨rfl, hb⟩
          refine ⟨_, rfl, ?_⟩
          have m0 := am_ (blk_below (g := g8) (o := .cells #[.int .i64 a0_0, .int .i64 a0_1, .int .u64 a0_2, .string a0_3] 24 (0, 0)) (by (with_reducible repeat (first | refine blk_drewN ?_ _ | refine blk_drew ?_ | refine blk_alloc ?_ _)); exact K8.out) hb)
          have m1 := am_ (blk_below (g := g9) (o := .cells #[.int .i64 a1_0, .int .i64 a1_1, .int .u64 a1_2, .string a1_3] 24 (0, 0)) (by (with_reducible repeat (first | refine blk_drewN ?_ _ | refine blk_drew ?_ | refine blk_alloc ?_ _)); exact K9.out) hb)
          have m2 := am_ (below_step (by repeat (first | (with_reducible first | exact HB.out | apply below_alloc | apply pw_below_drewN | apply below_drew1 | refine below_set ?_ G8.out | refine below_set ?_ G9.out) | exact HB.out)) hb)
          clear K8
          clear K9
          clear HB
          have K8 := m0
          have K9 := m1
          have HB := m2
          clear m0 m1 m2
          (try clear hb)
          (try clear hb2)
          (try clear hk)
          (try clear hi)
          refine hK.out _ _ ⟨(bc_ K8.out 0).trans rfl, (bc_ K8.out 1).trans rfl, (bc_ K8.out 2).trans rfl, (bc_ K8.out 3).trans rfl, (bc_ K9.out 0).trans rfl, (bc_ K9.out 1).trans rfl, (bc_ K9.out 2).trans rfl, (bc_ K9.out 3).trans rfl⟩ (fun hL => ?_)
          clear hK K
          refine norm_ (a' := ?_) ?_ ?_
          rotate_left
          · show Act.put _ (some 50) _ = _
            simp only [Act.put, sa_, sz_, ss_, i64_w, i32_w]
            rfl
          refine pure_ (i := 24) (N := some 51) (v := ?_) (a' := ?_) #[true, true, true, true, true, true, true, true, true, true, true, true, true, true, true, true, true, true, true, true, true, true, true, true, true, false] rfl rfl (any_of HT_.out (by kernel_rfl)) (fun _ _ _ h => h) (Or.inl ⟨by rfl, ?_⟩) ?_ ?_
          rotate_left
          · intro w'
            go_simp
            with_reducible rfl
          rotate_left
          · simp only [Act.put, sa_, sz_, ss_, i64_w, i32_w]
            rfl
          refine pure_ (i := 25) (N := some 4) (v := ?_) (a' := ?_) #[true, true, true, true, true, true, true, true, true, true, true, true, true, true, true, true, true, true, true, true, true, true, true, true, true, true] rfl rfl (any_of HT_.out (by kernel_rfl)) (fun _ _ _ h => h) (Or.inl ⟨by rfl, ?_⟩) ?_ ?_
          rotate_left
          · intro w'
            go_simp
            with_reducible rfl
          rotate_left
          · simp only [Act.put, sa_, sz_, ss_, i64_w, i32_w]
            rfl
          refine done_ (done_of HT_.out (by kernel_rfl)) ?_
          try go_wp2
          go_ret
          exact ⟨by first | rfl | (simp [errW_none, errW_some] <;> rfl) | (simp [*, errW_none, errW_some] <;> rfl), by repeat (first | (with_reducible first | exact HB.out | apply below_alloc | apply pw_below_drewN | apply below_drew1 | refine below_set ?_ G8.out | refine below_set ?_ G9.out) | exact HB.out)⟩
        · rw [if_neg c54] at H
          have c54b0 : (t220 == false) = false := by simpa using c54
          (try (have c54b1 : decide (t220 = false) = false := by simpa using c54))
          (try (have c54b2 : (t220 == false) = false := by simpa using c54))
          (try (have c54b3 : ¬ (t220 = false) := by simpa using c54))
          have c54t : t229 = true := tt_ c13b0 c54b3
          clear c54
          obtain rfl := Option.some.inj H
          go_enter Try.func6, Try.ntmps6
          try go_wp2_with (first | ((with_reducible refine gate_dst (N := 2) rfl ?_); refine box_event ?hg (N := 2) ?hd (cs := #[.int .i64 a0_0, .int .i64 a0_1, .int .u64 a0_2, .string a0_3]) (t := 24) ?hr ?_; (case hd => rfl); (case hg => rfl); (case hr => first | (go_simp; done) | (go_simp; rfl)); intro g8 hg w74 hbox hb; have m0 := am_ (below_step (by repeat (first | (with_reducible first | exact HB.out | apply below_alloc | apply pw_below_drewN | apply below_drew1) | exact HB.out)) hb); have m1 := am_ (hbox); have m2 := am_ ((by rw [hg]; exact (below_size (by repeat (first | (with_reducible first | exact HB.out | apply below_alloc | apply pw_below_drewN | apply below_drew1) | exact HB.out))) : w.heap.size ≤ g8)); have n3_ := am_ ((by rw [hg]; exact (below_size (by repeat (first | (with_reducible first | exact HB.out | apply below_alloc | apply pw_below_drewN | apply below_drew1) | exact HB.out))) : w.heap.size ≤ g8)); clear HB; have HB := m0; have K8 := m1; have GW198 := m2; have G8 := n3_; clear m0 m1 m2 n3_; clear hb hbox hg) | ((with_reducible refine gate_dst (N := 3) rfl ?_); refine box_event ?hg (N := 3) ?hd (cs := #[.int .i64 a1_0, .int .i64 a1_1, .int .u64 a1_2, .string a1_3]) (t := 24) ?hr ?_; (case hd => rfl); (case hg => rfl); (case hr => first | (go_simp; done) | (go_simp; rfl)); intro g9 hg w75 hbox hb; have m0 := am_ (blk_below (g := g8) (o := .cells #[.int .i64 a0_0, .int .i64 a0_1, .int .u64 a0_2, .string a0_3] 24 (0, 0)) (by (with_reducible repeat (first | refine blk_drewN ?_ _ | refine blk_drew ?_ | refine blk_alloc ?_ _)); exact K8.out) hb); have m1 := am_ (below_step (by repeat (first | (with_reducible first | exact HB.out | apply below_alloc | apply pw_below_drewN | apply below_drew1 | refine below_set ?_ G8.out) | exact HB.out)) hb); have m2 := am_ (hbox); have n3_ := am_ ((by rw [hg]; exact (below_size (by repeat (first | (with_reducible first | exact HB.out | apply below_alloc | apply pw_below_drewN | apply below_drew1 | refine below_set ?_ G8.out) | exact HB.out))) : w.heap.size ≤ g9)); have n4_ := am_ ((by rw [hg]; exact (below_size (by repeat (first | (with_reducible first | exact HB.out | apply below_alloc | apply pw_below_drewN | apply below_drew1 | refine below_set ?_ G8.out) | exact HB.out))) : w.heap.size ≤ g9)); have n5_ := am_ ((by rw [hg]; exact Nat.ne_of_lt (blk_lt (g := g8) (o := .cells #[.int .i64 a0_0, .int .i64 a0_1, .int .u64 a0_2, .string a0_3] 24 (0, 0)) (by (with_reducible repeat (first | refine blk_drewN ?_ _ | refine blk_drew ?_ | refine blk_alloc ?_ _)); exact K8.out)) : g8 ≠ g9)); have n6_ := am_ ((by rw [hg]; exact Nat.ne_of_gt (blk_lt (g := g8) (o := .cells #[.int .i64 a0_0, .int .i64 a0_1, .int .u64 a0_2, .string a0_3] 24 (0, 0)) (by (with_reducible repeat (first | refine blk_drewN ?_ _ | refine blk_drew ?_ | refine blk_alloc ?_ _)); exact K8.out)) : g9 ≠ g8)); clear K8; clear HB; have K8 := m0; have HB := m1; have K9 := m2; have GW199 := n3_; have G9 := n4_; have NB198_199 := n5_; have NB199_198 := n6_; clear m0 m1 m2 n3_ n4_ n5_ n6_; clear hb hbox hg; have hnb76 := NB198_199.out; have hnc76 := NB199_198.out; have hcz77_0 : w75.cell? ⟨g8, 0, none⟩ = some (.int .i64 a0_0) := (bc_ K8.out 0).trans rfl; have hcz77_1 : w75.cell? ⟨g8, 1, none⟩ = some (.int .i64 a0_1) := (bc_ K8.out 1).trans rfl; have hcz77_2 : w75.cell? ⟨g8, 2, none⟩ = some (.int .u64 a0_2) := (bc_ K8.out 2).trans rfl; have hcz77_3 : w75.cell? ⟨g8, 3, none⟩ = some (.string a0_3) := (bc_ K8.out 3).trans rfl; have hfz77_0 := blk_frozen K8.out 0; have hfz77_1 := blk_frozen K8.out 1; have hfz77_2 := blk_frozen K8.out 2; have hfz77_3 := blk_frozen K8.out 3) | ((with_reducible refine gate_callee (f := 8) rfl ?_); refine goesL_ (some 12) rfl rfl Try.func8 (by kernel_rfl) rfl #[.agg #[.int .i64 a0_0, .int .i64 a0_1, .int .u64 a0_2, .string a0_3]] rfl (by (try simp only [List.map_toArray, List.map_cons, List.map_nil]); first | done | rfl | (simp only [List.length_drop, List.length_take]; rfl)) ?_; (with_reducible refine (boscagelaw03_Give.calls a0_0 a0_1 a0_2 a0_3 t200 t201 t202 t203 _ A3.out).mono ?_); rintro e w78 ⟨rfl, hb⟩; refine ⟨_, rfl, ?_⟩; have m0 := am_ (blk_below (g := g8) (o := .cells #[.int .i64 a0_0, .int .i64 a0_1, .int .u64 a0_2, .string a0_3] 24 (0, 0)) (by (with_reducible repeat (first | refine blk_drewN ?_ _ | refine blk_drew ?_ | refine blk_alloc ?_ _)); exact K8.out) hb); have m1 := am_ (blk_below (g := g9) (o := .cells #[.int .i64 a1_0, .int .i64 a1_1, .int .u64 a1_2, .string a1_3] 24 (0, 0)) (by (with_reducible repeat (first | refine blk_drewN ?_ _ | refine blk_drew ?_ | refine blk_alloc ?_ _)); exact K9.out) hb); have m2 := am_ (below_step (by repeat (first | (with_reducible first | exact HB.out | apply below_alloc | apply pw_below_drewN | apply below_drew1 | refine below_set ?_ G8.out | refine below_set ?_ G9.out) | exact HB.out)) hb); clear K8; clear K9; clear HB; have K8 := m0; have K9 := m1; have HB := m2; clear m0 m1 m2; (try clear hb); (try clear hb2); (try clear hk); (try clear hi)) | ((with_reducible refine gate_callee (f := 7) rfl ?_); refine goesL_ (some 13) rfl rfl Try.func7 (by kernel_rfl) rfl #[.agg #[.int .i64 t200, .int .i64 t201, .int .u64 t202, .string t203]] rfl (by (try simp only [List.map_toArray, List.map_cons, List.map_nil]); first | done | rfl | (simp only [List.length_drop, List.length_take]; rfl)) ?_; (with_reducible refine (code_Make.calls t200 t201 t202 t203 t204 t205 _ A4.out).mono ?_); rintro e w79 ⟨rfl, hb⟩; refine ⟨_, rfl, ?_⟩; have m0 := am_ (blk_below (g := g8) (o := .cells #[.int .i64 a0_0, .int .i64 a0_1, .int .u64 a0_2, .string a0_3] 24 (0, 0)) (by (with_reducible repeat (first | refine blk_drewN ?_ _ | refine blk_drew ?_ | refine blk_alloc ?_ _)); exact K8.out) hb); have m1 := am_ (blk_below (g := g9) (o := .cells #[.int .i64 a1_0, .int .i64 a1_1, .int .u64 a1_2, .string a1_3] 24 (0, 0)) (by (with_reducible repeat (first | refine blk_drewN ?_ _ | refine blk_drew ?_ | refine blk_alloc ?_ _)); exact K9.out) hb); have m2 := am_ (below_step (by repeat (first | (with_reducible first | exact HB.out | apply below_alloc | apply pw_below_drewN | apply below_drew1 | refine below_set ?_ G8.out | refine below_set ?_ G9.out) | exact HB.out)) hb); clear K8; clear K9; clear HB; have K8 := m0; have K9 := m1; have HB := m2; clear m0 m1 m2; (try clear hb); (try clear hb2); (try clear hk); (try clear hi); have hcz80_0 : w79.cell? ⟨g9, 0, none⟩ = some (.int .i64 a1_0) := (bc_ K9.out 0).trans rfl; have hcz80_1 : w79.cell? ⟨g9, 1, none⟩ = some (.int .i64 a1_1) := (bc_ K9.out 1).trans rfl; have hcz80_2 : w79.cell? ⟨g9, 2, none⟩ = some (.int .u64 a1_2) := (bc_ K9.out 2).trans rfl; have hcz80_3 : w79.cell? ⟨g9, 3, none⟩ = some (.string a1_3) := (bc_ K9.out 3).trans rfl; have hfz80_0 := blk_frozen K9.out 0; have hfz80_1 := blk_frozen K9.out 1; have hfz80_2 := blk_frozen K9.out 2; have hfz80_3 := blk_frozen K9.out 3) | ((with_reducible refine gate_callee (f := 8) rfl ?_); refine goesL_ (some 18) rfl rfl Try.func8 (by kernel_rfl) rfl #[.agg #[.int .i64 a1_0, .int .i64 a1_1, .int .u64 a1_2, .string a1_3]] rfl (by (try simp only [List.map_toArray, List.map_cons, List.map_nil]); first | done | rfl | (simp only [List.length_drop, List.length_take]; rfl)) ?_; (with_reducible refine (boscagelaw03_Give.calls a1_0 a1_1 a1_2 a1_3 t206 t207 t208 t209 _ A5.out).mono ?_); rintro e w81 ⟨rfl, hb⟩; refine ⟨_, rfl, ?_⟩; have m0 := am_ (blk_below (g := g8) (o := .cells #[.int .i64 a0_0, .int .i64 a0_1, .int .u64 a0_2, .string a0_3] 24 (0, 0)) (by (with_reducible repeat (first | refine blk_drewN ?_ _ | refine blk_drew ?_ | refine blk_alloc ?_ _)); exact K8.out) hb); have m1 := am_ (blk_below (g := g9) (o := .cells #[.int .i64 a1_0, .int .i64 a1_1, .int .u64 a1_2, .string a1_3] 24 (0, 0)) (by (with_reducible repeat (first | refine blk_drewN ?_ _ | refine blk_drew ?_ | refine blk_alloc ?_ _)); exact K9.out) hb); have m2 := am_ (below_step (by repeat (first | (with_reducible first | exact HB.out | apply below_alloc | apply pw_below_drewN | apply below_drew1 | refine below_set ?_ G8.out | refine below_set ?_ G9.out) | exact HB.out)) hb); clear K8; clear K9; clear HB; have K8 := m0; have K9 := m1; have HB := m2; clear m0 m1 m2; (try clear hb); (try clear hb2); (try clear hk); (try clear hi)) | ((with_reducible refine gate_callee (f := 7) rfl ?_); refine goesL_ (some 19) rfl rfl Try.func7 (by kernel_rfl) rfl #[.agg #[.int .i64 t206, .int .i64 t207, .int .u64 t208, .string t209]] rfl (by (try simp only [List.map_toArray, List.map_cons, List.map_nil]); first | done | rfl | (simp only [List.length_drop, List.length_take]; rfl)) ?_; (with_reducible refine (code_Make.calls t206 t207 t208 t209 t210 t211 _ A6.out).mono ?_); rintro e w82 ⟨rfl, hb⟩; refine ⟨_, rfl, ?_⟩; have m0 := am_ (blk_below (g := g8) (o := .cells #[.int .i64 a0_0, .int .i64 a0_1, .int .u64 a0_2, .string a0_3] 24 (0, 0)) (by (with_reducible repeat (first | refine blk_drewN ?_ _ | refine blk_drew ?_ | refine blk_alloc ?_ _)); exact K8.out) hb); have m1 := am_ (blk_below (g := g9) (o := .cells #[.int .i64 a1_0, .int .i64 a1_1, .int .u64 a1_2, .string a1_3] 24 (0, 0)) (by (with_reducible repeat (first | refine blk_drewN ?_ _ | refine blk_drew ?_ | refine blk_alloc ?_ _)); exact K9.out) hb); have m2 := am_ (below_step (by repeat (first | (with_reducible first | exact HB.out | apply below_alloc | apply pw_below_drewN | apply below_drew1 | refine below_set ?_ G8.out | refine below_set ?_ G9.out) | exact HB.out)) hb); clear K8; clear K9; clear HB; have K8 := m0; have K9 := m1; have HB := m2; clear m0 m1 m2; (try clear hb); (try clear hb2); (try clear hk); (try clear hi)))
          have m0 := am_ (blk_drew K8.out)
          have m1 := am_ (blk_drew K9.out)
          have m2 := am_ (below_drew1 HB.out)
          clear K8
          clear K9
          clear HB
          have K8 := m0
          have K9 := m1
          have HB := m2
          clear m0 m1 m2
          refine start_ (n := 6) (S := fun w' => w'.cell? ⟨g8, 0, none⟩ = some (.int .i64 a0_0) ∧ w'.cell? ⟨g8, 1, none⟩ = some (.int .i64 a0_1) ∧ w'.cell? ⟨g8, 2, none⟩ = some (.int .u64 a0_2) ∧ w'.cell? ⟨g8, 3, none⟩ = some (.string a0_3) ∧ w'.cell? ⟨g9, 0, none⟩ = some (.int .i64 a1_0) ∧ w'.cell? ⟨g9, 1, none⟩ = some (.int .i64 a1_1) ∧ w'.cell? ⟨g9, 2, none⟩ = some (.int .u64 a1_2) ∧ w'.cell? ⟨g9, 3, none⟩ = some (.string a1_3)) (ds := []) #[false, false, false, false, false, false] (by kernel_rfl) rfl rfl ⟨(bc_ K8.out 0).trans rfl, (bc_ K8.out 1).trans rfl, (bc_ K8.out 2).trans rfl, (bc_ K8.out 3).trans rfl, (bc_ K9.out 0).trans rfl, (bc_ K9.out 1).trans rfl, (bc_ K9.out 2).trans rfl, (bc_ K9.out 3).trans rfl⟩ (fun hL => ?_)
          generalize w82.drew = w83 at K8 K9 HB hL ⊢
          refine take_ (i := 0) (N := some 22) (v := ?_) (a' := ?_) #[true, false, false, false, false, false] rfl rfl (by kernel_rfl) (fun _ _ _ h => h) (Or.inl ⟨by rfl, ?_⟩) hL ?_ ?_
          rotate_left
          · rintro w' ⟨s0, s1, s2, s3, s4, s5, s6, s7⟩
            go_simp
            with_reducible rfl
          rotate_left
          · simp only [Act.put, sa_, sz_, ss_, i64_w, i32_w]
            rfl
          refine take_ (i := 2) (N := some 24) (v := ?_) (a' := ?_) #[true, false, true, false, false, false] rfl rfl (by kernel_rfl) (fun _ _ _ h => h) (Or.inl ⟨by rfl, ?_⟩) hL ?_ ?_
          rotate_left
          · rintro w' ⟨s0, s1, s2, s3, s4, s5, s6, s7⟩
            go_simp
            with_reducible rfl
          rotate_left
          · simp only [Act.put, sa_, sz_, ss_, i64_w, i32_w]
            rfl
          refine one_ (i := 1) (N := some 23) #[true, true, true, false, false, false] rfl rfl (by kernel_rfl) (by decide) (fun K hK => ?_)
          refine goes_ Try.func8 (by kernel_rfl) rfl #[.agg #[.int .i64 a0_0, .int .i64 a0_1, .int .u64 a0_2, .string a0_3]] (by rfl) rfl rfl (by (try simp only [List.map_toArray, List.map_cons, List.map_nil]); first | done | rfl | (simp only [List.length_drop, List.length_take]; rfl)) ?_
          with_reducible refine (boscagelaw03_Give.calls a0_0 a0_1 a0_2 a0_3 t212 t213 t214 t215 _ A7.out).mono ?_
          rintro e w84 ⟨rfl, hb⟩
          refine ⟨_, rfl, ?_⟩
          have m0 := am_ (blk_below (g := g8) (o := .cells #[.int .i64 a0_0, .int .i64 a0_1, .int .u64 a0_2, .string a0_3] 24 (0, 0)) (by (with_reducible repeat (first | refine blk_drewN ?_ _ | refine blk_drew ?_ | refine blk_alloc ?_ _)); exact K8.out) hb)
          have m1 := am_ (blk_below (g := g9) (o := .cells #[.int .i64 a1_0, .int .i64 a1_1, .int .u64 a1_2, .string a1_3] 24 (0, 0)) (by (with_reducible repeat (first | refine blk_drewN ?_ _ | refine blk_drew ?_ | refine blk_alloc ?_ _)); exact K9.out) hb)
          have m2 := am_ (below_step (by repeat (first | (with_reducible first | exact HB.out | apply below_alloc | apply pw_below_drewN | apply below_drew1 | refine below_set ?_ G8.out | refine below_set ?_ G9.out) | exact HB.out)) hb)
          clear K8
          clear K9
          clear HB
          have K8 := m0
          have K9 := m1
          have HB := m2
          clear m0 m1 m2
          (try clear hb)
          (try clear hb2)
          (try clear hk)
          (try clear hi)
          refine hK.out _ _ ⟨(bc_ K8.out 0).trans rfl, (bc_ K8.out 1).trans rfl, (bc_ K8.out 2).trans rfl, (bc_ K8.out 3).trans rfl, (bc_ K9.out 0).trans rfl, (bc_ K9.out 1).trans rfl, (bc_ K9.out 2).trans rfl, (bc_ K9.out 3).trans rfl⟩ (fun hL => ?_)
          clear hK K
          refine norm_ (a' := ?_) ?_ ?_
          rotate_left
          · show Act.put _ (some 23) _ = _
            simp only [Act.put, sa_, sz_, ss_, i64_w, i32_w]
            rfl
          refine one_ (i := 3) (N := some 25) #[true, true, true, true, false, false] rfl rfl (by kernel_rfl) (by decide) (fun K hK => ?_)
          refine goes_ Try.func8 (by kernel_rfl) rfl #[.agg #[.int .i64 a1_0, .int .i64 a1_1, .int .u64 a1_2, .string a1_3]] (by rfl) rfl rfl (by (try simp only [List.map_toArray, List.map_cons, List.map_nil]); first | done | rfl | (simp only [List.length_drop, List.length_take]; rfl)) ?_
          with_reducible refine (boscagelaw03_Give.calls a1_0 a1_1 a1_2 a1_3 t216 t217 t218 t219 _ A8.out).mono ?_
          rintro e w85 ⟨rfl, hb⟩
          refine ⟨_, rfl, ?_⟩
          have m0 := am_ (blk_below (g := g8) (o := .cells #[.int .i64 a0_0, .int .i64 a0_1, .int .u64 a0_2, .string a0_3] 24 (0, 0)) (by (with_reducible repeat (first | refine blk_drewN ?_ _ | refine blk_drew ?_ | refine blk_alloc ?_ _)); exact K8.out) hb)
          have m1 := am_ (blk_below (g := g9) (o := .cells #[.int .i64 a1_0, .int .i64 a1_1, .int .u64 a1_2, .string a1_3] 24 (0, 0)) (by (with_reducible repeat (first | refine blk_drewN ?_ _ | refine blk_drew ?_ | refine blk_alloc ?_ _)); exact K9.out) hb)
          have m2 := am_ (below_step (by repeat (first | (with_reducible first | exact HB.out | apply below_alloc | apply pw_below_drewN | apply below_drew1 | refine below_set ?_ G8.out | refine below_set ?_ G9.out) | exact HB.out)) hb)
          clear K8
          clear K9
          clear HB
          have K8 := m0
          have K9 := m1
          have HB := m2
          clear m0 m1 m2
          (try clear hb)
          (try clear hb2)
          (try clear hk)
          (try clear hi)
          refine hK.out _ _ ⟨(bc_ K8.out 0).trans rfl, (bc_ K8.out 1).trans rfl, (bc_ K8.out 2).trans rfl, (bc_ K8.out 3).trans rfl, (bc_ K9.out 0).trans rfl, (bc_ K9.out 1).trans rfl, (bc_ K9.out 2).trans rfl, (bc_ K9.out 3).trans rfl⟩ (fun hL => ?_)
          clear hK K
          refine norm_ (a' := ?_) ?_ ?_
          rotate_left
          · show Act.put _ (some 25) _ = _
            simp only [Act.put, sa_, sz_, ss_, i64_w, i32_w]
            rfl
          refine one_ (i := 4) (N := some 26) #[true, true, true, true, true, false] rfl rfl (by kernel_rfl) (by decide) (fun K hK => ?_)
          refine goes_ Try.func17 (by kernel_rfl) rfl #[.agg #[.int .i64 t212, .int .i64 t213, .int .u64 t214, .string t215], .agg #[.int .i64 t216, .int .i64 t217, .int .u64 t218, .string t219]] (by rfl) rfl rfl (by (try simp only [List.map_toArray, List.map_cons, List.map_nil]); first | done | rfl | (simp only [List.length_drop, List.length_take]; rfl)) ?_
          with_reducible refine (code_Less.calls t212 t213 t214 t215 t216 t217 t218 t219 t220 _ A9.out).mono ?_
          rintro e w86 ⟨rfl, hb⟩
          refine ⟨_, rfl, ?_⟩
          have m0 := am_ (blk_below (g := g8) (o := .cells #[.int .i64 a0_0, .int .i64 a0_1, .int .u64 a0_2, .string a0_3] 24 (0, 0)) (by (with_reducible repeat (first | refine blk_drewN ?_ _ | refine blk_drew ?_ | refine blk_alloc ?_ _)); exact K8.out) hb)
          have m1 := am_ (blk_below (g := g9) (o := .cells #[.int .i64 a1_0, .int .i64 a1_1, .int .u64 a1_2, .string a1_3] 24 (0, 0)) (by (with_reducible repeat (first | refine blk_drewN ?_ _ | refine blk_drew ?_ | refine blk_alloc ?_ _)); exact K9.out) hb)
          have m2 := am_ (below_step (by repeat (first | (with_reducible first | exact HB.out | apply below_alloc | apply pw_below_drewN | apply below_drew1 | refine below_set ?_ G8.out | refine below_set ?_ G9.out) | exact HB.out)) hb)
          clear K8
          clear K9
          clear HB
          have K8 := m0
          have K9 := m1
          have HB := m2
          clear m0 m1 m2
          (try clear hb)
          (try clear hb2)
          (try clear hk)
          (try clear hi)
          refine hK.out _ _ ⟨(bc_ K8.out 0).trans rfl, (bc_ K8.out 1).trans rfl, (bc_ K8.out 2).trans rfl, (bc_ K8.out 3).trans rfl, (bc_ K9.out 0).trans rfl, (bc_ K9.out 1).trans rfl, (bc_ K9.out 2).trans rfl, (bc_ K9.out 3).trans rfl⟩ (fun hL => ?_)
          clear hK K
          refine norm_ (a' := ?_) ?_ ?_
          rotate_left
          · show Act.put _ (some 26) _ = _
            simp only [Act.put, sa_, sz_, ss_, i64_w, i32_w]
            rfl
          refine pure_ (i := 5) (N := some 9) (v := ?_) (a' := ?_) #[true, true, true, true, true, true] rfl rfl (by kernel_rfl) (fun _ _ _ h => h) (Or.inl ⟨by rfl, ?_⟩) ?_ ?_
          rotate_left
          · intro w'
            go_simp
            with_reducible rfl
          rotate_left
          · simp only [Act.put, sa_, sz_, ss_, i64_w, i32_w]
            rfl
          refine done_ (by kernel_rfl) ?_
          try go_wp2
          have m0 := am_ (blk_drew K8.out)
          have m1 := am_ (blk_drew K9.out)
          have m2 := am_ (below_drew1 HB.out)
          clear K8
          clear K9
          clear HB
          have K8 := m0
          have K9 := m1
          have HB := m2
          clear m0 m1 m2
          refine start_ (n := 26) (S := fun w' => w'.cell? ⟨g8, 0, none⟩ = some (.int .i64 a0_0) ∧ w'.cell? ⟨g8, 1, none⟩ = some (.int .i64 a0_1) ∧ w'.cell? ⟨g8, 2, none⟩ = some (.int .u64 a0_2) ∧ w'.cell? ⟨g8, 3, none⟩ = some (.string a0_3) ∧ w'.cell? ⟨g9, 0, none⟩ = some (.int .i64 a1_0) ∧ w'.cell? ⟨g9, 1, none⟩ = some (.int .i64 a1_1) ∧ w'.cell? ⟨g9, 2, none⟩ = some (.int .u64 a1_2) ∧ w'.cell? ⟨g9, 3, none⟩ = some (.string a1_3)) (ds := []) #[false, false, false, false, false, false, false, false, false, false, false, false, false, false, false, false, false, false, false, false, false, false, false, false, false, false] (by kernel_rfl) rfl rfl ⟨(bc_ K8.out 0).trans rfl, (bc_ K8.out 1).trans rfl, (bc_ K8.out 2).trans rfl, (bc_ K8.out 3).trans rfl, (bc_ K9.out 0).trans rfl, (bc_ K9.out 1).trans rfl, (bc_ K9.out 2).trans rfl, (bc_ K9.out 3).trans rfl⟩ (fun hL => ?_); refine with_tabW boscagelaw03_CodeOrders.tab4 boscagelaw03_CodeOrders.bits4 (fun HT_ HW_ => ?_)
          generalize w86.drew = w87 at K8 K9 HB hL ⊢
          refine pure_ (i := 0) (N := some 27) (v := ?_) (a' := ?_) #[true, false, false, false, false, false, false, false, false, false, false, false, false, false, false, false, false, false, false, false, false, false, false, false, false, false] rfl rfl (any_of HT_.out (by kernel_rfl)) (fun _ _ _ h => h) (Or.inl ⟨by rfl, ?_⟩) ?_ ?_
          rotate_left
          · intro w'
            go_simp
            with_reducible rfl
          rotate_left
          · simp only [Act.put, sa_, sz_, ss_, i64_w, i32_w]
            rfl
          refine take_ (i := 1) (N := some 28) (v := ?_) (a' := ?_) #[true, true, false, false, false, false, false, false, false, false, false, false, false, false, false, false, false, false, false, false, false, false, false, false, false, false] rfl rfl (take_ofW HT_.out HW_.out (by kernel_rfl)) (fun _ _ _ h => h) (Or.inl ⟨by rfl, ?_⟩) hL ?_ ?_
          rotate_left
          · rintro w' ⟨s0, s1, s2, s3, s4, s5, s6, s7⟩
            go_simp
            with_reducible rfl
          rotate_left
          · simp only [Act.put, sa_, sz_, ss_, i64_w, i32_w]
            rfl
          refine take_ (i := 3) (N := some 30) (v := ?_) (a' := ?_) #[true, true, false, true, false, false, false, false, false, false, false, false, false, false, false, false, false, false, false, false, false, false, false, false, false, false] rfl rfl (take_ofW HT_.out HW_.out (by kernel_rfl)) (fun _ _ _ h => h) (Or.inl ⟨by rfl, ?_⟩) hL ?_ ?_
          rotate_left
          · rintro w' ⟨s0, s1, s2, s3, s4, s5, s6, s7⟩
            go_simp
            with_reducible rfl
          rotate_left
          · simp only [Act.put, sa_, sz_, ss_, i64_w, i32_w]
            rfl
          refine one_ (i := 2) (N := some 29) #[true, true, true, true, false, false, false, false, false, false, false, false, false, false, false, false, false, false, false, false, false, false, false, false, false, false] rfl rfl (one_of HT_.out (by kernel_rfl)) (by decide) (fun K hK => ?_)
          refine goes_ Try.func10 (by kernel_rfl) rfl #[.agg #[.int .i64 a0_0, .int .i64 a0_1, .int .u64 a0_2, .string a0_3]] (by rfl) rfl rfl (by (try simp only [List.map_toArray, List.map_cons, List.map_nil]); first | done | rfl | (simp only [List.length_drop, List.length_take]; rfl)) ?_
          with_reducible refine (boscagelaw03_short.calls a0_0 a0_1 a0_2 a0_3 t221 t222 t223 t224 _ A10.out).mono ?_
          rintro e w88 ⟨rfl, hb⟩
          refine ⟨_, rfl, ?_⟩
          have m0 := am_ (blk_below (g := g8) (o := .cells #[.int .i64 a0_0, .int .i64 a0_1, .int .u64 a0_2, .string a0_3] 24 (0, 0)) (by (with_reducible repeat (first | refine blk_drewN ?_ _ | refine blk_drew ?_ | refine blk_alloc ?_ _)); exact K8.out) hb)
          have m1 := am_ (blk_below (g := g9) (o := .cells #[.int .i64 a1_0, .int .i64 a1_1, .int .u64 a1_2, .string a1_3] 24 (0, 0)) (by (with_reducible repeat (first | refine blk_drewN ?_ _ | refine blk_drew ?_ | refine blk_alloc ?_ _)); exact K9.out) hb)
          have m2 := am_ (below_step (by repeat (first | (with_reducible first | exact HB.out | apply below_alloc | apply pw_below_drewN | apply below_drew1 | refine below_set ?_ G8.out | refine below_set ?_ G9.out) | exact HB.out)) hb)
          clear K8
          clear K9
          clear HB
          have K8 := m0
          have K9 := m1
          have HB := m2
          clear m0 m1 m2
          (try clear hb)
          (try clear hb2)
          (try clear hk)
          (try clear hi)
          refine hK.out _ _ ⟨(bc_ K8.out 0).trans rfl, (bc_ K8.out 1).trans rfl, (bc_ K8.out 2).trans rfl, (bc_ K8.out 3).trans rfl, (bc_ K9.out 0).trans rfl, (bc_ K9.out 1).trans rfl, (bc_ K9.out 2).trans rfl, (bc_ K9.out 3).trans rfl⟩ (fun hL => ?_)
          clear hK K
          refine norm_ (a' := ?_) ?_ ?_
          rotate_left
          · show Act.put _ (some 29) _ = _
            simp only [Act.put, sa_, sz_, ss_, i64_w, i32_w]
            rfl
          refine one_ (i := 4) (N := some 31) #[true, true, true, true, true, false, false, false, false, false, false, false, false, false, false, false, false, false, false, false, false, false, false, false, false, false] rfl rfl (one_of HT_.out (by kernel_rfl)) (by decide) (fun K hK => ?_)
          refine goes_ Try.func10 (by kernel_rfl) rfl #[.agg #[.int .i64 a1_0, .int .i64 a1_1, .int .u64 a1_2, .string a1_3]] (by rfl) rfl rfl (by (try simp only [List.map_toArray, List.map_cons, List.map_nil]); first | done | rfl | (simp only [List.length_drop, List.length_take]; rfl)) ?_
          with_reducible refine (boscagelaw03_short.calls a1_0 a1_1 a1_2 a1_3 t225 t226 t227 t228 _ A11.out).mono ?_
          rintro e w89 ⟨rfl, hb⟩
          refine ⟨_, rfl, ?_⟩
          have m0 := am_ (blk_below (g := g8) (o := .cells #[.int .i64 a0_0, .int .i64 a0_1, .int .u64 a0_2, .string a0_3] 24 (0, 0)) (by (with_reducible repeat (first | refine blk_drewN ?_ _ | refine blk_drew ?_ | refine blk_alloc ?_ _)); exact K8.out) hb)
          have m1 := am_ (blk_below (g := g9) (o := .cells #[.int .i64 a1_0, .int .i64 a1_1, .int .u64 a1_2, .string a1_3] 24 (0, 0)) (by (with_reducible repeat (first | refine blk_drewN ?_ _ | refine blk_drew ?_ | refine blk_alloc ?_ _)); exact K9.out) hb)
          have m2 := am_ (below_step (by repeat (first | (with_reducible first | exact HB.out | apply below_alloc | apply pw_below_drewN | apply below_drew1 | refine below_set ?_ G8.out | refine below_set ?_ G9.out) | exact HB.out)) hb)
          clear K8
          clear K9
          clear HB
          have K8 := m0
          have K9 := m1
          have HB := m2
          clear m0 m1 m2
          (try clear hb)
          (try clear hb2)
          (try clear hk)
          (try clear hi)
          refine hK.out _ _ ⟨(bc_ K8.out 0).trans rfl, (bc_ K8.out 1).trans rfl, (bc_ K8.out 2).trans rfl, (bc_ K8.out 3).trans rfl, (bc_ K9.out 0).trans rfl, (bc_ K9.out 1).trans rfl, (bc_ K9.out 2).trans rfl, (bc_ K9.out 3).trans rfl⟩ (fun hL => ?_)
          clear hK K
          refine norm_ (a' := ?_) ?_ ?_
          rotate_left
          · show Act.put _ (some 31) _ = _
            simp only [Act.put, sa_, sz_, ss_, i64_w, i32_w]
            rfl
          refine one_ (i := 5) (N := some 32) #[true, true, true, true, true, true, false, false, false, false, false, false, false, false, false, false, false, false, false, false, false, false, false, false, false, false] rfl rfl (one_of HT_.out (by kernel_rfl)) (by decide) (fun K hK => ?_)
          refine goes_ Try.func18 (by kernel_rfl) rfl #[.agg #[.int .i64 t221, .int .i64 t222, .int .u64 t223, .string t224], .agg #[.int .i64 t225, .int .i64 t226, .int .u64 t227, .string t228]] (by rfl) rfl rfl (by (try simp only [List.map_toArray, List.map_cons, List.map_nil]); first | done | rfl | (simp only [List.length_drop, List.length_take]; rfl)) ?_
          with_reducible refine (boscageref03_Less.calls k t221 t222 t223 t224 t225 t226 t227 t228 t229 _ A12.out).mono ?_
          rintro e w90 ⟨rfl, hb⟩
          refine ⟨_, rfl, ?_⟩
          have m0 := am_ (blk_below (g := g8) (o := .cells #[.int .i64 a0_0, .int .i64 a0_1, .int .u64 a0_2, .string a0_3] 24 (0, 0)) (by (with_reducible repeat (first | refine blk_drewN ?_ _ | refine blk_drew ?_ | refine blk_alloc ?_ _)); exact K8.out) hb)
          have m1 := am_ (blk_below (g := g9) (o := .cells #[.int .i64 a1_0, .int .i64 a1_1, .int .u64 a1_2, .string a1_3] 24 (0, 0)) (by (with_reducible repeat (first | refine blk_drewN ?_ _ | refine blk_drew ?_ | refine blk_alloc ?_ _)); exact K9.out) hb)
          have m2 := am_ (below_step (by repeat (first | (with_reducible first | exact HB.out | apply below_alloc | apply pw_below_drewN | apply below_drew1 | refine below_set ?_ G8.out | refine below_set ?_ G9.out) | exact HB.out)) hb)
          clear K8
          clear K9
          clear HB
          have K8 := m0
          have K9 := m1
          have HB := m2
          clear m0 m1 m2
          (try clear hb)
          (try clear hb2)
          (try clear hk)
          (try clear hi)
          refine hK.out _ _ ⟨(bc_ K8.out 0).trans rfl, (bc_ K8.out 1).trans rfl, (bc_ K8.out 2).trans rfl, (bc_ K8.out 3).trans rfl, (bc_ K9.out 0).trans rfl, (bc_ K9.out 1).trans rfl, (bc_ K9.out 2).trans rfl, (bc_ K9.out 3).trans rfl⟩ (fun hL => ?_)
          clear hK K
          refine norm_ (a' := ?_) ?_ ?_
          rotate_left
          · show Act.put _ (some 32) _ = _
            simp only [Act.put, sa_, sz_, ss_, i64_w, i32_w]
            rfl
          refine pure_ (i := 6) (N := some 33) (v := ?_) (a' := ?_) #[true, true, true, true, true, true, true, false, false, false, false, false, false, false, false, false, false, false, false, false, false, false, false, false, false, false] rfl rfl (any_of HT_.out (by kernel_rfl)) (fun _ _ _ h => h) (Or.inl ⟨by rfl, ?_⟩) ?_ ?_
          rotate_left
          · intro w'
            go_simp
            with_reducible rfl
          rotate_left
          · simp only [Act.put, sa_, sz_, ss_, i64_w, i32_w]
            rfl
          refine pure_ (i := 7) (N := some 34) (v := ?_) (a' := ?_) #[true, true, true, true, true, true, true, true, false, false, false, false, false, false, false, false, false, false, false, false, false, false, false, false, false, false] rfl rfl (any_of HT_.out (by kernel_rfl)) (fun _ _ _ h => h) (Or.inl ⟨by rfl, ?_⟩) ?_ ?_
          rotate_left
          · intro w'
            go_simp
            with_reducible rfl
          rotate_left
          · simp only [Act.put, sa_, sz_, ss_, i64_w, i32_w]
            rfl
          refine pure_ (i := 8) (N := some 35) (v := ?_) (a' := ?_) #[true, true, true, true, true, true, true, true, true, false, false, false, false, false, false, false, false, false, false, false, false, false, false, false, false, false] rfl rfl (any_of HT_.out (by kernel_rfl)) (fun _ _ _ h => h) (Or.inl ⟨by rfl, ?_⟩) ?_ ?_
          rotate_left
          · intro w'
            go_simp
            with_reducible rfl
          rotate_left
          · simp only [Act.put, sa_, sz_, ss_, i64_w, i32_w]
            rfl
          refine pure_ (i := 9) (N := some 36) (v := ?_) (a' := ?_) #[true, true, true, true, true, true, true, true, true, true, false, false, false, false, false, false, false, false, false, false, false, false, false, false, false, false] rfl rfl (any_of HT_.out (by kernel_rfl)) (fun _ _ _ h => h) (Or.inl ⟨by rfl, ?_⟩) ?_ ?_
          rotate_left
          · intro w'
            go_simp
            with_reducible rfl
          rotate_left
          · simp only [Act.put, sa_, sz_, ss_, i64_w, i32_w]
            rfl
          refine pure_ (i := 10) (N := some 37) (v := ?_) (a' := ?_) #[true, true, true, true, true, true, true, true, true, true, true, false, false, false, false, false, false, false, false, false, false, false, false, false, false, false] rfl rfl (any_of HT_.out (by kernel_rfl)) (fun _ _ _ h => h) (Or.inl ⟨by rfl, ?_⟩) ?_ ?_
          rotate_left
          · intro w'
            go_simp
            with_reducible rfl
          rotate_left
          · simp only [Act.put, sa_, sz_, ss_, i64_w, i32_w]
            rfl
          refine pure_ (i := 11) (N := some 38) (v := ?_) (a' := ?_) #[true, true, true, true, true, true, true, true, true, true, true, true, false, false, false, false, false, false, false, false, false, false, false, false, false, false] rfl rfl (any_of HT_.out (by kernel_rfl)) (fun _ _ _ h => h) (Or.inl ⟨by rfl, ?_⟩) ?_ ?_
          rotate_left
          · intro w'
            go_simp
            with_reducible rfl
          rotate_left
          · simp only [Act.put, sa_, sz_, ss_, i64_w, i32_w]
            rfl
          refine pure_ (i := 12) (N := some 39) (v := ?_) (a' := ?_) #[true, true, true, true, true, true, true, true, true, true, true, true, true, false, false, false, false, false, false, false, false, false, false, false, false, false] rfl rfl (any_of HT_.out (by kernel_rfl)) (fun _ _ _ h => h) (Or.inl ⟨by rfl, ?_⟩) ?_ ?_
          rotate_left
          · intro w'
            go_simp
            with_reducible rfl
          rotate_left
          · simp only [Act.put, sa_, sz_, ss_, i64_w, i32_w]
            rfl
          refine pure_ (i := 13) (N := some 40) (v := ?_) (a' := ?_) #[true, true, true, true, true, true, true, true, true, true, true, true, true, true, false, false, false, false, false, false, false, false, false, false, false, false] rfl rfl (any_of HT_.out (by kernel_rfl)) (fun _ _ _ h => h) (Or.inl ⟨by rfl, ?_⟩) ?_ ?_
          rotate_left
          · intro w'
            go_simp
            with_reducible rfl
          rotate_left
          · simp only [Act.put, sa_, sz_, ss_, i64_w, i32_w]
            rfl
          refine pure_ (i := 14) (N := some 41) (v := ?_) (a' := ?_) #[true, true, true, true, true, true, true, true, true, true, true, true, true, true, true, false, false, false, false, false, false, false, false, false, false, false] rfl rfl (any_of HT_.out (by kernel_rfl)) (fun _ _ _ h => h) (Or.inl ⟨by rfl, ?_⟩) ?_ ?_
          rotate_left
          · intro w'
            go_simp
            with_reducible rfl
          rotate_left
          · simp only [Act.put, sa_, sz_, ss_, i64_w, i32_w]
            rfl
          refine pure_ (i := 15) (N := some 42) (v := ?_) (a' := ?_) #[true, true, true, true, true, true, true, true, true, true, true, true, true, true, true, true, false, false, false, false, false, false, false, false, false, false] rfl rfl (any_of HT_.out (by kernel_rfl)) (fun _ _ _ h => h) (Or.inl ⟨by rfl, ?_⟩) ?_ ?_
          rotate_left
          · intro w'
            go_simp
            with_reducible rfl
          rotate_left
          · simp only [Act.put, sa_, sz_, ss_, i64_w, i32_w]
            rfl
          refine pure_ (i := 16) (N := some 43) (v := undef) (a' := ?_) #[true, true, true, true, true, true, true, true, true, true, true, true, true, true, true, true, true, false, false, false, false, false, false, false, false, false] rfl rfl (any_of HT_.out (by kernel_rfl)) (fun _ _ _ h => h) (Or.inr ⟨by rfl, rfl⟩) ?_ ?_
          rotate_left
          · simp only [Act.put, sa_, sz_, ss_, i64_w, i32_w]
            rfl
          refine pure_ (i := 17) (N := some 44) (v := undef) (a' := ?_) #[true, true, true, true, true, true, true, true, true, true, true, true, true, true, true, true, true, true, false, false, false, false, false, false, false, false] rfl rfl (any_of HT_.out (by kernel_rfl)) (fun _ _ _ h => h) (Or.inr ⟨by rfl, rfl⟩) ?_ ?_
          rotate_left
          · simp only [Act.put, sa_, sz_, ss_, i64_w, i32_w]
            rfl
          refine pure_ (i := 18) (N := some 45) (v := undef) (a' := ?_) #[true, true, true, true, true, true, true, true, true, true, true, true, true, true, true, true, true, true, true, false, false, false, false, false, false, false] rfl rfl (any_of HT_.out (by kernel_rfl)) (fun _ _ _ h => h) (Or.inr ⟨by rfl, rfl⟩) ?_ ?_
          rotate_left
          · simp only [Act.put, sa_, sz_, ss_, i64_w, i32_w]
            rfl
          refine pure_ (i := 19) (N := some 46) (v := ?_) (a' := ?_) #[true, true, true, true, true, true, true, true, true, true, true, true, true, true, true, true, true, true, true, true, false, false, false, false, false, false] rfl rfl (any_of HT_.out (by kernel_rfl)) (fun _ _ _ h => h) (Or.inl ⟨by rfl, ?_⟩) ?_ ?_
          rotate_left
          · intro w'
            go_simp
            with_reducible rfl
          rotate_left
          · simp only [Act.put, sa_, sz_, ss_, i64_w, i32_w]
            rfl
          refine pure_ (i := 20) (N := some 47) (v := ?_) (a' := ?_) #[true, true, true, true, true, true, true, true, true, true, true, true, true, true, true, true, true, true, true, true, true, false, false, false, false, false] rfl rfl (any_of HT_.out (by kernel_rfl)) (fun _ _ _ h => h) (Or.inl ⟨by rfl, ?_⟩) ?_ ?_
          rotate_left
          · intro w'
            go_simp
            with_reducible rfl
          rotate_left
          · simp only [Act.put, sa_, sz_, ss_, i64_w, i32_w]
            rfl
          refine pure_ (i := 21) (N := some 48) (v := ?_) (a' := ?_) #[true, true, true, true, true, true, true, true, true, true, true, true, true, true, true, true, true, true, true, true, true, true, false, false, false, false] rfl rfl (any_of HT_.out (by kernel_rfl)) (fun _ _ _ h => h) (Or.inl ⟨by rfl, ?_⟩) ?_ ?_
          rotate_left
          · intro w'
            go_simp
            with_reducible rfl
          rotate_left
          · simp only [Act.put, sa_, sz_, ss_, i64_w, i32_w]
            rfl
          refine pure_ (i := 22) (N := some 49) (v := ?_) (a' := ?_) #[true, true, true, true, true, true, true, true, true, true, true, true, true, true, true, true, true, true, true, true, true, true, true, false, false, false] rfl rfl (any_of HT_.out (by kernel_rfl)) (fun _ _ _ h => h) (Or.inl ⟨by rfl, ?_⟩) ?_ ?_
          rotate_left
          · intro w'
            go_simp
            with_reducible rfl
          rotate_left
          · simp only [Act.put, sa_, sz_, ss_, i64_w, i32_w]
            rfl
          refine pure_ (i := 23) (N := some 50) (v := undef) (a' := ?_) #[true, true, true, true, true, true, true, true, true, true, true, true, true, true, true, true, true, true, true, true, true, true, true, true, false, false] rfl rfl (any_of HT_.out (by kernel_rfl)) (fun _ _ _ h => h) (Or.inr ⟨by rfl, rfl⟩) ?_ ?_
          rotate_left
          · simp only [Act.put, sa_, sz_, ss_, i64_w, i32_w]
            rfl
          refine pure_ (i := 24) (N := some 51) (v := ?_) (a' := ?_) #[true, true, true, true, true, true, true, true, true, true, true, true, true, true, true, true, true, true, true, true, true, true, true, true, true, false] rfl rfl (any_of HT_.out (by kernel_rfl)) (fun _ _ _ h => h) (Or.inl ⟨by rfl, ?_⟩) ?_ ?_
          rotate_left
          · intro w'
            go_simp
            with_reducible rfl
          rotate_left
          · simp only [Act.put, sa_, sz_, ss_, i64_w, i32_w]
            rfl
          refine pure_ (i := 25) (N := some 4) (v := ?_) (a' := ?_) #[true, true, true, true, true, true, true, true, true, true, true, true, true, true, true, true, true, true, true, true, true, true, true, true, true, true] rfl rfl (any_of HT_.out (by kernel_rfl)) (fun _ _ _ h => h) (Or.inl ⟨by rfl, ?_⟩) ?_ ?_
          rotate_left
          · intro w'
            go_simp
            with_reducible rfl
          rotate_left
          · simp only [Act.put, sa_, sz_, ss_, i64_w, i32_w]
            rfl
          refine done_ (done_of HT_.out (by kernel_rfl)) ?_
          try go_wp2
          go_ret
          exact ⟨by first | rfl | (simp [errW_none, errW_some] <;> rfl) | (simp [*, errW_none, errW_some] <;> rfl), by repeat (first | (with_reducible first | exact HB.out | apply below_alloc | apply pw_below_drewN | apply below_drew1 | refine below_set ?_ G8.out | refine below_set ?_ G9.out) | exact HB.out)⟩
    · rw [if_neg c14] at H
      have c14b0 : (t205 == 0) = false := beq_eq_false_iff_ne.mpr c14
      have c14b1 : (t205 != 0) = true := bne_iff_ne.mpr c14
      by_cases c91 : (t220 == false) = true
      · rw [if_pos c91] at H
        have c91b0 : (t220 == false) = true := c91
        (try (have c91b1 : decide (t220 = false) = true := by simpa using c91))
        (try (have c91b2 : (t220 == false) = true := by simpa using c91))
        clear c91
        replace H := Option.bind_eq_some_iff.mp H
        obtain ⟨t233, A920, H⟩ := H
        replace H : (some t233) = some r := H
        have A92 := am_ A920
        clear A920
        obtain rfl := Option.some.inj H
        go_enter Try.func6, Try.ntmps6
        try go_wp2_with (first | ((with_reducible refine gate_dst (N := 2) rfl ?_); refine box_event ?hg (N := 2) ?hd (cs := #[.int .i64 a0_0, .int .i64 a0_1, .int .u64 a0_2, .string a0_3]) (t := 24) ?hr ?_; (case hd => rfl); (case hg => rfl); (case hr => first | (go_simp; done) | (go_simp; rfl)); intro g8 hg w93 hbox hb; have m0 := am_ (below_step (by repeat (first | (with_reducible first | exact HB.out | apply below_alloc | apply pw_below_drewN | apply below_drew1) | exact HB.out)) hb); have m1 := am_ (hbox); have m2 := am_ ((by rw [hg]; exact (below_size (by repeat (first | (with_reducible first | exact HB.out | apply below_alloc | apply pw_below_drewN | apply below_drew1) | exact HB.out))) : w.heap.size ≤ g8)); have n3_ := am_ ((by rw [hg]; exact (below_size (by repeat (first | (with_reducible first | exact HB.out | apply below_alloc | apply pw_below_drewN | apply below_drew1) | exact HB.out))) : w.heap.size ≤ g8)); clear HB; have HB := m0; have K8 := m1; have GW198 := m2; have G8 := n3_; clear m0 m1 m2 n3_; clear hb hbox hg) | ((with_reducible refine gate_dst (N := 3) rfl ?_); refine box_event ?hg (N := 3) ?hd (cs := #[.int .i64 a1_0, .int .i64 a1_1, .int .u64 a1_2, .string a1_3]) (t := 24) ?hr ?_; (case hd => rfl); (case hg => rfl); (case hr => first | (go_simp; done) | (go_simp; rfl)); intro g9 hg w94 hbox hb; have m0 := am_ (blk_below (g := g8) (o := .cells #[.int .i64 a0_0, .int .i64 a0_1, .int .u64 a0_2, .string a0_3] 24 (0, 0)) (by (with_reducible repeat (first | refine blk_drewN ?_ _ | refine blk_drew ?_ | refine blk_alloc ?_ _)); exact K8.out) hb); have m1 := am_ (below_step (by repeat (first | (with_reducible first | exact HB.out | apply below_alloc | apply pw_below_drewN | apply below_drew1 | refine below_set ?_ G8.out) | exact HB.out)) hb); have m2 := am_ (hbox); have n3_ := am_ ((by rw [hg]; exact (below_size (by repeat (first | (with_reducible first | exact HB.out | apply below_alloc | apply pw_below_drewN | apply below_drew1 | refine below_set ?_ G8.out) | exact HB.out))) : w.heap.size ≤ g9)); have n4_ := am_ ((by rw [hg]; exact (below_size (by repeat (first | (with_reducible first | exact HB.out | apply below_alloc | apply pw_below_drewN | apply below_drew1 | refine below_set ?_ G8.out) | exact HB.out))) : w.heap.size ≤ g9)); have n5_ := am_ ((by rw [hg]; exact Nat.ne_of_lt (blk_lt (g := g8) (o := .cells #[.int .i64 a0_0, .int .i64 a0_1, .int .u64 a0_2, .string a0_3] 24 (0, 0)) (by (with_reducible repeat (first | refine blk_drewN ?_ _ | refine blk_drew ?_ | refine blk_alloc ?_ _)); exact K8.out)) : g8 ≠ g9)); have n6_ := am_ ((by rw [hg]; exact Nat.ne_of_gt (blk_lt (g := g8) (o := .cells #[.int .i64 a0_0, .int .i64 a0_1, .int .u64 a0_2, .string a0_3] 24 (0, 0)) (by (with_reducible repeat (first | refine blk_drewN ?_ _ | refine blk_drew ?_ | refine blk_alloc ?_ _)); exact K8.out)) : g9 ≠ g8)); clear K8; clear HB; have K8 := m0; have HB := m1; have K9 := m2; have GW199 := n3_; have G9 := n4_; have NB198_199 := n5_; have NB199_198 := n6_; clear m0 m1 m2 n3_ n4_ n5_ n6_; clear hb hbox hg; have hnb95 := NB198_199.out; have hnc95 := NB199_198.out; have hcz96_0 : w94.cell? ⟨g8, 0, none⟩ = some (.int .i64 a0_0) := (bc_ K8.out 0).trans rfl; have hcz96_1 : w94.cell? ⟨g8, 1, none⟩ = some (.int .i64 a0_1) := (bc_ K8.out 1).trans rfl; have hcz96_2 : w94.cell? ⟨g8, 2, none⟩ = some (.int .u64 a0_2) := (bc_ K8.out 2).trans rfl; have hcz96_3 : w94.cell? ⟨g8, 3, none⟩ = some (.string a0_3) := (bc_ K8.out 3).trans rfl; have hfz96_0 := blk_frozen K8.out 0; have hfz96_1 := blk_frozen K8.out 1; have hfz96_2 := blk_frozen K8.out 2; have hfz96_3 := blk_frozen K8.out 3) | ((with_reducible refine gate_callee (f := 8) rfl ?_); refine goesL_ (some 12) rfl rfl Try.func8 (by kernel_rfl) rfl #[.agg #[.int .i64 a0_0, .int .i64 a0_1, .int .u64 a0_2, .string a0_3]] rfl (by (try simp only [List.map_toArray, List.map_cons, List.map_nil]); first | done | rfl | (simp only [List.length_drop, List.length_take]; rfl)) ?_; (with_reducible refine (boscagelaw03_Give.calls a0_0 a0_1 a0_2 a0_3 t200 t201 t202 t203 _ A3.out).mono ?_); rintro e w97 ⟨rfl, hb⟩; refine ⟨_, rfl, ?_⟩; have m0 := am_ (blk_below (g := g8) (o := .cells #[.int .i64 a0_0, .int .i64 a0_1, .int .u64 a0_2, .string a0_3] 24 (0, 0)) (by (with_reducible repeat (first | refine blk_drewN ?_ _ | refine blk_drew ?_ | refine blk_alloc ?_ _)); exact K8.out) hb); have m1 := am_ (blk_below (g := g9) (o := .cells #[.int .i64 a1_0, .int .i64 a1_1, .int .u64 a1_2, .string a1_3] 24 (0, 0)) (by (with_reducible repeat (first | refine blk_drewN ?_ _ | refine blk_drew ?_ | refine blk_alloc ?_ _)); exact K9.out) hb); have m2 := am_ (below_step (by repeat (first | (with_reducible first | exact HB.out | apply below_alloc | apply pw_below_drewN | apply below_drew1 | refine below_set ?_ G8.out | refine below_set ?_ G9.out) | exact HB.out)) hb); clear K8; clear K9; clear HB; have K8 := m0; have K9 := m1; have HB := m2; clear m0 m1 m2; (try clear hb); (try clear hb2); (try clear hk); (try clear hi)) | ((with_reducible refine gate_callee (f := 7) rfl ?_); refine goesL_ (some 13) rfl rfl Try.func7 (by kernel_rfl) rfl #[.agg #[.int .i64 t200, .int .i64 t201, .int .u64 t202, .string t203]] rfl (by (try simp only [List.map_toArray, List.map_cons, List.map_nil]); first | done | rfl | (simp only [List.length_drop, List.length_take]; rfl)) ?_; (with_reducible refine (code_Make.calls t200 t201 t202 t203 t204 t205 _ A4.out).mono ?_); rintro e w98 ⟨rfl, hb⟩; refine ⟨_, rfl, ?_⟩; have m0 := am_ (blk_below (g := g8) (o := .cells #[.int .i64 a0_0, .int .i64 a0_1, .int .u64 a0_2, .string a0_3] 24 (0, 0)) (by (with_reducible repeat (first | refine blk_drewN ?_ _ | refine blk_drew ?_ | refine blk_alloc ?_ _)); exact K8.out) hb); have m1 := am_ (blk_below (g := g9) (o := .cells #[.int .i64 a1_0, .int .i64 a1_1, .int .u64 a1_2, .string a1_3] 24 (0, 0)) (by (with_reducible repeat (first | refine blk_drewN ?_ _ | refine blk_drew ?_ | refine blk_alloc ?_ _)); exact K9.out) hb); have m2 := am_ (below_step (by repeat (first | (with_reducible first | exact HB.out | apply below_alloc | apply pw_below_drewN | apply below_drew1 | refine below_set ?_ G8.out | refine below_set ?_ G9.out) | exact HB.out)) hb); clear K8; clear K9; clear HB; have K8 := m0; have K9 := m1; have HB := m2; clear m0 m1 m2; (try clear hb); (try clear hb2); (try clear hk); (try clear hi); have hcz99_0 : w98.cell? ⟨g9, 0, none⟩ = some (.int .i64 a1_0) := (bc_ K9.out 0).trans rfl; have hcz99_1 : w98.cell? ⟨g9, 1, none⟩ = some (.int .i64 a1_1) := (bc_ K9.out 1).trans rfl; have hcz99_2 : w98.cell? ⟨g9, 2, none⟩ = some (.int .u64 a1_2) := (bc_ K9.out 2).trans rfl; have hcz99_3 : w98.cell? ⟨g9, 3, none⟩ = some (.string a1_3) := (bc_ K9.out 3).trans rfl; have hfz99_0 := blk_frozen K9.out 0; have hfz99_1 := blk_frozen K9.out 1; have hfz99_2 := blk_frozen K9.out 2; have hfz99_3 := blk_frozen K9.out 3) | ((with_reducible refine gate_callee (f := 8) rfl ?_); refine goesL_ (some 18) rfl rfl Try.func8 (by kernel_rfl) rfl #[.agg #[.int .i64 a1_0, .int .i64 a1_1, .int .u64 a1_2, .string a1_3]] rfl (by (try simp only [List.map_toArray, List.map_cons, List.map_nil]); first | done | rfl | (simp only [List.length_drop, List.length_take]; rfl)) ?_; (with_reducible refine (boscagelaw03_Give.calls a1_0 a1_1 a1_2 a1_3 t206 t207 t208 t209 _ A5.out).mono ?_); rintro e w100 ⟨rfl, hb⟩; refine ⟨_, rfl, ?_⟩; have m0 := am_ (blk_below (g := g8) (o := .cells #[.int .i64 a0_0, .int .i64 a0_1, .int .u64 a0_2, .string a0_3] 24 (0, 0)) (by (with_reducible repeat (first | refine blk_drewN ?_ _ | refine blk_drew ?_ | refine blk_alloc ?_ _)); exact K8.out) hb); have m1 := am_ (blk_below (g := g9) (o := .cells #[.int .i64 a1_0, .int .i64 a1_1, .int .u64 a1_2, .string a1_3] 24 (0, 0)) (by (with_reducible repeat (first | refine blk_drewN ?_ _ | refine blk_drew ?_ | refine blk_alloc ?_ _)); exact K9.out) hb); have m2 := am_ (below_step (by repeat (first | (with_reducible first | exact HB.out | apply below_alloc | apply pw_below_drewN | apply below_drew1 | refine below_set ?_ G8.out | refine below_set ?_ G9.out) | exact HB.out)) hb); clear K8; clear K9; clear HB; have K8 := m0; have K9 := m1; have HB := m2; clear m0 m1 m2; (try clear hb); (try clear hb2); (try clear hk); (try clear hi)) | ((with_reducible refine gate_callee (f := 7) rfl ?_); refine goesL_ (some 19) rfl rfl Try.func7 (by kernel_rfl) rfl #[.agg #[.int .i64 t206, .int .i64 t207, .int .u64 t208, .string t209]] rfl (by (try simp only [List.map_toArray, List.map_cons, List.map_nil]); first | done | rfl | (simp only [List.length_drop, List.length_take]; rfl)) ?_; (with_reducible refine (code_Make.calls t206 t207 t208 t209 t210 t211 _ A6.out).mono ?_); rintro e w101 ⟨rfl, hb⟩; refine ⟨_, rfl, ?_⟩; have m0 := am_ (blk_below (g := g8) (o := .cells #[.int .i64 a0_0, .int .i64 a0_1, .int .u64 a0_2, .string a0_3] 24 (0, 0)) (by (with_reducible repeat (first | refine blk_drewN ?_ _ | refine blk_drew ?_ | refine blk_alloc ?_ _)); exact K8.out) hb); have m1 := am_ (blk_below (g := g9) (o := .cells #[.int .i64 a1_0, .int .i64 a1_1, .int .u64 a1_2, .string a1_3] 24 (0, 0)) (by (with_reducible repeat (first | refine blk_drewN ?_ _ | refine blk_drew ?_ | refine blk_alloc ?_ _)); exact K9.out) hb); have m2 := am_ (below_step (by repeat (first | (with_reducible first | exact HB.out | apply below_alloc | apply pw_below_drewN | apply below_drew1 | refine below_set ?_ G8.out | refine below_set ?_ G9.out) | exact HB.out)) hb); clear K8; clear K9; clear HB; have K8 := m0; have K9 := m1; have HB := m2; clear m0 m1 m2; (try clear hb); (try clear hb2); (try clear hk); (try clear hi)))
        have m0 := am_ (blk_drew K8.out)
        have m1 := am_ (blk_drew K9.out)
        have m2 := am_ (below_drew1 HB.out)
        clear K8
        clear K9
        clear HB
        have K8 := m0
        have K9 := m1
        have HB := m2
        clear m0 m1 m2
        refine start_ (n := 6) (S := fun w' => w'.cell? ⟨g8, 0, none⟩ = some (.int .i64 a0_0) ∧ w'.cell? ⟨g8, 1, none⟩ = some (.int .i64 a0_1) ∧ w'.cell? ⟨g8, 2, none⟩ = some (.int .u64 a0_2) ∧ w'.cell? ⟨g8, 3, none⟩ = some (.string a0_3) ∧ w'.cell? ⟨g9, 0, none⟩ = some (.int .i64 a1_0) ∧ w'.cell? ⟨g9, 1, none⟩ = some (.int .i64 a1_1) ∧ w'.cell? ⟨g9, 2, none⟩ = some (.int .u64 a1_2) ∧ w'.cell? ⟨g9, 3, none⟩ = some (.string a1_3)) (ds := []) #[false, false, false, false, false, false] (by kernel_rfl) rfl rfl ⟨(bc_ K8.out 0).trans rfl, (bc_ K8.out 1).trans rfl, (bc_ K8.out 2).trans rfl, (bc_ K8.out 3).trans rfl, (bc_ K9.out 0).trans rfl, (bc_ K9.out 1).trans rfl, (bc_ K9.out 2).trans rfl, (bc_ K9.out 3).trans rfl⟩ (fun hL => ?_)
        generalize w101.drew = w102 at K8 K9 HB hL ⊢
        refine take_ (i := 0) (N := some 22) (v := ?_) (a' := ?_) #[true, false, false, false, false, false] rfl rfl (by kernel_rfl) (fun _ _ _ h => h) (Or.inl ⟨by rfl, ?_⟩) hL ?_ ?_
        rotate_left
        · rintro w' ⟨s0, s1, s2, s3, s4, s5, s6, s7⟩
          go_simp
          with_reducible rfl
        rotate_left
        · simp only [Act.put, sa_, sz_, ss_, i64_w, i32_w]
          rfl
        refine take_ (i := 2) (N := some 24) (v := ?_) (a' := ?_) #[true, false, true, false, false, false] rfl rfl (by kernel_rfl) (fun _ _ _ h => h) (Or.inl ⟨by rfl, ?_⟩) hL ?_ ?_
        rotate_left
        · rintro w' ⟨s0, s1, s2, s3, s4, s5, s6, s7⟩
          go_simp
          with_reducible rfl
        rotate_left
        · simp only [Act.put, sa_, sz_, ss_, i64_w, i32_w]
          rfl
        refine one_ (i := 1) (N := some 23) #[true, true, true, false, false, false] rfl rfl (by kernel_rfl) (by decide) (fun K hK => ?_)
        refine goes_ Try.func8 (by kernel_rfl) rfl #[.agg #[.int .i64 a0_0, .int .i64 a0_1, .int .u64 a0_2, .string a0_3]] (by rfl) rfl rfl (by (try simp only [List.map_toArray, List.map_cons, List.map_nil]); first | done | rfl | (simp only [List.length_drop, List.length_take]; rfl)) ?_
        with_reducible refine (boscagelaw03_Give.calls a0_0 a0_1 a0_2 a0_3 t212 t213 t214 t215 _ A7.out).mono ?_
        rintro e w103 ⟨rfl, hb⟩
        refine ⟨_, rfl, ?_⟩
        have m0 := am_ (blk_below (g := g8) (o := .cells #[.int .i64 a0_0, .int .i64 a0_1, .int .u64 a0_2, .string a0_3] 24 (0, 0)) (by (with_reducible repeat (first | refine blk_drewN ?_ _ | refine blk_drew ?_ | refine blk_alloc ?_ _)); exact K8.out) hb)
        have m1 := am_ (blk_below (g := g9) (o := .cells #[.int .i64 a1_0, .int .i64 a1_1, .int .u64 a1_2, .string a1_3] 24 (0, 0)) (by (with_reducible repeat (first | refine blk_drewN ?_ _ | refine blk_drew ?_ | refine blk_alloc ?_ _)); exact K9.out) hb)
        have m2 := am_ (below_step (by repeat (first | (with_reducible first | exact HB.out | apply below_alloc | apply pw_below_drewN | apply below_drew1 | refine below_set ?_ G8.out | refine below_set ?_ G9.out) | exact HB.out)) hb)
        clear K8
        clear K9
        clear HB
        have K8 := m0
        have K9 := m1
        have HB := m2
        clear m0 m1 m2
        (try clear hb)
        (try clear hb2)
        (try clear hk)
        (try clear hi)
        refine hK.out _ _ ⟨(bc_ K8.out 0).trans rfl, (bc_ K8.out 1).trans rfl, (bc_ K8.out 2).trans rfl, (bc_ K8.out 3).trans rfl, (bc_ K9.out 0).trans rfl, (bc_ K9.out 1).trans rfl, (bc_ K9.out 2).trans rfl, (bc_ K9.out 3).trans rfl⟩ (fun hL => ?_)
        clear hK K
        refine norm_ (a' := ?_) ?_ ?_
        rotate_left
        · show Act.put _ (some 23) _ = _
          simp only [Act.put, sa_, sz_, ss_, i64_w, i32_w]
          rfl
        refine one_ (i := 3) (N := some 25) #[true, true, true, true, false, false] rfl rfl (by kernel_rfl) (by decide) (fun K hK => ?_)
        refine goes_ Try.func8 (by kernel_rfl) rfl #[.agg #[.int .i64 a1_0, .int .i64 a1_1, .int .u64 a1_2, .string a1_3]] (by rfl) rfl rfl (by (try simp only [List.map_toArray, List.map_cons, List.map_nil]); first | done | rfl | (simp only [List.length_drop, List.length_take]; rfl)) ?_
        with_reducible refine (boscagelaw03_Give.calls a1_0 a1_1 a1_2 a1_3 t216 t217 t218 t219 _ A8.out).mono ?_
        rintro e w104 ⟨rfl, hb⟩
        refine ⟨_, rfl, ?_⟩
        have m0 := am_ (blk_below (g := g8) (o := .cells #[.int .i64 a0_0, .int .i64 a0_1, .int .u64 a0_2, .string a0_3] 24 (0, 0)) (by (with_reducible repeat (first | refine blk_drewN ?_ _ | refine blk_drew ?_ | refine blk_alloc ?_ _)); exact K8.out) hb)
        have m1 := am_ (blk_below (g := g9) (o := .cells #[.int .i64 a1_0, .int .i64 a1_1, .int .u64 a1_2, .string a1_3] 24 (0, 0)) (by (with_reducible repeat (first | refine blk_drewN ?_ _ | refine blk_drew ?_ | refine blk_alloc ?_ _)); exact K9.out) hb)
        have m2 := am_ (below_step (by repeat (first | (with_reducible first | exact HB.out | apply below_alloc | apply pw_below_drewN | apply below_drew1 | refine below_set ?_ G8.out | refine below_set ?_ G9.out) | exact HB.out)) hb)
        clear K8
        clear K9
        clear HB
        have K8 := m0
        have K9 := m1
        have HB := m2
        clear m0 m1 m2
        (try clear hb)
        (try clear hb2)
        (try clear hk)
        (try clear hi)
        refine hK.out _ _ ⟨(bc_ K8.out 0).trans rfl, (bc_ K8.out 1).trans rfl, (bc_ K8.out 2).trans rfl, (bc_ K8.out 3).trans rfl, (bc_ K9.out 0).trans rfl, (bc_ K9.out 1).trans rfl, (bc_ K9.out 2).trans rfl, (bc_ K9.out 3).trans rfl⟩ (fun hL => ?_)
        clear hK K
        refine norm_ (a' := ?_) ?_ ?_
        rotate_left
        · show Act.put _ (some 25) _ = _
          simp only [Act.put, sa_, sz_, ss_, i64_w, i32_w]
          rfl
        refine one_ (i := 4) (N := some 26) #[true, true, true, true, true, false] rfl rfl (by kernel_rfl) (by decide) (fun K hK => ?_)
        refine goes_ Try.func17 (by kernel_rfl) rfl #[.agg #[.int .i64 t212, .int .i64 t213, .int .u64 t214, .string t215], .agg #[.int .i64 t216, .int .i64 t217, .int .u64 t218, .string t219]] (by rfl) rfl rfl (by (try simp only [List.map_toArray, List.map_cons, List.map_nil]); first | done | rfl | (simp only [List.length_drop, List.length_take]; rfl)) ?_
        with_reducible refine (code_Less.calls t212 t213 t214 t215 t216 t217 t218 t219 t220 _ A9.out).mono ?_
        rintro e w105 ⟨rfl, hb⟩
        refine ⟨_, rfl, ?_⟩
        have m0 := am_ (blk_below (g := g8) (o := .cells #[.int .i64 a0_0, .int .i64 a0_1, .int .u64 a0_2, .string a0_3] 24 (0, 0)) (by (with_reducible repeat (first | refine blk_drewN ?_ _ | refine blk_drew ?_ | refine blk_alloc ?_ _)); exact K8.out) hb)
        have m1 := am_ (blk_below (g := g9) (o := .cells #[.int .i64 a1_0, .int .i64 a1_1, .int .u64 a1_2, .string a1_3] 24 (0, 0)) (by (with_reducible repeat (first | refine blk_drewN ?_ _ | refine blk_drew ?_ | refine blk_alloc ?_ _)); exact K9.out) hb)
        have m2 := am_ (below_step (by repeat (first | (with_reducible first | exact HB.out | apply below_alloc | apply pw_below_drewN | apply below_drew1 | refine below_set ?_ G8.out | refine below_set ?_ G9.out) | exact HB.out)) hb)
        clear K8
        clear K9
        clear HB
        have K8 := m0
        have K9 := m1
        have HB := m2
        clear m0 m1 m2
        (try clear hb)
        (try clear hb2)
        (try clear hk)
        (try clear hi)
        refine hK.out _ _ ⟨(bc_ K8.out 0).trans rfl, (bc_ K8.out 1).trans rfl, (bc_ K8.out 2).trans rfl, (bc_ K8.out 3).trans rfl, (bc_ K9.out 0).trans rfl, (bc_ K9.out 1).trans rfl, (bc_ K9.out 2).trans rfl, (bc_ K9.out 3).trans rfl⟩ (fun hL => ?_)
        clear hK K
        refine norm_ (a' := ?_) ?_ ?_
        rotate_left
        · show Act.put _ (some 26) _ = _
          simp only [Act.put, sa_, sz_, ss_, i64_w, i32_w]
          rfl
        refine pure_ (i := 5) (N := some 9) (v := ?_) (a' := ?_) #[true, true, true, true, true, true] rfl rfl (by kernel_rfl) (fun _ _ _ h => h) (Or.inl ⟨by rfl, ?_⟩) ?_ ?_
        rotate_left
        · intro w'
          go_simp
          with_reducible rfl
        rotate_left
        · simp only [Act.put, sa_, sz_, ss_, i64_w, i32_w]
          rfl
        refine done_ (by kernel_rfl) ?_
        try go_wp2
        have m0 := am_ (blk_drew K8.out)
        have m1 := am_ (blk_drew K9.out)
        have m2 := am_ (below_drew1 HB.out)
        clear K8
        clear K9
        clear HB
        have K8 := m0
        have K9 := m1
        have HB := m2
        clear m0 m1 m2
        refine start_ (n := 26) (S := fun w' => w'.cell? ⟨g8, 0, none⟩ = some (.int .i64 a0_0) ∧ w'.cell? ⟨g8, 1, none⟩ = some (.int .i64 a0_1) ∧ w'.cell? ⟨g8, 2, none⟩ = some (.int .u64 a0_2) ∧ w'.cell? ⟨g8, 3, none⟩ = some (.string a0_3) ∧ w'.cell? ⟨g9, 0, none⟩ = some (.int .i64 a1_0) ∧ w'.cell? ⟨g9, 1, none⟩ = some (.int .i64 a1_1) ∧ w'.cell? ⟨g9, 2, none⟩ = some (.int .u64 a1_2) ∧ w'.cell? ⟨g9, 3, none⟩ = some (.string a1_3)) (ds := []) #[false, false, false, false, false, false, false, false, false, false, false, false, false, false, false, false, false, false, false, false, false, false, false, false, false, false] (by kernel_rfl) rfl rfl ⟨(bc_ K8.out 0).trans rfl, (bc_ K8.out 1).trans rfl, (bc_ K8.out 2).trans rfl, (bc_ K8.out 3).trans rfl, (bc_ K9.out 0).trans rfl, (bc_ K9.out 1).trans rfl, (bc_ K9.out 2).trans rfl, (bc_ K9.out 3).trans rfl⟩ (fun hL => ?_); refine with_tabW boscagelaw03_CodeOrders.tab4 boscagelaw03_CodeOrders.bits4 (fun HT_ HW_ => ?_)
        generalize w105.drew = w106 at K8 K9 HB hL ⊢
        refine pure_ (i := 0) (N := some 27) (v := ?_) (a' := ?_) #[true, false, false, false, false, false, false, false, false, false, false, false, false, false, false, false, false, false, false, false, false, false, false, false, false, false] rfl rfl (any_of HT_.out (by kernel_rfl)) (fun _ _ _ h => h) (Or.inl ⟨by rfl, ?_⟩) ?_ ?_
        rotate_left
        · intro w'
          go_simp
          with_reducible rfl
        rotate_left
        · simp only [Act.put, sa_, sz_, ss_, i64_w, i32_w]
          rfl
        refine take_ (i := 1) (N := some 28) (v := ?_) (a' := ?_) #[true, true, false, false, false, false, false, false, false, false, false, false, false, false, false, false, false, false, false, false, false, false, false, false, false, false] rfl rfl (take_ofW HT_.out HW_.out (by kernel_rfl)) (fun _ _ _ h => h) (Or.inl ⟨by rfl, ?_⟩) hL ?_ ?_
        rotate_left
        · rintro w' ⟨s0, s1, s2, s3, s4, s5, s6, s7⟩
          go_simp
          with_reducible rfl
        rotate_left
        · simp only [Act.put, sa_, sz_, ss_, i64_w, i32_w]
          rfl
        refine take_ (i := 3) (N := some 30) (v := ?_) (a' := ?_) #[true, true, false, true, false, false, false, false, false, false, false, false, false, false, false, false, false, false, false, false, false, false, false, false, false, false] rfl rfl (take_ofW HT_.out HW_.out (by kernel_rfl)) (fun _ _ _ h => h) (Or.inl ⟨by rfl, ?_⟩) hL ?_ ?_
        rotate_left
        · rintro w' ⟨s0, s1, s2, s3, s4, s5, s6, s7⟩
          go_simp
          with_reducible rfl
        rotate_left
        · simp only [Act.put, sa_, sz_, ss_, i64_w, i32_w]
          rfl
        refine one_ (i := 2) (N := some 29) #[true, true, true, true, false, false, false, false, false, false, false, false, false, false, false, false, false, false, false, false, false, false, false, false, false, false] rfl rfl (one_of HT_.out (by kernel_rfl)) (by decide) (fun K hK => ?_)
        refine goes_ Try.func10 (by kernel_rfl) rfl #[.agg #[.int .i64 a0_0, .int .i64 a0_1, .int .u64 a0_2, .string a0_3]] (by rfl) rfl rfl (by (try simp only [List.map_toArray, List.map_cons, List.map_nil]); first | done | rfl | (simp only [List.length_drop, List.length_take]; rfl)) ?_
        with_reducible refine (boscagelaw03_short.calls a0_0 a0_1 a0_2 a0_3 t221 t222 t223 t224 _ A10.out).mono ?_
        rintro e w107 ⟨rfl, hb⟩
        refine ⟨_, rfl, ?_⟩
        have m0 := am_ (blk_below (g := g8) (o := .cells #[.int .i64 a0_0, .int .i64 a0_1, .int .u64 a0_2, .string a0_3] 24 (0, 0)) (by (with_reducible repeat (first | refine blk_drewN ?_ _ | refine blk_drew ?_ | refine blk_alloc ?_ _)); exact K8.out) hb)
        have m1 := am_ (blk_below (g := g9) (o := .cells #[.int .i64 a1_0, .int .i64 a1_1, .int .u64 a1_2, .string a1_3] 24 (0, 0)) (by (with_reducible repeat (first | refine blk_drewN ?_ _ | refine blk_drew ?_ | refine blk_alloc ?_ _)); exact K9.out) hb)
        have m2 := am_ (below_step (by repeat (first | (with_reducible first | exact HB.out | apply below_alloc | apply pw_below_drewN | apply below_drew1 | refine below_set ?_ G8.out | refine below_set ?_ G9.out) | exact HB.out)) hb)
        clear K8
        clear K9
        clear HB
        have K8 := m0
        have K9 := m1
        have HB := m2
        clear m0 m1 m2
        (try clear hb)
        (try clear hb2)
        (try clear hk)
        (try clear hi)
        refine hK.out _ _ ⟨(bc_ K8.out 0).trans rfl, (bc_ K8.out 1).trans rfl, (bc_ K8.out 2).trans rfl, (bc_ K8.out 3).trans rfl, (bc_ K9.out 0).trans rfl, (bc_ K9.out 1).trans rfl, (bc_ K9.out 2).trans rfl, (bc_ K9.out 3).trans rfl⟩ (fun hL => ?_)
        clear hK K
        refine norm_ (a' := ?_) ?_ ?_
        rotate_left
        · show Act.put _ (some 29) _ = _
          simp only [Act.put, sa_, sz_, ss_, i64_w, i32_w]
          rfl
        refine one_ (i := 4) (N := some 31) #[true, true, true, true, true, false, false, false, false, false, false, false, false, false, false, false, false, false, false, false, false, false, false, false, false, false] rfl rfl (one_of HT_.out (by kernel_rfl)) (by decide) (fun K hK => ?_)
        refine goes_ Try.func10 (by kernel_rfl) rfl #[.agg #[.int .i64 a1_0, .int .i64 a1_1, .int .u64 a1_2, .string a1_3]] (by rfl) rfl rfl (by (try simp only [List.map_toArray, List.map_cons, List.map_nil]); first | done | rfl | (simp only [List.length_drop, List.length_take]; rfl)) ?_
        with_reducible refine (boscagelaw03_short.calls a1_0 a1_1 a1_2 a1_3 t225 t226 t227 t228 _ A11.out).mono ?_
        rintro e w108 ⟨rfl, hb⟩
        refine ⟨_, rfl, ?_⟩
        have m0 := am_ (blk_below (g := g8) (o := .cells #[.int .i64 a0_0, .int .i64 a0_1, .int .u64 a0_2, .string a0_3] 24 (0, 0)) (by (with_reducible repeat (first | refine blk_drewN ?_ _ | refine blk_drew ?_ | refine blk_alloc ?_ _)); exact K8.out) hb)
        have m1 := am_ (blk_below (g := g9) (o := .cells #[.int .i64 a1_0, .int .i64 a1_1, .int .u64 a1_2, .string a1_3] 24 (0, 0)) (by (with_reducible repeat (first | refine blk_drewN ?_ _ | refine blk_drew ?_ | refine blk_alloc ?_ _)); exact K9.out) hb)
        have m2 := am_ (below_step (by repeat (first | (with_reducible first | exact HB.out | apply below_alloc | apply pw_below_drewN | apply below_drew1 | refine below_set ?_ G8.out | refine below_set ?_ G9.out) | exact HB.out)) hb)
        clear K8
        clear K9
        clear HB
        have K8 := m0
        have K9 := m1
        have HB := m2
        clear m0 m1 m2
        (try clear hb)
        (try clear hb2)
        (try clear hk)
        (try clear hi)
        refine hK.out _ _ ⟨(bc_ K8.out 0).trans rfl, (bc_ K8.out 1).trans rfl, (bc_ K8.out 2).trans rfl, (bc_ K8.out 3).trans rfl, (bc_ K9.out 0).trans rfl, (bc_ K9.out 1).trans rfl, (bc_ K9.out 2).trans rfl, (bc_ K9.out 3).trans rfl⟩ (fun hL => ?_)
        clear hK K
        refine norm_ (a' := ?_) ?_ ?_
        rotate_left
        · show Act.put _ (some 31) _ = _
          simp only [Act.put, sa_, sz_, ss_, i64_w, i32_w]
          rfl
        refine one_ (i := 5) (N := some 32) #[true, true, true, true, true, true, false, false, false, false, false, false, false, false, false, false, false, false, false, false, false, false, false, false, false, false] rfl rfl (one_of HT_.out (by kernel_rfl)) (by decide) (fun K hK => ?_)
        refine goes_ Try.func18 (by kernel_rfl) rfl #[.agg #[.int .i64 t221, .int .i64 t222, .int .u64 t223, .string t224], .agg #[.int .i64 t225, .int .i64 t226, .int .u64 t227, .string t228]] (by rfl) rfl rfl (by (try simp only [List.map_toArray, List.map_cons, List.map_nil]); first | done | rfl | (simp only [List.length_drop, List.length_take]; rfl)) ?_
        with_reducible refine (boscageref03_Less.calls k t221 t222 t223 t224 t225 t226 t227 t228 t229 _ A12.out).mono ?_
        rintro e w109 ⟨rfl, hb⟩
        refine ⟨_, rfl, ?_⟩
        have m0 := am_ (blk_below (g := g8) (o := .cells #[.int .i64 a0_0, .int .i64 a0_1, .int .u64 a0_2, .string a0_3] 24 (0, 0)) (by (with_reducible repeat (first | refine blk_drewN ?_ _ | refine blk_drew ?_ | refine blk_alloc ?_ _)); exact K8.out) hb)
        have m1 := am_ (blk_below (g := g9) (o := .cells #[.int .i64 a1_0, .int .i64 a1_1, .int .u64 a1_2, .string a1_3] 24 (0, 0)) (by (with_reducible repeat (first | refine blk_drewN ?_ _ | refine blk_drew ?_ | refine blk_alloc ?_ _)); exact K9.out) hb)
        have m2 := am_ (below_step (by repeat (first | (with_reducible first | exact HB.out | apply below_alloc | apply pw_below_drewN | apply below_drew1 | refine below_set ?_ G8.out | refine below_set ?_ G9.out) | exact HB.out)) hb)
        clear K8
        clear K9
        clear HB
        have K8 := m0
        have K9 := m1
        have HB := m2
        clear m0 m1 m2
        (try clear hb)
        (try clear hb2)
        (try clear hk)
        (try clear hi)
        refine hK.out _ _ ⟨(bc_ K8.out 0).trans rfl, (bc_ K8.out 1).trans rfl, (bc_ K8.out 2).trans rfl, (bc_ K8.out 3).trans rfl, (bc_ K9.out 0).trans rfl, (bc_ K9.out 1).trans rfl, (bc_ K9.out 2).trans rfl, (bc_ K9.out 3).trans rfl⟩ (fun hL => ?_)
        clear hK K
        refine norm_ (a' := ?_) ?_ ?_
        rotate_left
        · show Act.put _ (some 32) _ = _
          simp only [Act.put, sa_, sz_, ss_, i64_w, i32_w]
          rfl
        refine pure_ (i := 6) (N := some 33) (v := ?_) (a' := ?_) #[true, true, true, true, true, true, true, false, false, false, false, false, false, false, false, false, false, false, false, false, false, false, false, false, false, false] rfl rfl (any_of HT_.out (by kernel_rfl)) (fun _ _ _ h => h) (Or.inl ⟨by rfl, ?_⟩) ?_ ?_
        rotate_left
        · intro w'
          go_simp
          with_reducible rfl
        rotate_left
        · simp only [Act.put, sa_, sz_, ss_, i64_w, i32_w]
          rfl
        refine pure_ (i := 7) (N := some 34) (v := ?_) (a' := ?_) #[true, true, true, true, true, true, true, true, false, false, false, false, false, false, false, false, false, false, false, false, false, false, false, false, false, false] rfl rfl (any_of HT_.out (by kernel_rfl)) (fun _ _ _ h => h) (Or.inl ⟨by rfl, ?_⟩) ?_ ?_
        rotate_left
        · intro w'
          go_simp
          with_reducible rfl
        rotate_left
        · simp only [Act.put, sa_, sz_, ss_, i64_w, i32_w]
          rfl
        refine pure_ (i := 8) (N := some 35) (v := ?_) (a' := ?_) #[true, true, true, true, true, true, true, true, true, false, false, false, false, false, false, false, false, false, false, false, false, false, false, false, false, false] rfl rfl (any_of HT_.out (by kernel_rfl)) (fun _ _ _ h => h) (Or.inl ⟨by rfl, ?_⟩) ?_ ?_
        rotate_left
        · intro w'
          go_simp
          with_reducible rfl
        rotate_left
        · simp only [Act.put, sa_, sz_, ss_, i64_w, i32_w]
          rfl
        refine pure_ (i := 9) (N := some 36) (v := ?_) (a' := ?_) #[true, true, true, true, true, true, true, true, true, true, false, false, false, false, false, false, false, false, false, false, false, false, false, false, false, false] rfl rfl (any_of HT_.out (by kernel_rfl)) (fun _ _ _ h => h) (Or.inl ⟨by rfl, ?_⟩) ?_ ?_
        rotate_left
        · intro w'
          go_simp
          with_reducible rfl
        rotate_left
        · simp only [Act.put, sa_, sz_, ss_, i64_w, i32_w]
          rfl
        refine pure_ (i := 10) (N := some 37) (v := ?_) (a' := ?_) #[true, true, true, true, true, true, true, true, true, true, true, false, false, false, false, false, false, false, false, false, false, false, false, false, false, false] rfl rfl (any_of HT_.out (by kernel_rfl)) (fun _ _ _ h => h) (Or.inl ⟨by rfl, ?_⟩) ?_ ?_
        rotate_left
        · intro w'
          go_simp
          with_reducible rfl
        rotate_left
        · simp only [Act.put, sa_, sz_, ss_, i64_w, i32_w]
          rfl
        refine pure_ (i := 11) (N := some 38) (v := ?_) (a' := ?_) #[true, true, true, true, true, true, true, true, true, true, true, true, false, false, false, false, false, false, false, false, false, false, false, false, false, false] rfl rfl (any_of HT_.out (by kernel_rfl)) (fun _ _ _ h => h) (Or.inl ⟨by rfl, ?_⟩) ?_ ?_
        rotate_left
        · intro w'
          go_simp
          with_reducible rfl
        rotate_left
        · simp only [Act.put, sa_, sz_, ss_, i64_w, i32_w]
          rfl
        refine pure_ (i := 12) (N := some 39) (v := undef) (a' := ?_) #[true, true, true, true, true, true, true, true, true, true, true, true, true, false, false, false, false, false, false, false, false, false, false, false, false, false] rfl rfl (any_of HT_.out (by kernel_rfl)) (fun _ _ _ h => h) (Or.inr ⟨by rfl, rfl⟩) ?_ ?_
        rotate_left
        · simp only [Act.put, sa_, sz_, ss_, i64_w, i32_w]
          rfl
        refine pure_ (i := 13) (N := some 40) (v := undef) (a' := ?_) #[true, true, true, true, true, true, true, true, true, true, true, true, true, true, false, false, false, false, false, false, false, false, false, false, false, false] rfl rfl (any_of HT_.out (by kernel_rfl)) (fun _ _ _ h => h) (Or.inr ⟨by rfl, rfl⟩) ?_ ?_
        rotate_left
        · simp only [Act.put, sa_, sz_, ss_, i64_w, i32_w]
          rfl
        refine pure_ (i := 14) (N := some 41) (v := ?_) (a' := ?_) #[true, true, true, true, true, true, true, true, true, true, true, true, true, true, true, false, false, false, false, false, false, false, false, false, false, false] rfl rfl (any_of HT_.out (by kernel_rfl)) (fun _ _ _ h => h) (Or.inl ⟨by rfl, ?_⟩) ?_ ?_
        rotate_left
        · intro w'
          go_simp
          with_reducible rfl
        rotate_left
        · simp only [Act.put, sa_, sz_, ss_, i64_w, i32_w]
          rfl
        refine pure_ (i := 15) (N := some 42) (v := ?_) (a' := ?_) #[true, true, true, true, true, true, true, true, true, true, true, true, true, true, true, true, false, false, false, false, false, false, false, false, false, false] rfl rfl (any_of HT_.out (by kernel_rfl)) (fun _ _ _ h => h) (Or.inl ⟨by rfl, ?_⟩) ?_ ?_
        rotate_left
        · intro w'
          go_simp
          with_reducible rfl
        rotate_left
        · simp only [Act.put, sa_, sz_, ss_, i64_w, i32_w]
          rfl
        refine pure_ (i := 16) (N := some 43) (v := undef) (a' := ?_) #[true, true, true, true, true, true, true, true, true, true, true, true, true, true, true, true, true, false, false, false, false, false, false, false, false, false] rfl rfl (any_of HT_.out (by kernel_rfl)) (fun _ _ _ h => h) (Or.inr ⟨by rfl, rfl⟩) ?_ ?_
        rotate_left
        · simp only [Act.put, sa_, sz_, ss_, i64_w, i32_w]
          rfl
        refine pure_ (i := 17) (N := some 44) (v := undef) (a' := ?_) #[true, true, true, true, true, true, true, true, true, true, true, true, true, true, true, true, true, true, false, false, false, false, false, false, false, false] rfl rfl (any_of HT_.out (by kernel_rfl)) (fun _ _ _ h => h) (Or.inr ⟨by rfl, rfl⟩) ?_ ?_
        rotate_left
        · simp only [Act.put, sa_, sz_, ss_, i64_w, i32_w]
          rfl
        refine pure_ (i := 18) (N := some 45) (v := undef) (a' := ?_) #[true, true, true, true, true, true, true, true, true, true, true, true, true, true, true, true, true, true, true, false, false, false, false, false, false, false] rfl rfl (any_of HT_.out (by kernel_rfl)) (fun _ _ _ h => h) (Or.inr ⟨by rfl, rfl⟩) ?_ ?_
        rotate_left
        · simp only [Act.put, sa_, sz_, ss_, i64_w, i32_w]
          rfl
        refine pure_ (i := 19) (N := some 46) (v := ?_) (a' := ?_) #[true, true, true, true, true, true, true, true, true, true, true, true, true, true, true, true, true, true, true, true, false, false, false, false, false, false] rfl rfl (any_of HT_.out (by kernel_rfl)) (fun _ _ _ h => h) (Or.inl ⟨by rfl, ?_⟩) ?_ ?_
        rotate_left
        · intro w'
          go_simp
          with_reducible rfl
        rotate_left
        · simp only [Act.put, sa_, sz_, ss_, i64_w, i32_w]
          rfl
        refine pure_ (i := 20) (N := some 47) (v := ?_) (a' := ?_) #[true, true, true, true, true, true, true, true, true, true, true, true, true, true, true, true, true, true, true, true, true, false, false, false, false, false] rfl rfl (any_of HT_.out (by kernel_rfl)) (fun _ _ _ h => h) (Or.inl ⟨by rfl, ?_⟩) ?_ ?_
        rotate_left
        · intro w'
          go_simp
          with_reducible rfl
        rotate_left
        · simp only [Act.put, sa_, sz_, ss_, i64_w, i32_w]
          rfl
        refine pure_ (i := 21) (N := some 48) (v := ?_) (a' := ?_) #[true, true, true, true, true, true, true, true, true, true, true, true, true, true, true, true, true, true, true, true, true, true, false, false, false, false] rfl rfl (any_of HT_.out (by kernel_rfl)) (fun _ _ _ h => h) (Or.inl ⟨by rfl, ?_⟩) ?_ ?_
        rotate_left
        · intro w'
          go_simp
          with_reducible rfl
        rotate_left
        · simp only [Act.put, sa_, sz_, ss_, i64_w, i32_w]
          rfl
        refine pure_ (i := 22) (N := some 49) (v := ?_) (a' := ?_) #[true, true, true, true, true, true, true, true, true, true, true, true, true, true, true, true, true, true, true, true, true, true, true, false, false, false] rfl rfl (any_of HT_.out (by kernel_rfl)) (fun _ _ _ h => h) (Or.inl ⟨by rfl, ?_⟩) ?_ ?_
        rotate_left
        · intro w'
          go_simp
          with_reducible rfl
        rotate_left
        · simp only [Act.put, sa_, sz_, ss_, i64_w, i32_w]
          rfl
        refine one_ (i := 23) (N := some 50) #[true, true, true, true, true, true, true, true, true, true, true, true, true, true, true, true, true, true, true, true, true, true, true, true, false, false] rfl rfl (one_of HT_.out (by kernel_rfl)) (by decide) (fun K hK => ?_)
        refine goes_ Try.func11 (by kernel_rfl) rfl #[] (by rfl) rfl rfl (by (try simp only [List.map_toArray, List.map_cons, List.map_nil]); first | done | rfl | (simp only [List.length_drop, List.length_take]; rfl)) ?_
        with_reducible refine (boscagelaw03_works.calls k  t233 _ A92.out).mono ?_
        rintro e w110 ⟨rfl, hb⟩
        refine ⟨_, rfl, ?_⟩
        have m0 := am_ (blk_below (g := g8) (o := .cells #[.int .i64 a0_0, .int .i64 a0_1, .int .u64 a0_2, .string a0_3] 24 (0, 0)) (by (with_reducible repeat (first | refine blk_drewN ?_ _ | refine blk_drew ?_ | refine blk_alloc ?_ _)); exact K8.out) hb)
        have m1 := am_ (blk_below (g := g9) (o := .cells #[.int .i64 a1_0, .int .i64 a1_1, .int .u64 a1_2, .string a1_3] 24 (0, 0)) (by (with_reducible repeat (first | refine blk_drewN ?_ _ | refine blk_drew ?_ | refine blk_alloc ?_ _)); exact K9.out) hb)
        have m2 := am_ (below_step (by repeat (first | (with_reducible first | exact HB.out | apply below_alloc | apply pw_below_drewN | apply below_drew1 | refine below_set ?_ G8.out | refine below_set ?_ G9.out) | exact HB.out)) hb)
        clear K8
        clear K9
        clear HB
        have K8 := m0
        have K9 := m1
        have HB := m2
        clear m0 m1 m2
        (try clear hb)
        (try clear hb2)
        (try clear hk)
        (try clear hi)
        refine hK.out _ _ ⟨(bc_ K8.out 0).trans rfl, (bc_ K8.out 1).trans rfl, (bc_ K8.out 2).trans rfl, (bc_ K8.out 3).trans rfl, (bc_ K9.out 0).trans rfl, (bc_ K9.out 1).trans rfl, (bc_ K9.out 2).trans rfl, (bc_ K9.out 3).trans rfl⟩ (fun hL => ?_)
        clear hK K
        refine norm_ (a' := ?_) ?_ ?_
        rotate_left
        · show Act.put _ (some 50) _ = _
          simp only [Act.put, sa_, sz_, ss_, i64_w, i32_w]
          rfl
        refine pure_ (i := 24) (N := some 51) (v := ?_) (a' := ?_) #[true, true, true, true, true, true, true, true, true, true, true, true, true, true, true, true, true, true, true, true, true, true, true, true, true, false] rfl rfl (any_of HT_.out (by kernel_rfl)) (fun _ _ _ h => h) (Or.inl ⟨by rfl, ?_⟩) ?_ ?_
        rotate_left
        · intro w'
          go_simp
          with_reducible rfl
        rotate_left
        · simp only [Act.put, sa_, sz_, ss_, i64_w, i32_w]
          rfl
        refine pure_ (i := 25) (N := some 4) (v := ?_) (a' := ?_) #[true, true, true, true, true, true, true, true, true, true, true, true, true, true, true, true, true, true, true, true, true, true, true, true, true, true] rfl rfl (any_of HT_.out (by kernel_rfl)) (fun _ _ _ h => h) (Or.inl ⟨by rfl, ?_⟩) ?_ ?_
        rotate_left
        · intro w'
          go_simp
          with_reducible rfl
        rotate_left
        · simp only [Act.put, sa_, sz_, ss_, i64_w, i32_w]
          rfl
        refine done_ (done_of HT_.out (by kernel_rfl)) ?_
        try go_wp2
        go_ret
        exact ⟨by first | rfl | (simp [errW_none, errW_some] <;> rfl) | (simp [*, errW_none, errW_some] <;> rfl), by repeat (first | (with_reducible first | exact HB.out | apply below_alloc | apply pw_below_drewN | apply below_drew1 | refine below_set ?_ G8.out | refine below_set ?_ G9.out) | exact HB.out)⟩
      · rw [if_neg c91] at H
        have c91b0 : (t220 == false) = false := by simpa using c91
        (try (have c91b1 : decide (t220 = false) = false := by simpa using c91))
        (try (have c91b2 : (t220 == false) = false := by simpa using c91))
        (try (have c91b3 : ¬ (t220 = false) := by simpa using c91))
        have c91t : t229 = true := tt_ c13b0 c91b3
        clear c91
        obtain rfl := Option.some.inj H
        go_enter Try.func6, Try.ntmps6
        try go_wp2_with (first | ((with_reducible refine gate_dst (N := 2) rfl ?_); refine box_event ?hg (N := 2) ?hd (cs := #[.int .i64 a0_0, .int .i64 a0_1, .int .u64 a0_2, .string a0_3]) (t := 24) ?hr ?_; (case hd => rfl); (case hg => rfl); (case hr => first | (go_simp; done) | (go_simp; rfl)); intro g8 hg w111 hbox hb; have m0 := am_ (below_step (by repeat (first | (with_reducible first | exact HB.out | apply below_alloc | apply pw_below_drewN | apply below_drew1) | exact HB.out)) hb); have m1 := am_ (hbox); have m2 := am_ ((by rw [hg]; exact (below_size (by repeat (first | (with_reducible first | exact HB.out | apply below_alloc | apply pw_below_drewN | apply below_drew1) | exact HB.out))) : w.heap.size ≤ g8)); have n3_ := am_ ((by rw [hg]; exact (below_size (by repeat (first | (with_reducible first | exact HB.out | apply below_alloc | apply pw_below_drewN | apply below_drew1) | exact HB.out))) : w.heap.size ≤ g8)); clear HB; have HB := m0; have K8 := m1; have GW198 := m2; have G8 := n3_; clear m0 m1 m2 n3_; clear hb hbox hg) | ((with_reducible refine gate_dst (N := 3) rfl ?_); refine box_event ?hg (N := 3) ?hd (cs := #[.int .i64 a1_0, .int .i64 a1_1, .int .u64 a1_2, .string a1_3]) (t := 24) ?hr ?_; (case hd => rfl); (case hg => rfl); (case hr => first | (go_simp; done) | (go_simp; rfl)); intro g9 hg w112 hbox hb; have m0 := am_ (blk_below (g := g8) (o := .cells #[.int .i64 a0_0, .int .i64 a0_1, .int .u64 a0_2, .string a0_3] 24 (0, 0)) (by (with_reducible repeat (first | refine blk_drewN ?_ _ | refine blk_drew ?_ | refine blk_alloc ?_ _)); exact K8.out) hb); have m1 := am_ (below_step (by repeat (first | (with_reducible first | exact HB.out | apply below_alloc | apply pw_below_drewN | apply below_drew1 | refine below_set ?_ G8.out) | exact HB.out)) hb); have m2 := am_ (hbox); have n3_ := am_ ((by rw [hg]; exact (below_size (by repeat (first | (with_reducible first | exact HB.out | apply below_alloc | apply pw_below_drewN | apply below_drew1 | refine below_set ?_ G8.out) | exact HB.out))) : w.heap.size ≤ g9)); have n4_ := am_ ((by rw [hg]; exact (below_size (by repeat (first | (with_reducible first | exact HB.out | apply below_alloc | apply pw_below_drewN | apply below_drew1 | refine below_set ?_ G8.out) | exact HB.out))) : w.heap.size ≤ g9)); have n5_ := am_ ((by rw [hg]; exact Nat.ne_of_lt (blk_lt (g := g8) (o := .cells #[.int .i64 a0_0, .int .i64 a0_1, .int .u64 a0_2, .string a0_3] 24 (0, 0)) (by (with_reducible repeat (first | refine blk_drewN ?_ _ | refine blk_drew ?_ | refine blk_alloc ?_ _)); exact K8.out)) : g8 ≠ g9)); have n6_ := am_ ((by rw [hg]; exact Nat.ne_of_gt (blk_lt (g := g8) (o := .cells #[.int .i64 a0_0, .int .i64 a0_1, .int .u64 a0_2, .string a0_3] 24 (0, 0)) (by (with_reducible repeat (first | refine blk_drewN ?_ _ | refine blk_drew ?_ | refine blk_alloc ?_ _)); exact K8.out)) : g9 ≠ g8)); clear K8; clear HB; have K8 := m0; have HB := m1; have K9 := m2; have GW199 := n3_; have G9 := n4_; have NB198_199 := n5_; have NB199_198 := n6_; clear m0 m1 m2 n3_ n4_ n5_ n6_; clear hb hbox hg; have hnb113 := NB198_199.out; have hnc113 := NB199_198.out; have hcz114_0 : w112.cell? ⟨g8, 0, none⟩ = some (.int .i64 a0_0) := (bc_ K8.out 0).trans rfl; have hcz114_1 : w112.cell? ⟨g8, 1, none⟩ = some (.int .i64 a0_1) := (bc_ K8.out 1).trans rfl; have hcz114_2 : w112.cell? ⟨g8, 2, none⟩ = some (.int .u64 a0_2) := (bc_ K8.out 2).trans rfl; have hcz114_3 : w112.cell? ⟨g8, 3, none⟩ = some (.string a0_3) := (bc_ K8.out 3).trans rfl; have hfz114_0 := blk_frozen K8.out 0; have hfz114_1 := blk_frozen K8.out 1; have hfz114_2 := blk_frozen K8.out 2; have hfz114_3 := blk_frozen K8.out 3) | ((with_reducible refine gate_callee (f := 8) rfl ?_); refine goesL_ (some 12) rfl rfl Try.func8 (by kernel_rfl) rfl #[.agg #[.int .i64 a0_0, .int .i64 a0_1, .int .u64 a0_2, .string a0_3]] rfl (by (try simp only [List.map_toArray, List.map_cons, List.map_nil]); first | done | rfl | (simp only [List.length_drop, List.length_take]; rfl)) ?_; (with_reducible refine (boscagelaw03_Give.calls a0_0 a0_1 a0_2 a0_3 t200 t201 t202 t203 _ A3.out).mono ?_); rintro e w115 ⟨rfl, hb⟩; refine ⟨_, rfl, ?_⟩; have m0 := am_ (blk_below (g := g8) (o := .cells #[.int .i64 a0_0, .int .i64 a0_1, .int .u64 a0_2, .string a0_3] 24 (0, 0)) (by (with_reducible repeat (first | refine blk_drewN ?_ _ | refine blk_drew ?_ | refine blk_alloc ?_ _)); exact K8.out) hb); have m1 := am_ (blk_below (g := g9) (o := .cells #[.int .i64 a1_0, .int .i64 a1_1, .int .u64 a1_2, .string a1_3] 24 (0, 0)) (by (with_reducible repeat (first | refine blk_drewN ?_ _ | refine blk_drew ?_ | refine blk_alloc ?_ _)); exact K9.out) hb); have m2 := am_ (below_step (by repeat (first | (with_reducible first | exact HB.out | apply below_alloc | apply pw_below_drewN | apply below_drew1 | refine below_set ?_ G8.out | refine below_set ?_ G9.out) | exact HB.out)) hb); clear K8; clear K9; clear HB; have K8 := m0; have K9 := m1; have HB := m2; clear m0 m1 m2; (try clear hb); (try clear hb2); (try clear hk); (try clear hi)) | ((with_reducible refine gate_callee (f := 7) rfl ?_); refine goesL_ (some 13) rfl rfl Try.func7 (by kernel_rfl) rfl #[.agg #[.int .i64 t200, .int .i64 t201, .int .u64 t202, .string t203]] rfl (by (try simp only [List.map_toArray, List.map_cons, List.map_nil]); first | done | rfl | (simp only [List.length_drop, List.length_take]; rfl)) ?_; (with_reducible refine (code_Make.calls t200 t201 t202 t203 t204 t205 _ A4.out).mono ?_); rintro e w116 ⟨rfl, hb⟩; refine ⟨_, rfl, ?_⟩; have m0 := am_ (blk_below (g := g8) (o := .cells #[.int .i64 a0_0, .int .i64 a0_1, .int .u64 a0_2, .string a0_3] 24 (0, 0)) (by (with_reducible repeat (first | refine blk_drewN ?_ _ | refine blk_drew ?_ | refine blk_alloc ?_ _)); exact K8.out) hb); have m1 := am_ (blk_below (g := g9) (o := .cells #[.int .i64 a1_0, .int .i64 a1_1, .int .u64 a1_2, .string a1_3] 24 (0, 0)) (by (with_reducible repeat (first | refine blk_drewN ?_ _ | refine blk_drew ?_ | refine blk_alloc ?_ _)); exact K9.out) hb); have m2 := am_ (below_step (by repeat (first | (with_reducible first | exact HB.out | apply below_alloc | apply pw_below_drewN | apply below_drew1 | refine below_set ?_ G8.out | refine below_set ?_ G9.out) | exact HB.out)) hb); clear K8; clear K9; clear HB; have K8 := m0; have K9 := m1; have HB := m2; clear m0 m1 m2; (try clear hb); (try clear hb2); (try clear hk); (try clear hi); have hcz117_0 : w116.cell? ⟨g9, 0, none⟩ = some (.int .i64 a1_0) := (bc_ K9.out 0).trans rfl; have hcz117_1 : w116.cell? ⟨g9, 1, none⟩ = some (.int .i64 a1_1) := (bc_ K9.out 1).trans rfl; have hcz117_2 : w116.cell? ⟨g9, 2, none⟩ = some (.int .u64 a1_2) := (bc_ K9.out 2).trans rfl; have hcz117_3 : w116.cell? ⟨g9, 3, none⟩ = some (.string a1_3) := (bc_ K9.out 3).trans rfl; have hfz117_0 := blk_frozen K9.out 0; have hfz117_1 := blk_frozen K9.out 1; have hfz117_2 := blk_frozen K9.out 2; have hfz117_3 := blk_frozen K9.out 3) | ((with_reducible refine gate_callee (f := 8) rfl ?_); refine goesL_ (some 18) rfl rfl Try.func8 (by kernel_rfl) rfl #[.agg #[.int .i64 a1_0, .int .i64 a1_1, .int .u64 a1_2, .string a1_3]] rfl (by (try simp only [List.map_toArray, List.map_cons, List.map_nil]); first | done | rfl | (simp only [List.length_drop, List.length_take]; rfl)) ?_; (with_reducible refine (boscagelaw03_Give.calls a1_0 a1_1 a1_2 a1_3 t206 t207 t208 t209 _ A5.out).mono ?_); rintro e w118 ⟨rfl, hb⟩; refine ⟨_, rfl, ?_⟩; have m0 := am_ (blk_below (g := g8) (o := .cells #[.int .i64 a0_0, .int .i64 a0_1, .int .u64 a0_2, .string a0_3] 24 (0, 0)) (by (with_reducible repeat (first | refine blk_drewN ?_ _ | refine blk_drew ?_ | refine blk_alloc ?_ _)); exact K8.out) hb); have m1 := am_ (blk_below (g := g9) (o := .cells #[.int .i64 a1_0, .int .i64 a1_1, .int .u64 a1_2, .string a1_3] 24 (0, 0)) (by (with_reducible repeat (first | refine blk_drewN ?_ _ | refine blk_drew ?_ | refine blk_alloc ?_ _)); exact K9.out) hb); have m2 := am_ (below_step (by repeat (first | (with_reducible first | exact HB.out | apply below_alloc | apply pw_below_drewN | apply below_drew1 | refine below_set ?_ G8.out | refine below_set ?_ G9.out) | exact HB.out)) hb); clear K8; clear K9; clear HB; have K8 := m0; have K9 := m1; have HB := m2; clear m0 m1 m2; (try clear hb); (try clear hb2); (try clear hk); (try clear hi)) | ((with_reducible refine gate_callee (f := 7) rfl ?_); refine goesL_ (some 19) rfl rfl Try.func7 (by kernel_rfl) rfl #[.agg #[.int .i64 t206, .int .i64 t207, .int .u64 t208, .string t209]] rfl (by (try simp only [List.map_toArray, List.map_cons, List.map_nil]); first | done | rfl | (simp only [List.length_drop, List.length_take]; rfl)) ?_; (with_reducible refine (code_Make.calls t206 t207 t208 t209 t210 t211 _ A6.out).mono ?_); rintro e w119 ⟨rfl, hb⟩; refine ⟨_, rfl, ?_⟩; have m0 := am_ (blk_below (g := g8) (o := .cells #[.int .i64 a0_0, .int .i64 a0_1, .int .u64 a0_2, .string a0_3] 24 (0, 0)) (by (with_reducible repeat (first | refine blk_drewN ?_ _ | refine blk_drew ?_ | refine blk_alloc ?_ _)); exact K8.out) hb); have m1 := am_ (blk_below (g := g9) (o := .cells #[.int .i64 a1_0, .int .i64 a1_1, .int .u64 a1_2, .string a1_3] 24 (0, 0)) (by (with_reducible repeat (first | refine blk_drewN ?_ _ | refine blk_drew ?_ | refine blk_alloc ?_ _)); exact K9.out) hb); have m2 := am_ (below_step (by repeat (first | (with_reducible first | exact HB.out | apply below_alloc | apply pw_below_drewN | apply below_drew1 | refine below_set ?_ G8.out | refine below_set ?_ G9.out) | exact HB.out)) hb); clear K8; clear K9; clear HB; have K8 := m0; have K9 := m1; have HB := m2; clear m0 m1 m2; (try clear hb); (try clear hb2); (try clear hk); (try clear hi)))
        have m0 := am_ (blk_drew K8.out)
        have m1 := am_ (blk_drew K9.out)
        have m2 := am_ (below_drew1 HB.out)
        clear K8
        clear K9
        clear HB
        have K8 := m0
        have K9 := m1
        have HB := m2
        clear m0 m1 m2
        refine start_ (n := 6) (S := fun w' => w'.cell? ⟨g8, 0, none⟩ = some (.int .i64 a0_0) ∧ w'.cell? ⟨g8, 1, none⟩ = some (.int .i64 a0_1) ∧ w'.cell? ⟨g8, 2, none⟩ = some (.int .u64 a0_2) ∧ w'.cell? ⟨g8, 3, none⟩ = some (.string a0_3) ∧ w'.cell? ⟨g9, 0, none⟩ = some (.int .i64 a1_0) ∧ w'.cell? ⟨g9, 1, none⟩ = some (.int .i64 a1_1) ∧ w'.cell? ⟨g9, 2, none⟩ = some (.int .u64 a1_2) ∧ w'.cell? ⟨g9, 3, none⟩ = some (.string a1_3)) (ds := []) #[false, false, false, false, false, false] (by kernel_rfl) rfl rfl ⟨(bc_ K8.out 0).trans rfl, (bc_ K8.out 1).trans rfl, (bc_ K8.out 2).trans rfl, (bc_ K8.out 3).trans rfl, (bc_ K9.out 0).trans rfl, (bc_ K9.out 1).trans rfl, (bc_ K9.out 2).trans rfl, (bc_ K9.out 3).trans rfl⟩ (fun hL => ?_)
        generalize w119.drew = w120 at K8 K9 HB hL ⊢
        refine take_ (i := 0) (N := some 22) (v := ?_) (a' := ?_) #[true, false, false, false, false, false] rfl rfl (by kernel_rfl) (fun _ _ _ h => h) (Or.inl ⟨by rfl, ?_⟩) hL ?_ ?_
        rotate_left
        · rintro w' ⟨s0, s1, s2, s3, s4, s5, s6, s7⟩
          go_simp
          with_reducible rfl
        rotate_left
        · simp only [Act.put, sa_, sz_, ss_, i64_w, i32_w]
          rfl
        refine take_ (i := 2) (N := some 24) (v := ?_) (a' := ?_) #[true, false, true, false, false, false] rfl rfl (by kernel_rfl) (fun _ _ _ h => h) (Or.inl ⟨by rfl, ?_⟩) hL ?_ ?_
        rotate_left
        · rintro w' ⟨s0, s1, s2, s3, s4, s5, s6, s7⟩
          go_simp
          with_reducible rfl
        rotate_left
        · simp only [Act.put, sa_, sz_, ss_, i64_w, i32_w]
          rfl
        refine one_ (i := 1) (N := some 23) #[true, true, true, false, false, false] rfl rfl (by kernel_rfl) (by decide) (fun K hK => ?_)
        refine goes_ Try.func8 (by kernel_rfl) rfl #[.agg #[.int .i64 a0_0, .int .i64 a0_1, .int .u64 a0_2, .string a0_3]] (by rfl) rfl rfl (by (try simp only [List.map_toArray, List.map_cons, List.map_nil]); first | done | rfl | (simp only [List.length_drop, List.length_take]; rfl)) ?_
        with_reducible refine (boscagelaw03_Give.calls a0_0 a0_1 a0_2 a0_3 t212 t213 t214 t215 _ A7.out).mono ?_
        rintro e w121 ⟨rfl, hb⟩
        refine ⟨_, rfl, ?_⟩
        have m0 := am_ (blk_below (g := g8) (o := .cells #[.int .i64 a0_0, .int .i64 a0_1, .int .u64 a0_2, .string a0_3] 24 (0, 0)) (by (with_reducible repeat (first | refine blk_drewN ?_ _ | refine blk_drew ?_ | refine blk_alloc ?_ _)); exact K8.out) hb)
        have m1 := am_ (blk_below (g := g9) (o := .cells #[.int .i64 a1_0, .int .i64 a1_1, .int .u64 a1_2, .string a1_3] 24 (0, 0)) (by (with_reducible repeat (first | refine blk_drewN ?_ _ | refine blk_drew ?_ | refine blk_alloc ?_ _)); exact K9.out) hb)
        have m2 := am_ (below_step (by repeat (first | (with_reducible first | exact HB.out | apply below_alloc | apply pw_below_drewN | apply below_drew1 | refine below_set ?_ G8.out | refine below_set ?_ G9.out) | exact HB.out)) hb)
        clear K8
        clear K9
        clear HB
        have K8 := m0
        have K9 := m1
        have HB := m2
        clear m0 m1 m2
        (try clear hb)
        (try clear hb2)
        (try clear hk)
        (try clear hi)
        refine hK.out _ _ ⟨(bc_ K8.out 0).trans rfl, (bc_ K8.out 1).trans rfl, (bc_ K8.out 2).trans rfl, (bc_ K8.out 3).trans rfl, (bc_ K9.out 0).trans rfl, (bc_ K9.out 1).trans rfl, (bc_ K9.out 2).trans rfl, (bc_ K9.out 3).trans rfl⟩ (fun hL => ?_)
        clear hK K
        refine norm_ (a' := ?_) ?_ ?_
        rotate_left
        · show Act.put _ (some 23) _ = _
          simp only [Act.put, sa_, sz_, ss_, i64_w, i32_w]
          rfl
        refine one_ (i := 3) (N := some 25) #[true, true, true, true, false, false] rfl rfl (by kernel_rfl) (by decide) (fun K hK => ?_)
        refine goes_ Try.func8 (by kernel_rfl) rfl #[.agg #[.int .i64 a1_0, .int .i64 a1_1, .int .u64 a1_2, .string a1_3]] (by rfl) rfl rfl (by (try simp only [List.map_toArray, List.map_cons, List.map_nil]); first | done | rfl | (simp only [List.length_drop, List.length_take]; rfl)) ?_
        with_reducible refine (boscagelaw03_Give.calls a1_0 a1_1 a1_2 a1_3 t216 t217 t218 t219 _ A8.out).mono ?_
        rintro e w122 ⟨rfl, hb⟩
        refine ⟨_, rfl, ?_⟩
        have m0 := am_ (blk_below (g := g8) (o := .cells #[.int .i64 a0_0, .int .i64 a0_1, .int .u64 a0_2, .string a0_3] 24 (0, 0)) (by (with_reducible repeat (first | refine blk_drewN ?_ _ | refine blk_drew ?_ | refine blk_alloc ?_ _)); exact K8.out) hb)
        have m1 := am_ (blk_below (g := g9) (o := .cells #[.int .i64 a1_0, .int .i64 a1_1, .int .u64 a1_2, .string a1_3] 24 (0, 0)) (by (with_reducible repeat (first | refine blk_drewN ?_ _ | refine blk_drew ?_ | refine blk_alloc ?_ _)); exact K9.out) hb)
        have m2 := am_ (below_step (by repeat (first | (with_reducible first | exact HB.out | apply below_alloc | apply pw_below_drewN | apply below_drew1 | refine below_set ?_ G8.out | refine below_set ?_ G9.out) | exact HB.out)) hb)
        clear K8
        clear K9
        clear HB
        have K8 := m0
        have K9 := m1
        have HB := m2
        clear m0 m1 m2
        (try clear hb)
        (try clear hb2)
        (try clear hk)
        (try clear hi)
        refine hK.out _ _ ⟨(bc_ K8.out 0).trans rfl, (bc_ K8.out 1).trans rfl, (bc_ K8.out 2).trans rfl, (bc_ K8.out 3).trans rfl, (bc_ K9.out 0).trans rfl, (bc_ K9.out 1).trans rfl, (bc_ K9.out 2).trans rfl, (bc_ K9.out 3).trans rfl⟩ (fun hL => ?_)
        clear hK K
        refine norm_ (a' := ?_) ?_ ?_
        rotate_left
        · show Act.put _ (some 25) _ = _
          simp only [Act.put, sa_, sz_, ss_, i64_w, i32_w]
          rfl
        refine one_ (i := 4) (N := some 26) #[true, true, true, true, true, false] rfl rfl (by kernel_rfl) (by decide) (fun K hK => ?_)
        refine goes_ Try.func17 (by kernel_rfl) rfl #[.agg #[.int .i64 t212, .int .i64 t213, .int .u64 t214, .string t215], .agg #[.int .i64 t216, .int .i64 t217, .int .u64 t218, .string t219]] (by rfl) rfl rfl (by (try simp only [List.map_toArray, List.map_cons, List.map_nil]); first | done | rfl | (simp only [List.length_drop, List.length_take]; rfl)) ?_
        with_reducible refine (code_Less.calls t212 t213 t214 t215 t216 t217 t218 t219 t220 _ A9.out).mono ?_
        rintro e w123 ⟨rfl, hb⟩
        refine ⟨_, rfl, ?_⟩
        have m0 := am_ (blk_below (g := g8) (o := .cells #[.int .i64 a0_0, .int .i64 a0_1, .int .u64 a0_2, .string a0_3] 24 (0, 0)) (by (with_reducible repeat (first | refine blk_drewN ?_ _ | refine blk_drew ?_ | refine blk_alloc ?_ _)); exact K8.out) hb)
        have m1 := am_ (blk_below (g := g9) (o := .cells #[.int .i64 a1_0, .int .i64 a1_1, .int .u64 a1_2, .string a1_3] 24 (0, 0)) (by (with_reducible repeat (first | refine blk_drewN ?_ _ | refine blk_drew ?_ | refine blk_alloc ?_ _)); exact K9.out) hb)
        have m2 := am_ (below_step (by repeat (first | (with_reducible first | exact HB.out | apply below_alloc | apply pw_below_drewN | apply below_drew1 | refine below_set ?_ G8.out | refine below_set ?_ G9.out) | exact HB.out)) hb)
        clear K8
        clear K9
        clear HB
        have K8 := m0
        have K9 := m1
        have HB := m2
        clear m0 m1 m2
        (try clear hb)
        (try clear hb2)
        (try clear hk)
        (try clear hi)
        refine hK.out _ _ ⟨(bc_ K8.out 0).trans rfl, (bc_ K8.out 1).trans rfl, (bc_ K8.out 2).trans rfl, (bc_ K8.out 3).trans rfl, (bc_ K9.out 0).trans rfl, (bc_ K9.out 1).trans rfl, (bc_ K9.out 2).trans rfl, (bc_ K9.out 3).trans rfl⟩ (fun hL => ?_)
        clear hK K
        refine norm_ (a' := ?_) ?_ ?_
        rotate_left
        · show Act.put _ (some 26) _ = _
          simp only [Act.put, sa_, sz_, ss_, i64_w, i32_w]
          rfl
        refine pure_ (i := 5) (N := some 9) (v := ?_) (a' := ?_) #[true, true, true, true, true, true] rfl rfl (by kernel_rfl) (fun _ _ _ h => h) (Or.inl ⟨by rfl, ?_⟩) ?_ ?_
        rotate_left
        · intro w'
          go_simp
          with_reducible rfl
        rotate_left
        · simp only [Act.put, sa_, sz_, ss_, i64_w, i32_w]
          rfl
        refine done_ (by kernel_rfl) ?_
        try go_wp2
        have m0 := am_ (blk_drew K8.out)
        have m1 := am_ (blk_drew K9.out)
        have m2 := am_ (below_drew1 HB.out)
        clear K8
        clear K9
        clear HB
        have K8 := m0
        have K9 := m1
        have HB := m2
        clear m0 m1 m2
        refine start_ (n := 26) (S := fun w' => w'.cell? ⟨g8, 0, none⟩ = some (.int .i64 a0_0) ∧ w'.cell? ⟨g8, 1, none⟩ = some (.int .i64 a0_1) ∧ w'.cell? ⟨g8, 2, none⟩ = some (.int .u64 a0_2) ∧ w'.cell? ⟨g8, 3, none⟩ = some (.string a0_3) ∧ w'.cell? ⟨g9, 0, none⟩ = some (.int .i64 a1_0) ∧ w'.cell? ⟨g9, 1, none⟩ = some (.int .i64 a1_1) ∧ w'.cell? ⟨g9, 2, none⟩ = some (.int .u64 a1_2) ∧ w'.cell? ⟨g9, 3, none⟩ = some (.string a1_3)) (ds := []) #[false, false, false, false, false, false, false, false, false, false, false, false, false, false, false, false, false, false, false, false, false, false, false, false, false, false] (by kernel_rfl) rfl rfl ⟨(bc_ K8.out 0).trans rfl, (bc_ K8.out 1).trans rfl, (bc_ K8.out 2).trans rfl, (bc_ K8.out 3).trans rfl, (bc_ K9.out 0).trans rfl, (bc_ K9.out 1).trans rfl, (bc_ K9.out 2).trans rfl, (bc_ K9.out 3).trans rfl⟩ (fun hL => ?_); refine with_tabW boscagelaw03_CodeOrders.tab4 boscagelaw03_CodeOrders.bits4 (fun HT_ HW_ => ?_)
        generalize w123.drew = w124 at K8 K9 HB hL ⊢
        refine pure_ (i := 0) (N := some 27) (v := ?_) (a' := ?_) #[true, false, false, false, false, false, false, false, false, false, false, false, false, false, false, false, false, false, false, false, false, false, false, false, false, false] rfl rfl (any_of HT_.out (by kernel_rfl)) (fun _ _ _ h => h) (Or.inl ⟨by rfl, ?_⟩) ?_ ?_
        rotate_left
        · intro w'
          go_simp
          with_reducible rfl
        rotate_left
        · simp only [Act.put, sa_, sz_, ss_, i64_w, i32_w]
          rfl
        refine take_ (i := 1) (N := some 28) (v := ?_) (a' := ?_) #[true, true, false, false, false, false, false, false, false, false, false, false, false, false, false, false, false, false, false, false, false, false, false, false, false, false] rfl rfl (take_ofW HT_.out HW_.out (by kernel_rfl)) (fun _ _ _ h => h) (Or.inl ⟨by rfl, ?_⟩) hL ?_ ?_
        rotate_left
        · rintro w' ⟨s0, s1, s2, s3, s4, s5, s6, s7⟩
          go_simp
          with_reducible rfl
        rotate_left
        · simp only [Act.put, sa_, sz_, ss_, i64_w, i32_w]
          rfl
        refine take_ (i := 3) (N := some 30) (v := ?_) (a' := ?_) #[true, true, false, true, false, false, false, false, false, false, false, false, false, false, false, false, false, false, false, false, false, false, false, false, false, false] rfl rfl (take_ofW HT_.out HW_.out (by kernel_rfl)) (fun _ _ _ h => h) (Or.inl ⟨by rfl, ?_⟩) hL ?_ ?_
        rotate_left
        · rintro w' ⟨s0, s1, s2, s3, s4, s5, s6, s7⟩
          go_simp
          with_reducible rfl
        rotate_left
        · simp only [Act.put, sa_, sz_, ss_, i64_w, i32_w]
          rfl
        refine one_ (i := 2) (N := some 29) #[true, true, true, true, false, false, false, false, false, false, false, false, false, false, false, false, false, false, false, false, false, false, false, false, false, false] rfl rfl (one_of HT_.out (by kernel_rfl)) (by decide) (fun K hK => ?_)
        refine goes_ Try.func10 (by kernel_rfl) rfl #[.agg #[.int .i64 a0_0, .int .i64 a0_1, .int .u64 a0_2, .string a0_3]] (by rfl) rfl rfl (by (try simp only [List.map_toArray, List.map_cons, List.map_nil]); first | done | rfl | (simp only [List.length_drop, List.length_take]; rfl)) ?_
        with_reducible refine (boscagelaw03_short.calls a0_0 a0_1 a0_2 a0_3 t221 t222 t223 t224 _ A10.out).mono ?_
        rintro e w125 ⟨rfl, hb⟩
        refine ⟨_, rfl, ?_⟩
        have m0 := am_ (blk_below (g := g8) (o := .cells #[.int .i64 a0_0, .int .i64 a0_1, .int .u64 a0_2, .string a0_3] 24 (0, 0)) (by (with_reducible repeat (first | refine blk_drewN ?_ _ | refine blk_drew ?_ | refine blk_alloc ?_ _)); exact K8.out) hb)
        have m1 := am_ (blk_below (g := g9) (o := .cells #[.int .i64 a1_0, .int .i64 a1_1, .int .u64 a1_2, .string a1_3] 24 (0, 0)) (by (with_reducible repeat (first | refine blk_drewN ?_ _ | refine blk_drew ?_ | refine blk_alloc ?_ _)); exact K9.out) hb)
        have m2 := am_ (below_step (by repeat (first | (with_reducible first | exact HB.out | apply below_alloc | apply pw_below_drewN | apply below_drew1 | refine below_set ?_ G8.out | refine below_set ?_ G9.out) | exact HB.out)) hb)
        clear K8
        clear K9
        clear HB
        have K8 := m0
        have K9 := m1
        have HB := m2
        clear m0 m1 m2
        (try clear hb)
        (try clear hb2)
        (try clear hk)
        (try clear hi)
        refine hK.out _ _ ⟨(bc_ K8.out 0).trans rfl, (bc_ K8.out 1).trans rfl, (bc_ K8.out 2).trans rfl, (bc_ K8.out 3).trans rfl, (bc_ K9.out 0).trans rfl, (bc_ K9.out 1).trans rfl, (bc_ K9.out 2).trans rfl, (bc_ K9.out 3).trans rfl⟩ (fun hL => ?_)
        clear hK K
        refine norm_ (a' := ?_) ?_ ?_
        rotate_left
        · show Act.put _ (some 29) _ = _
          simp only [Act.put, sa_, sz_, ss_, i64_w, i32_w]
          rfl
        refine one_ (i := 4) (N := some 31) #[true, true, true, true, true, false, false, false, false, false, false, false, false, false, false, false, false, false, false, false, false, false, false, false, false, false] rfl rfl (one_of HT_.out (by kernel_rfl)) (by decide) (fun K hK => ?_)
        refine goes_ Try.func10 (by kernel_rfl) rfl #[.agg #[.int .i64 a1_0, .int .i64 a1_1, .int .u64 a1_2, .string a1_3]] (by rfl) rfl rfl (by (try simp only [List.map_toArray, List.map_cons, List.map_nil]); first | done | rfl | (simp only [List.length_drop, List.length_take]; rfl)) ?_
        with_reducible refine (boscagelaw03_short.calls a1_0 a1_1 a1_2 a1_3 t225 t226 t227 t228 _ A11.out).mono ?_
        rintro e w126 ⟨rfl, hb⟩
        refine ⟨_, rfl, ?_⟩
        have m0 := am_ (blk_below (g := g8) (o := .cells #[.int .i64 a0_0, .int .i64 a0_1, .int .u64 a0_2, .string a0_3] 24 (0, 0)) (by (with_reducible repeat (first | refine blk_drewN ?_ _ | refine blk_drew ?_ | refine blk_alloc ?_ _)); exact K8.out) hb)
        have m1 := am_ (blk_below (g := g9) (o := .cells #[.int .i64 a1_0, .int .i64 a1_1, .int .u64 a1_2, .string a1_3] 24 (0, 0)) (by (with_reducible repeat (first | refine blk_drewN ?_ _ | refine blk_drew ?_ | refine blk_alloc ?_ _)); exact K9.out) hb)
        have m2 := am_ (below_step (by repeat (first | (with_reducible first | exact HB.out | apply below_alloc | apply pw_below_drewN | apply below_drew1 | refine below_set ?_ G8.out | refine below_set ?_ G9.out) | exact HB.out)) hb)
        clear K8
        clear K9
        clear HB
        have K8 := m0
        have K9 := m1
        have HB := m2
        clear m0 m1 m2
        (try clear hb)
        (try clear hb2)
        (try clear hk)
        (try clear hi)
        refine hK.out _ _ ⟨(bc_ K8.out 0).trans rfl, (bc_ K8.out 1).trans rfl, (bc_ K8.out 2).trans rfl, (bc_ K8.out 3).trans rfl, (bc_ K9.out 0).trans rfl, (bc_ K9.out 1).trans rfl, (bc_ K9.out 2).trans rfl, (bc_ K9.out 3).trans rfl⟩ (fun hL => ?_)
        clear hK K
        refine norm_ (a' := ?_) ?_ ?_
        rotate_left
        · show Act.put _ (some 31) _ = _
          simp only [Act.put, sa_, sz_, ss_, i64_w, i32_w]
          rfl
        refine one_ (i := 5) (N := some 32) #[true, true, true, true, true, true, false, false, false, false, false, false, false, false, false, false, false, false, false, false, false, false, false, false, false, false] rfl rfl (one_of HT_.out (by kernel_rfl)) (by decide) (fun K hK => ?_)
        refine goes_ Try.func18 (by kernel_rfl) rfl #[.agg #[.int .i64 t221, .int .i64 t222, .int .u64 t223, .string t224], .agg #[.int .i64 t225, .int .i64 t226, .int .u64 t227, .string t228]] (by rfl) rfl rfl (by (try simp only [List.map_toArray, List.map_cons, List.map_nil]); first | done | rfl | (simp only [List.length_drop, List.length_take]; rfl)) ?_
        with_reducible refine (boscageref03_Less.calls k t221 t222 t223 t224 t225 t226 t227 t228 t229 _ A12.out).mono ?_
        rintro e w127 ⟨rfl, hb⟩
        refine ⟨_, rfl, ?_⟩
        have m0 := am_ (blk_below (g := g8) (o := .cells #[.int .i64 a0_0, .int .i64 a0_1, .int .u64 a0_2, .string a0_3] 24 (0, 0)) (by (with_reducible repeat (first | refine blk_drewN ?_ _ | refine blk_drew ?_ | refine blk_alloc ?_ _)); exact K8.out) hb)
        have m1 := am_ (blk_below (g := g9) (o := .cells #[.int .i64 a1_0, .int .i64 a1_1, .int .u64 a1_2, .string a1_3] 24 (0, 0)) (by (with_reducible repeat (first | refine blk_drewN ?_ _ | refine blk_drew ?_ | refine blk_alloc ?_ _)); exact K9.out) hb)
        have m2 := am_ (below_step (by repeat (first | (with_reducible first | exact HB.out | apply below_alloc | apply pw_below_drewN | apply below_drew1 | refine below_set ?_ G8.out | refine below_set ?_ G9.out) | exact HB.out)) hb)
        clear K8
        clear K9
        clear HB
        have K8 := m0
        have K9 := m1
        have HB := m2
        clear m0 m1 m2
        (try clear hb)
        (try clear hb2)
        (try clear hk)
        (try clear hi)
        refine hK.out _ _ ⟨(bc_ K8.out 0).trans rfl, (bc_ K8.out 1).trans rfl, (bc_ K8.out 2).trans rfl, (bc_ K8.out 3).trans rfl, (bc_ K9.out 0).trans rfl, (bc_ K9.out 1).trans rfl, (bc_ K9.out 2).trans rfl, (bc_ K9.out 3).trans rfl⟩ (fun hL => ?_)
        clear hK K
        refine norm_ (a' := ?_) ?_ ?_
        rotate_left
        · show Act.put _ (some 32) _ = _
          simp only [Act.put, sa_, sz_, ss_, i64_w, i32_w]
          rfl
        refine pure_ (i := 6) (N := some 33) (v := ?_) (a' := ?_) #[true, true, true, true, true, true, true, false, false, false, false, false, false, false, false, false, false, false, false, false, false, false, false, false, false, false] rfl rfl (any_of HT_.out (by kernel_rfl)) (fun _ _ _ h => h) (Or.inl ⟨by rfl, ?_⟩) ?_ ?_
        rotate_left
        · intro w'
          go_simp
          with_reducible rfl
        rotate_left
        · simp only [Act.put, sa_, sz_, ss_, i64_w, i32_w]
          rfl
        refine pure_ (i := 7) (N := some 34) (v := ?_) (a' := ?_) #[true, true, true, true, true, true, true, true, false, false, false, false, false, false, false, false, false, false, false, false, false, false, false, false, false, false] rfl rfl (any_of HT_.out (by kernel_rfl)) (fun _ _ _ h => h) (Or.inl ⟨by rfl, ?_⟩) ?_ ?_
        rotate_left
        · intro w'
          go_simp
          with_reducible rfl
        rotate_left
        · simp only [Act.put, sa_, sz_, ss_, i64_w, i32_w]
          rfl
        refine pure_ (i := 8) (N := some 35) (v := ?_) (a' := ?_) #[true, true, true, true, true, true, true, true, true, false, false, false, false, false, false, false, false, false, false, false, false, false, false, false, false, false] rfl rfl (any_of HT_.out (by kernel_rfl)) (fun _ _ _ h => h) (Or.inl ⟨by rfl, ?_⟩) ?_ ?_
        rotate_left
        · intro w'
          go_simp
          with_reducible rfl
        rotate_left
        · simp only [Act.put, sa_, sz_, ss_, i64_w, i32_w]
          rfl
        refine pure_ (i := 9) (N := some 36) (v := ?_) (a' := ?_) #[true, true, true, true, true, true, true, true, true, true, false, false, false, false, false, false, false, false, false, false, false, false, false, false, false, false] rfl rfl (any_of HT_.out (by kernel_rfl)) (fun _ _ _ h => h) (Or.inl ⟨by rfl, ?_⟩) ?_ ?_
        rotate_left
        · intro w'
          go_simp
          with_reducible rfl
        rotate_left
        · simp only [Act.put, sa_, sz_, ss_, i64_w, i32_w]
          rfl
        refine pure_ (i := 10) (N := some 37) (v := ?_) (a' := ?_) #[true, true, true, true, true, true, true, true, true, true, true, false, false, false, false, false, false, false, false, false, false, false, false, false, false, false] rfl rfl (any_of HT_.out (by kernel_rfl)) (fun _ _ _ h => h) (Or.inl ⟨by rfl, ?_⟩) ?_ ?_
        rotate_left
        · intro w'
          go_simp
          with_reducible rfl
        rotate_left
        · simp only [Act.put, sa_, sz_, ss_, i64_w, i32_w]
          rfl
        refine pure_ (i := 11) (N := some 38) (v := ?_) (a' := ?_) #[true, true, true, true, true, true, true, true, true, true, true, true, false, false, false, false, false, false, false, false, false, false, false, false, false, false] rfl rfl (any_of HT_.out (by kernel_rfl)) (fun _ _ _ h => h) (Or.inl ⟨by rfl, ?_⟩) ?_ ?_
        rotate_left
        · intro w'
          go_simp
          with_reducible rfl
        rotate_left
        · simp only [Act.put, sa_, sz_, ss_, i64_w, i32_w]
          rfl
        refine pure_ (i := 12) (N := some 39) (v := undef) (a' := ?_) #[true, true, true, true, true, true, true, true, true, true, true, true, true, false, false, false, false, false, false, false, false, false, false, false, false, false] rfl rfl (any_of HT_.out (by kernel_rfl)) (fun _ _ _ h => h) (Or.inr ⟨by rfl, rfl⟩) ?_ ?_
        rotate_left
        · simp only [Act.put, sa_, sz_, ss_, i64_w, i32_w]
          rfl
        refine pure_ (i := 13) (N := some 40) (v := undef) (a' := ?_) #[true, true, true, true, true, true, true, true, true, true, true, true, true, true, false, false, false, false, false, false, false, false, false, false, false, false] rfl rfl (any_of HT_.out (by kernel_rfl)) (fun _ _ _ h => h) (Or.inr ⟨by rfl, rfl⟩) ?_ ?_
        rotate_left
        · simp only [Act.put, sa_, sz_, ss_, i64_w, i32_w]
          rfl
        refine pure_ (i := 14) (N := some 41) (v := ?_) (a' := ?_) #[true, true, true, true, true, true, true, true, true, true, true, true, true, true, true, false, false, false, false, false, false, false, false, false, false, false] rfl rfl (any_of HT_.out (by kernel_rfl)) (fun _ _ _ h => h) (Or.inl ⟨by rfl, ?_⟩) ?_ ?_
        rotate_left
        · intro w'
          go_simp
          with_reducible rfl
        rotate_left
        · simp only [Act.put, sa_, sz_, ss_, i64_w, i32_w]
          rfl
        refine pure_ (i := 15) (N := some 42) (v := ?_) (a' := ?_) #[true, true, true, true, true, true, true, true, true, true, true, true, true, true, true, true, false, false, false, false, false, false, false, false, false, false] rfl rfl (any_of HT_.out (by kernel_rfl)) (fun _ _ _ h => h) (Or.inl ⟨by rfl, ?_⟩) ?_ ?_
        rotate_left
        · intro w'
          go_simp
          with_reducible rfl
        rotate_left
        · simp only [Act.put, sa_, sz_, ss_, i64_w, i32_w]
          rfl
        refine pure_ (i := 16) (N := some 43) (v := undef) (a' := ?_) #[true, true, true, true, true, true, true, true, true, true, true, true, true, true, true, true, true, false, false, false, false, false, false, false, false, false] rfl rfl (any_of HT_.out (by kernel_rfl)) (fun _ _ _ h => h) (Or.inr ⟨by rfl, rfl⟩) ?_ ?_
        rotate_left
        · simp only [Act.put, sa_, sz_, ss_, i64_w, i32_w]
          rfl
        refine pure_ (i := 17) (N := some 44) (v := undef) (a' := ?_) #[true, true, true, true, true, true, true, true, true, true, true, true, true, true, true, true, true, true, false, false, false, false, false, false, false, false] rfl rfl (any_of HT_.out (by kernel_rfl)) (fun _ _ _ h => h) (Or.inr ⟨by rfl, rfl⟩) ?_ ?_
        rotate_left
        · simp only [Act.put, sa_, sz_, ss_, i64_w, i32_w]
          rfl
        refine pure_ (i := 18) (N := some 45) (v := undef) (a' := ?_) #[true, true, true, true, true, true, true, true, true, true, true, true, true, true, true, true, true, true, true, false, false, false, false, false, false, false] rfl rfl (any_of HT_.out (by kernel_rfl)) (fun _ _ _ h => h) (Or.inr ⟨by rfl, rfl⟩) ?_ ?_
        rotate_left
        · simp only [Act.put, sa_, sz_, ss_, i64_w, i32_w]
          rfl
        refine pure_ (i := 19) (N := some 46) (v := ?_) (a' := ?_) #[true, true, true, true, true, true, true, true, true, true, true, true, true, true, true, true, true, true, true, true, false, false, false, false, false, false] rfl rfl (any_of HT_.out (by kernel_rfl)) (fun _ _ _ h => h) (Or.inl ⟨by rfl, ?_⟩) ?_ ?_
        rotate_left
        · intro w'
          go_simp
          with_reducible rfl
        rotate_left
        · simp only [Act.put, sa_, sz_, ss_, i64_w, i32_w]
          rfl
        refine pure_ (i := 20) (N := some 47) (v := ?_) (a' := ?_) #[true, true, true, true, true, true, true, true, true, true, true, true, true, true, true, true, true, true, true, true, true, false, false, false, false, false] rfl rfl (any_of HT_.out (by kernel_rfl)) (fun _ _ _ h => h) (Or.inl ⟨by rfl, ?_⟩) ?_ ?_
        rotate_left
        · intro w'
          go_simp
          with_reducible rfl
        rotate_left
        · simp only [Act.put, sa_, sz_, ss_, i64_w, i32_w]
          rfl
        refine pure_ (i := 21) (N := some 48) (v := ?_) (a' := ?_) #[true, true, true, true, true, true, true, true, true, true, true, true, true, true, true, true, true, true, true, true, true, true, false, false, false, false] rfl rfl (any_of HT_.out (by kernel_rfl)) (fun _ _ _ h => h) (Or.inl ⟨by rfl, ?_⟩) ?_ ?_
        rotate_left
        · intro w'
          go_simp
          with_reducible rfl
        rotate_left
        · simp only [Act.put, sa_, sz_, ss_, i64_w, i32_w]
          rfl
        refine pure_ (i := 22) (N := some 49) (v := ?_) (a' := ?_) #[true, true, true, true, true, true, true, true, true, true, true, true, true, true, true, true, true, true, true, true, true, true, true, false, false, false] rfl rfl (any_of HT_.out (by kernel_rfl)) (fun _ _ _ h => h) (Or.inl ⟨by rfl, ?_⟩) ?_ ?_
        rotate_left
        · intro w'
          go_simp
          with_reducible rfl
        rotate_left
        · simp only [Act.put, sa_, sz_, ss_, i64_w, i32_w]
          rfl
        refine pure_ (i := 23) (N := some 50) (v := undef) (a' := ?_) #[true, true, true, true, true, true, true, true, true, true, true, true, true, true, true, true, true, true, true, true, true, true, true, true, false, false] rfl rfl (any_of HT_.out (by kernel_rfl)) (fun _ _ _ h => h) (Or.inr ⟨by rfl, rfl⟩) ?_ ?_
        rotate_left
        · simp only [Act.put, sa_, sz_, ss_, i64_w, i32_w]
          rfl
        refine pure_ (i := 24) (N := some 51) (v := ?_) (a' := ?_) #[true, true, true, true, true, true, true, true, true, true, true, true, true, true, true, true, true, true, true, true, true, true, true, true, true, false] rfl rfl (any_of HT_.out (by kernel_rfl)) (fun _ _ _ h => h) (Or.inl ⟨by rfl, ?_⟩) ?_ ?_
        rotate_left
        · intro w'
          go_simp
          with_reducible rfl
        rotate_left
        · simp only [Act.put, sa_, sz_, ss_, i64_w, i32_w]
          rfl
        refine pure_ (i := 25) (N := some 4) (v := ?_) (a' := ?_) #[true, true, true, true, true, true, true, true, true, true, true, true, true, true, true, true, true, true, true, true, true, true, true, true, true, true] rfl rfl (any_of HT_.out (by kernel_rfl)) (fun _ _ _ h => h) (Or.inl ⟨by rfl, ?_⟩) ?_ ?_
        rotate_left
        · intro w'
          go_simp
          with_reducible rfl
        rotate_left
        · simp only [Act.put, sa_, sz_, ss_, i64_w, i32_w]
          rfl
        refine done_ (done_of HT_.out (by kernel_rfl)) ?_
        try go_wp2
        go_ret
        exact ⟨by first | rfl | (simp [errW_none, errW_some] <;> rfl) | (simp [*, errW_none, errW_some] <;> rfl), by repeat (first | (with_reducible first | exact HB.out | apply below_alloc | apply pw_below_drewN | apply below_drew1 | refine below_set ?_ G8.out | refine below_set ?_ G9.out) | exact HB.out)⟩
  · rw [if_neg c13] at H
    have c13b0 : (t220 == t229) = false := by simpa using c13
    (try (have c13b1 : decide (t220 = t229) = false := by simpa using c13))
    (try (have c13b2 : (t220 == t229) = false := by simpa using c13))
    (try (have c13b3 : ¬ (t220 = t229) := by simpa using c13))
    clear c13
    obtain rfl := Option.some.inj H
    go_enter Try.func6, Try.ntmps6
    try go_wp2_with (first | ((with_reducible refine gate_dst (N := 2) rfl ?_); refine box_event ?hg (N := 2) ?hd (cs := #[.int .i64 a0_0, .int .i64 a0_1, .int .u64 a0_2, .string a0_3]) (t := 24) ?hr ?_; (case hd => rfl); (case hg => rfl); (case hr => first | (go_simp; done) | (go_simp; rfl)); intro g8 hg w128 hbox hb; have m0 := am_ (below_step (by repeat (first | (with_reducible first | exact HB.out | apply below_alloc | apply pw_below_drewN | apply below_drew1) | exact HB.out)) hb); have m1 := am_ (hbox); have m2 := am_ ((by rw [hg]; exact (below_size (by repeat (first | (with_reducible first | exact HB.out | apply below_alloc | apply pw_below_drewN | apply below_drew1) | exact HB.out))) : w.heap.size ≤ g8)); have n3_ := am_ ((by rw [hg]; exact (below_size (by repeat (first | (with_reducible first | exact HB.out | apply below_alloc | apply pw_below_drewN | apply below_drew1) | exact HB.out))) : w.heap.size ≤ g8)); clear HB; have HB := m0; have K8 := m1; have GW198 := m2; have G8 := n3_; clear m0 m1 m2 n3_; clear hb hbox hg) | ((with_reducible refine gate_dst (N := 3) rfl ?_); refine box_event ?hg (N := 3) ?hd (cs := #[.int .i64 a1_0, .int .i64 a1_1, .int .u64 a1_2, .string a1_3]) (t := 24) ?hr ?_; (case hd => rfl); (case hg => rfl); (case hr => first | (go_simp; done) | (go_simp; rfl)); intro g9 hg w129 hbox hb; have m0 := am_ (blk_below (g := g8) (o := .cells #[.int .i64 a0_0, .int .i64 a0_1, .int .u64 a0_2, .string a0_3] 24 (0, 0)) (by (with_reducible repeat (first | refine blk_drewN ?_ _ | refine blk_drew ?_ | refine blk_alloc ?_ _)); exact K8.out) hb); have m1 := am_ (below_step (by repeat (first | (with_reducible first | exact HB.out | apply below_alloc | apply pw_below_drewN | apply below_drew1 | refine below_set ?_ G8.out) | exact HB.out)) hb); have m2 := am_ (hbox); have n3_ := am_ ((by rw [hg]; exact (below_size (by repeat (first | (with_reducible first | exact HB.out | apply below_alloc | apply pw_below_drewN | apply below_drew1 | refine below_set ?_ G8.out) | exact HB.out))) : w.heap.size ≤ g9)); have n4_ := am_ ((by rw [hg]; exact (below_size (by repeat (first | (with_reducible first | exact HB.out | apply below_alloc | apply pw_below_drewN | apply below_drew1 | refine below_set ?_ G8.out) | exact HB.out))) : w.heap.size ≤ g9)); have n5_ := am_ ((by rw [hg]; exact Nat.ne_of_lt (blk_lt (g := g8) (o := .cells #[.int .i64 a0_0, .int .i64 a0_1, .int .u64 a0_2, .string a0_3] 24 (0, 0)) (by (with_reducible repeat (first | refine blk_drewN ?_ _ | refine blk_drew ?_ | refine blk_alloc ?_ _)); exact K8.out)) : g8 ≠ g9)); have n6_ := am_ ((by rw [hg]; exact Nat.ne_of_gt (blk_lt (g := g8) (o := .cells #[.int .i64 a0_0, .int .i64 a0_1, .int .u64 a0_2, .string a0_3] 24 (0, 0)) (by (with_reducible repeat (first | refine blk_drewN ?_ _ | refine blk_drew ?_ | refine blk_alloc ?_ _)); exact K8.out)) : g9 ≠ g8)); clear K8; clear HB; have K8 := m0; have HB := m1; have K9 := m2; have GW199 := n3_; have G9 := n4_; have NB198_199 := n5_; have NB199_198 := n6_; clear m0 m1 m2 n3_ n4_ n5_ n6_; clear hb hbox hg; have hnb130 := NB198_199.out; have hnc130 := NB199_198.out; have hcz131_0 : w129.cell? ⟨g8, 0, none⟩ = some (.int .i64 a0_0) := (bc_ K8.out 0).trans rfl; have hcz131_1 : w129.cell? ⟨g8, 1, none⟩ = some (.int .i64 a0_1) := (bc_ K8.out 1).trans rfl; have hcz131_2 : w129.cell? ⟨g8, 2, none⟩ = some (.int .u64 a0_2) := (bc_ K8.out 2).trans rfl; have hcz131_3 : w129.cell? ⟨g8, 3, none⟩ = some (.string a0_3) := (bc_ K8.out 3).trans rfl; have hfz131_0 := blk_frozen K8.out 0; have hfz131_1 := blk_frozen K8.out 1; have hfz131_2 := blk_frozen K8.out 2; have hfz131_3 := blk_frozen K8.out 3) | ((with_reducible refine gate_callee (f := 8) rfl ?_); refine goesL_ (some 12) rfl rfl Try.func8 (by kernel_rfl) rfl #[.agg #[.int .i64 a0_0, .int .i64 a0_1, .int .u64 a0_2, .string a0_3]] rfl (by (try simp only [List.map_toArray, List.map_cons, List.map_nil]); first | done | rfl | (simp only [List.length_drop, List.length_take]; rfl)) ?_; (with_reducible refine (boscagelaw03_Give.calls a0_0 a0_1 a0_2 a0_3 t200 t201 t202 t203 _ A3.out).mono ?_); rintro e w132 ⟨rfl, hb⟩; refine ⟨_, rfl, ?_⟩; have m0 := am_ (blk_below (g := g8) (o := .cells #[.int .i64 a0_0, .int .i64 a0_1, .int .u64 a0_2, .string a0_3] 24 (0, 0)) (by (with_reducible repeat (first | refine blk_drewN ?_ _ | refine blk_drew ?_ | refine blk_alloc ?_ _)); exact K8.out) hb); have m1 := am_ (blk_below (g := g9) (o := .cells #[.int .i64 a1_0, .int .i64 a1_1, .int .u64 a1_2, .string a1_3] 24 (0, 0)) (by (with_reducible repeat (first | refine blk_drewN ?_ _ | refine blk_drew ?_ | refine blk_alloc ?_ _)); exact K9.out) hb); have m2 := am_ (below_step (by repeat (first | (with_reducible first | exact HB.out | apply below_alloc | apply pw_below_drewN | apply below_drew1 | refine below_set ?_ G8.out | refine below_set ?_ G9.out) | exact HB.out)) hb); clear K8; clear K9; clear HB; have K8 := m0; have K9 := m1; have HB := m2; clear m0 m1 m2; (try clear hb); (try clear hb2); (try clear hk); (try clear hi)) | ((with_reducible refine gate_callee (f := 7) rfl ?_); refine goesL_ (some 13) rfl rfl Try.func7 (by kernel_rfl) rfl #[.agg #[.int .i64 t200, .int .i64 t201, .int .u64 t202, .string t203]] rfl (by (try simp only [List.map_toArray, List.map_cons, List.map_nil]); first | done | rfl | (simp only [List.length_drop, List.length_take]; rfl)) ?_; (with_reducible refine (code_Make.calls t200 t201 t202 t203 t204 t205 _ A4.out).mono ?_); rintro e w133 ⟨rfl, hb⟩; refine ⟨_, rfl, ?_⟩; have m0 := am_ (blk_below (g := g8) (o := .cells #[.int .i64 a0_0, .int .i64 a0_1, .int .u64 a0_2, .string a0_3] 24 (0, 0)) (by (with_reducible repeat (first | refine blk_drewN ?_ _ | refine blk_drew ?_ | refine blk_alloc ?_ _)); exact K8.out) hb); have m1 := am_ (blk_below (g := g9) (o := .cells #[.int .i64 a1_0, .int .i64 a1_1, .int .u64 a1_2, .string a1_3] 24 (0, 0)) (by (with_reducible repeat (first | refine blk_drewN ?_ _ | refine blk_drew ?_ | refine blk_alloc ?_ _)); exact K9.out) hb); have m2 := am_ (below_step (by repeat (first | (with_reducible first | exact HB.out | apply below_alloc | apply pw_below_drewN | apply below_drew1 | refine below_set ?_ G8.out | refine below_set ?_ G9.out) | exact HB.out)) hb); clear K8; clear K9; clear HB; have K8 := m0; have K9 := m1; have HB := m2; clear m0 m1 m2; (try clear hb); (try clear hb2); (try clear hk); (try clear hi); have hcz134_0 : w133.cell? ⟨g9, 0, none⟩ = some (.int .i64 a1_0) := (bc_ K9.out 0).trans rfl; have hcz134_1 : w133.cell? ⟨g9, 1, none⟩ = some (.int .i64 a1_1) := (bc_ K9.out 1).trans rfl; have hcz134_2 : w133.cell? ⟨g9, 2, none⟩ = some (.int .u64 a1_2) := (bc_ K9.out 2).trans rfl; have hcz134_3 : w133.cell? ⟨g9, 3, none⟩ = some (.string a1_3) := (bc_ K9.out 3).trans rfl; have hfz134_0 := blk_frozen K9.out 0; have hfz134_1 := blk_frozen K9.out 1; have hfz134_2 := blk_frozen K9.out 2; have hfz134_3 := blk_frozen K9.out 3) | ((with_reducible refine gate_callee (f := 8) rfl ?_); refine goesL_ (some 18) rfl rfl Try.func8 (by kernel_rfl) rfl #[.agg #[.int .i64 a1_0, .int .i64 a1_1, .int .u64 a1_2, .string a1_3]] rfl (by (try simp only [List.map_toArray, List.map_cons, List.map_nil]); first | done | rfl | (simp only [List.length_drop, List.length_take]; rfl)) ?_; (with_reducible refine (boscagelaw03_Give.calls a1_0 a1_1 a1_2 a1_3 t206 t207 t208 t209 _ A5.out).mono ?_); rintro e w135 ⟨rfl, hb⟩; refine ⟨_, rfl, ?_⟩; have m0 := am_ (blk_below (g := g8) (o := .cells #[.int .i64 a0_0, .int .i64 a0_1, .int .u64 a0_2, .string a0_3] 24 (0, 0)) (by (with_reducible repeat (first | refine blk_drewN ?_ _ | refine blk_drew ?_ | refine blk_alloc ?_ _)); exact K8.out) hb); have m1 := am_ (blk_below (g := g9) (o := .cells #[.int .i64 a1_0, .int .i64 a1_1, .int .u64 a1_2, .string a1_3] 24 (0, 0)) (by (with_reducible repeat (first | refine blk_drewN ?_ _ | refine blk_drew ?_ | refine blk_alloc ?_ _)); exact K9.out) hb); have m2 := am_ (below_step (by repeat (first | (with_reducible first | exact HB.out | apply below_alloc | apply pw_below_drewN | apply below_drew1 | refine below_set ?_ G8.out | refine below_set ?_ G9.out) | exact HB.out)) hb); clear K8; clear K9; clear HB; have K8 := m0; have K9 := m1; have HB := m2; clear m0 m1 m2; (try clear hb); (try clear hb2); (try clear hk); (try clear hi)) | ((with_reducible refine gate_callee (f := 7) rfl ?_); refine goesL_ (some 19) rfl rfl Try.func7 (by kernel_rfl) rfl #[.agg #[.int .i64 t206, .int .i64 t207, .int .u64 t208, .string t209]] rfl (by (try simp only [List.map_toArray, List.map_cons, List.map_nil]); first | done | rfl | (simp only [List.length_drop, List.length_take]; rfl)) ?_; (with_reducible refine (code_Make.calls t206 t207 t208 t209 t210 t211 _ A6.out).mono ?_); rintro e w136 ⟨rfl, hb⟩; refine ⟨_, rfl, ?_⟩; have m0 := am_ (blk_below (g := g8) (o := .cells #[.int .i64 a0_0, .int .i64 a0_1, .int .u64 a0_2, .string a0_3] 24 (0, 0)) (by (with_reducible repeat (first | refine blk_drewN ?_ _ | refine blk_drew ?_ | refine blk_alloc ?_ _)); exact K8.out) hb); have m1 := am_ (blk_below (g := g9) (o := .cells #[.int .i64 a1_0, .int .i64 a1_1, .int .u64 a1_2, .string a1_3] 24 (0, 0)) (by (with_reducible repeat (first | refine blk_drewN ?_ _ | refine blk_drew ?_ | refine blk_alloc ?_ _)); exact K9.out) hb); have m2 := am_ (below_step (by repeat (first | (with_reducible first | exact HB.out | apply below_alloc | apply pw_below_drewN | apply below_drew1 | refine below_set ?_ G8.out | refine below_set ?_ G9.out) | exact HB.out)) hb); clear K8; clear K9; clear HB; have K8 := m0; have K9 := m1; have HB := m2; clear m0 m1 m2; (try clear hb); (try clear hb2); (try clear hk); (try clear hi)))
    have m0 := am_ (blk_drew K8.out)
    have m1 := am_ (blk_drew K9.out)
    have m2 := am_ (below_drew1 HB.out)
    clear K8
    clear K9
    clear HB
    have K8 := m0
    have K9 := m1
    have HB := m2
    clear m0 m1 m2
    refine start_ (n := 6) (S := fun w' => w'.cell? ⟨g8, 0, none⟩ = some (.int .i64 a0_0) ∧ w'.cell? ⟨g8, 1, none⟩ = some (.int .i64 a0_1) ∧ w'.cell? ⟨g8, 2, none⟩ = some (.int .u64 a0_2) ∧ w'.cell? ⟨g8, 3, none⟩ = some (.string a0_3) ∧ w'.cell? ⟨g9, 0, none⟩ = some (.int .i64 a1_0) ∧ w'.cell? ⟨g9, 1, none⟩ = some (.int .i64 a1_1) ∧ w'.cell? ⟨g9, 2, none⟩ = some (.int .u64 a1_2) ∧ w'.cell? ⟨g9, 3, none⟩ = some (.string a1_3)) (ds := []) #[false, false, false, false, false, false] (by kernel_rfl) rfl rfl ⟨(bc_ K8.out 0).trans rfl, (bc_ K8.out 1).trans rfl, (bc_ K8.out 2).trans rfl, (bc_ K8.out 3).trans rfl, (bc_ K9.out 0).trans rfl, (bc_ K9.out 1).trans rfl, (bc_ K9.out 2).trans rfl, (bc_ K9.out 3).trans rfl⟩ (fun hL => ?_)
    generalize w136.drew = w137 at K8 K9 HB hL ⊢
    refine take_ (i := 0) (N := some 22) (v := ?_) (a' := ?_) #[true, false, false, false, false, false] rfl rfl (by kernel_rfl) (fun _ _ _ h => h) (Or.inl ⟨by rfl, ?_⟩) hL ?_ ?_
    rotate_left
    · rintro w' ⟨s0, s1, s2, s3, s4, s5, s6, s7⟩
      go_simp
      with_reducible rfl
    rotate_left
    · simp only [Act.put, sa_, sz_, ss_, i64_w, i32_w]
      rfl
    refine take_ (i := 2) (N := some 24) (v := ?_) (a' := ?_) #[true, false, true, false, false, false] rfl rfl (by kernel_rfl) (fun _ _ _ h => h) (Or.inl ⟨by rfl, ?_⟩) hL ?_ ?_
    rotate_left
    · rintro w' ⟨s0, s1, s2, s3, s4, s5, s6, s7⟩
      go_simp
      with_reducible rfl
    rotate_left
    · simp only [Act.put, sa_, sz_, ss_, i64_w, i32_w]
      rfl
    refine one_ (i := 1) (N := some 23) #[true, true, true, false, false, false] rfl rfl (by kernel_rfl) (by decide) (fun K hK => ?_)
    refine goes_ Try.func8 (by kernel_rfl) rfl #[.agg #[.int .i64 a0_0, .int .i64 a0_1, .int .u64 a0_2, .string a0_3]] (by rfl) rfl rfl (by (try simp only [List.map_toArray, List.map_cons, List.map_nil]); first | done | rfl | (simp only [List.length_drop, List.length_take]; rfl)) ?_
    with_reducible refine (boscagelaw03_Give.calls a0_0 a0_1 a0_2 a0_3 t212 t213 t214 t215 _ A7.out).mono ?_
    rintro e w138 ⟨rfl, hb⟩
    refine ⟨_, rfl, ?_⟩
    have m0 := am_ (blk_below (g := g8) (o := .cells #[.int .i64 a0_0, .int .i64 a0_1, .int .u64 a0_2, .string a0_3] 24 (0, 0)) (by (with_reducible repeat (first | refine blk_drewN ?_ _ | refine blk_drew ?_ | refine blk_alloc ?_ _)); exact K8.out) hb)
    have m1 := am_ (blk_below (g := g9) (o := .cells #[.int .i64 a1_0, .int .i64 a1_1, .int .u64 a1_2, .string a1_3] 24 (0, 0)) (by (with_reducible repeat (first | refine blk_drewN ?_ _ | refine blk_drew ?_ | refine blk_alloc ?_ _)); exact K9.out) hb)
    have m2 := am_ (below_step (by repeat (first | (with_reducible first | exact HB.out | apply below_alloc | apply pw_below_drewN | apply below_drew1 | refine below_set ?_ G8.out | refine below_set ?_ G9.out) | exact HB.out)) hb)
    clear K8
    clear K9
    clear HB
    have K8 := m0
    have K9 := m1
    have HB := m2
    clear m0 m1 m2
    (try clear hb)
    (try clear hb2)
    (try clear hk)
    (try clear hi)
    refine hK.out _ _ ⟨(bc_ K8.out 0).trans rfl, (bc_ K8.out 1).trans rfl, (bc_ K8.out 2).trans rfl, (bc_ K8.out 3).trans rfl, (bc_ K9.out 0).trans rfl, (bc_ K9.out 1).trans rfl, (bc_ K9.out 2).trans rfl, (bc_ K9.out 3).trans rfl⟩ (fun hL => ?_)
    clear hK K
    refine norm_ (a' := ?_) ?_ ?_
    rotate_left
    · show Act.put _ (some 23) _ = _
      simp only [Act.put, sa_, sz_, ss_, i64_w, i32_w]
      rfl
    refine one_ (i := 3) (N := some 25) #[true, true, true, true, false, false] rfl rfl (by kernel_rfl) (by decide) (fun K hK => ?_)
    refine goes_ Try.func8 (by kernel_rfl) rfl #[.agg #[.int .i64 a1_0, .int .i64 a1_1, .int .u64 a1_2, .string a1_3]] (by rfl) rfl rfl (by (try simp only [List.map_toArray, List.map_cons, List.map_nil]); first | done | rfl | (simp only [List.length_drop, List.length_take]; rfl)) ?_
    with_reducible refine (boscagelaw03_Give.calls a1_0 a1_1 a1_2 a1_3 t216 t217 t218 t219 _ A8.out).mono ?_
    rintro e w139 ⟨rfl, hb⟩
    refine ⟨_, rfl, ?_⟩
    have m0 := am_ (blk_below (g := g8) (o := .cells #[.int .i64 a0_0, .int .i64 a0_1, .int .u64 a0_2, .string a0_3] 24 (0, 0)) (by (with_reducible repeat (first | refine blk_drewN ?_ _ | refine blk_drew ?_ | refine blk_alloc ?_ _)); exact K8.out) hb)
    have m1 := am_ (blk_below (g := g9) (o := .cells #[.int .i64 a1_0, .int .i64 a1_1, .int .u64 a1_2, .string a1_3] 24 (0, 0)) (by (with_reducible repeat (first | refine blk_drewN ?_ _ | refine blk_drew ?_ | refine blk_alloc ?_ _)); exact K9.out) hb)
    have m2 := am_ (below_step (by repeat (first | (with_reducible first | exact HB.out | apply below_alloc | apply pw_below_drewN | apply below_drew1 | refine below_set ?_ G8.out | refine below_set ?_ G9.out) | exact HB.out)) hb)
    clear K8
    clear K9
    clear HB
    have K8 := m0
    have K9 := m1
    have HB := m2
    clear m0 m1 m2
    (try clear hb)
    (try clear hb2)
    (try clear hk)
    (try clear hi)
    refine hK.out _ _ ⟨(bc_ K8.out 0).trans rfl, (bc_ K8.out 1).trans rfl, (bc_ K8.out 2).trans rfl, (bc_ K8.out 3).trans rfl, (bc_ K9.out 0).trans rfl, (bc_ K9.out 1).trans rfl, (bc_ K9.out 2).trans rfl, (bc_ K9.out 3).trans rfl⟩ (fun hL => ?_)
    clear hK K
    refine norm_ (a' := ?_) ?_ ?_
    rotate_left
    · show Act.put _ (some 25) _ = _
      simp only [Act.put, sa_, sz_, ss_, i64_w, i32_w]
      rfl
    refine one_ (i := 4) (N := some 26) #[true, true, true, true, true, false] rfl rfl (by kernel_rfl) (by decide) (fun K hK => ?_)
    refine goes_ Try.func17 (by kernel_rfl) rfl #[.agg #[.int .i64 t212, .int .i64 t213, .int .u64 t214, .string t215], .agg #[.int .i64 t216, .int .i64 t217, .int .u64 t218, .string t219]] (by rfl) rfl rfl (by (try simp only [List.map_toArray, List.map_cons, List.map_nil]); first | done | rfl | (simp only [List.length_drop, List.length_take]; rfl)) ?_
    with_reducible refine (code_Less.calls t212 t213 t214 t215 t216 t217 t218 t219 t220 _ A9.out).mono ?_
    rintro e w140 ⟨rfl, hb⟩
    refine ⟨_, rfl, ?_⟩
    have m0 := am_ (blk_below (g := g8) (o := .cells #[.int .i64 a0_0, .int .i64 a0_1, .int .u64 a0_2, .string a0_3] 24 (0, 0)) (by (with_reducible repeat (first | refine blk_drewN ?_ _ | refine blk_drew ?_ | refine blk_alloc ?_ _)); exact K8.out) hb)
    have m1 := am_ (blk_below (g := g9) (o := .cells #[.int .i64 a1_0, .int .i64 a1_1, .int .u64 a1_2, .string a1_3] 24 (0, 0)) (by (with_reducible repeat (first | refine blk_drewN ?_ _ | refine blk_drew ?_ | refine blk_alloc ?_ _)); exact K9.out) hb)
    have m2 := am_ (below_step (by repeat (first | (with_reducible first | exact HB.out | apply below_alloc | apply pw_below_drewN | apply below_drew1 | refine below_set ?_ G8.out | refine below_set ?_ G9.out) | exact HB.out)) hb)
    clear K8
    clear K9
    clear HB
    have K8 := m0
    have K9 := m1
    have HB := m2
    clear m0 m1 m2
    (try clear hb)
    (try clear hb2)
    (try clear hk)
    (try clear hi)
    refine hK.out _ _ ⟨(bc_ K8.out 0).trans rfl, (bc_ K8.out 1).trans rfl, (bc_ K8.out 2).trans rfl, (bc_ K8.out 3).trans rfl, (bc_ K9.out 0).trans rfl, (bc_ K9.out 1).trans rfl, (bc_ K9.out 2).trans rfl, (bc_ K9.out 3).trans rfl⟩ (fun hL => ?_)
    clear hK K
    refine norm_ (a' := ?_) ?_ ?_
    rotate_left
    · show Act.put _ (some 26) _ = _
      simp only [Act.put, sa_, sz_, ss_, i64_w, i32_w]
      rfl
    refine pure_ (i := 5) (N := some 9) (v := ?_) (a' := ?_) #[true, true, true, true, true, true] rfl rfl (by kernel_rfl) (fun _ _ _ h => h) (Or.inl ⟨by rfl, ?_⟩) ?_ ?_
    rotate_left
    · intro w'
      go_simp
      with_reducible rfl
    rotate_left
    · simp only [Act.put, sa_, sz_, ss_, i64_w, i32_w]
      rfl
    refine done_ (by kernel_rfl) ?_
    try go_wp2
    have m0 := am_ (blk_drew K8.out)
    have m1 := am_ (blk_drew K9.out)
    have m2 := am_ (below_drew1 HB.out)
    clear K8
    clear K9
    clear HB
    have K8 := m0
    have K9 := m1
    have HB := m2
    clear m0 m1 m2
    refine start_ (n := 26) (S := fun w' => w'.cell? ⟨g8, 0, none⟩ = some (.int .i64 a0_0) ∧ w'.cell? ⟨g8, 1, none⟩ = some (.int .i64 a0_1) ∧ w'.cell? ⟨g8, 2, none⟩ = some (.int .u64 a0_2) ∧ w'.cell? ⟨g8, 3, none⟩ = some (.string a0_3) ∧ w'.cell? ⟨g9, 0, none⟩ = some (.int .i64 a1_0) ∧ w'.cell? ⟨g9, 1, none⟩ = some (.int .i64 a1_1) ∧ w'.cell? ⟨g9, 2, none⟩ = some (.int .u64 a1_2) ∧ w'.cell? ⟨g9, 3, none⟩ = some (.string a1_3)) (ds := []) #[false, false, false, false, false, false, false, false, false, false, false, false, false, false, false, false, false, false, false, false, false, false, false, false, false, false] (by kernel_rfl) rfl rfl ⟨(bc_ K8.out 0).trans rfl, (bc_ K8.out 1).trans rfl, (bc_ K8.out 2).trans rfl, (bc_ K8.out 3).trans rfl, (bc_ K9.out 0).trans rfl, (bc_ K9.out 1).trans rfl, (bc_ K9.out 2).trans rfl, (bc_ K9.out 3).trans rfl⟩ (fun hL => ?_); refine with_tabW boscagelaw03_CodeOrders.tab4 boscagelaw03_CodeOrders.bits4 (fun HT_ HW_ => ?_)
    generalize w140.drew = w141 at K8 K9 HB hL ⊢
    refine pure_ (i := 0) (N := some 27) (v := ?_) (a' := ?_) #[true, false, false, false, false, false, false, false, false, false, false, false, false, false, false, false, false, false, false, false, false, false, false, false, false, false] rfl rfl (any_of HT_.out (by kernel_rfl)) (fun _ _ _ h => h) (Or.inl ⟨by rfl, ?_⟩) ?_ ?_
    rotate_left
    · intro w'
      go_simp
      with_reducible rfl
    rotate_left
    · simp only [Act.put, sa_, sz_, ss_, i64_w, i32_w]
      rfl
    refine take_ (i := 1) (N := some 28) (v := ?_) (a' := ?_) #[true, true, false, false, false, false, false, false, false, false, false, false, false, false, false, false, false, false, false, false, false, false, false, false, false, false] rfl rfl (take_ofW HT_.out HW_.out (by kernel_rfl)) (fun _ _ _ h => h) (Or.inl ⟨by rfl, ?_⟩) hL ?_ ?_
    rotate_left
    · rintro w' ⟨s0, s1, s2, s3, s4, s5, s6, s7⟩
      go_simp
      with_reducible rfl
    rotate_left
    · simp only [Act.put, sa_, sz_, ss_, i64_w, i32_w]
      rfl
    refine take_ (i := 3) (N := some 30) (v := ?_) (a' := ?_) #[true, true, false, true, false, false, false, false, false, false, false, false, false, false, false, false, false, false, false, false, false, false, false, false, false, false] rfl rfl (take_ofW HT_.out HW_.out (by kernel_rfl)) (fun _ _ _ h => h) (Or.inl ⟨by rfl, ?_⟩) hL ?_ ?_
    rotate_left
    · rintro w' ⟨s0, s1, s2, s3, s4, s5, s6, s7⟩
      go_simp
      with_reducible rfl
    rotate_left
    · simp only [Act.put, sa_, sz_, ss_, i64_w, i32_w]
      rfl
    refine one_ (i := 2) (N := some 29) #[true, true, true, true, false, false, false, false, false, false, false, false, false, false, false, false, false, false, false, false, false, false, false, false, false, false] rfl rfl (one_of HT_.out (by kernel_rfl)) (by decide) (fun K hK => ?_)
    refine goes_ Try.func10 (by kernel_rfl) rfl #[.agg #[.int .i64 a0_0, .int .i64 a0_1, .int .u64 a0_2, .string a0_3]] (by rfl) rfl rfl (by (try simp only [List.map_toArray, List.map_cons, List.map_nil]); first | done | rfl | (simp only [List.length_drop, List.length_take]; rfl)) ?_
    with_reducible refine (boscagelaw03_short.calls a0_0 a0_1 a0_2 a0_3 t221 t222 t223 t224 _ A10.out).mono ?_
    rintro e w142 ⟨rfl, hb⟩
    refine ⟨_, rfl, ?_⟩
    have m0 := am_ (blk_below (g := g8) (o := .cells #[.int .i64 a0_0, .int .i64 a0_1, .int .u64 a0_2, .string a0_3] 24 (0, 0)) (by (with_reducible repeat (first | refine blk_drewN ?_ _ | refine blk_drew ?_ | refine blk_alloc ?_ _)); exact K8.out) hb)
    have m1 := am_ (blk_below (g := g9) (o := .cells #[.int .i64 a1_0, .int .i64 a1_1, .int .u64 a1_2, .string a1_3] 24 (0, 0)) (by (with_reducible repeat (first | refine blk_drewN ?_ _ | refine blk_drew ?_ | refine blk_alloc ?_ _)); exact K9.out) hb)
    have m2 := am_ (below_step (by repeat (first | (with_reducible first | exact HB.out | apply below_alloc | apply pw_below_drewN | apply below_drew1 | refine below_set ?_ G8.out | refine below_set ?_ G9.out) | exact HB.out)) hb)
    clear K8
    clear K9
    clear HB
    have K8 := m0
    have K9 := m1
    have HB := m2
    clear m0 m1 m2
    (try clear hb)
    (try clear hb2)
    (try clear hk)
    (try clear hi)
    refine hK.out _ _ ⟨(bc_ K8.out 0).trans rfl, (bc_ K8.out 1).trans rfl, (bc_ K8.out 2).trans rfl, (bc_ K8.out 3).trans rfl, (bc_ K9.out 0).trans rfl, (bc_ K9.out 1).trans rfl, (bc_ K9.out 2).trans rfl, (bc_ K9.out 3).trans rfl⟩ (fun hL => ?_)
    clear hK K
    refine norm_ (a' := ?_) ?_ ?_
    rotate_left
    · show Act.put _ (some 29) _ = _
      simp only [Act.put, sa_, sz_, ss_, i64_w, i32_w]
      rfl
    refine one_ (i := 4) (N := some 31) #[true, true, true, true, true, false, false, false, false, false, false, false, false, false, false, false, false, false, false, false, false, false, false, false, false, false] rfl rfl (one_of HT_.out (by kernel_rfl)) (by decide) (fun K hK => ?_)
    refine goes_ Try.func10 (by kernel_rfl) rfl #[.agg #[.int .i64 a1_0, .int .i64 a1_1, .int .u64 a1_2, .string a1_3]] (by rfl) rfl rfl (by (try simp only [List.map_toArray, List.map_cons, List.map_nil]); first | done | rfl | (simp only [List.length_drop, List.length_take]; rfl)) ?_
    with_reducible refine (boscagelaw03_short.calls a1_0 a1_1 a1_2 a1_3 t225 t226 t227 t228 _ A11.out).mono ?_
    rintro e w143 ⟨rfl, hb⟩
    refine ⟨_, rfl, ?_⟩
    have m0 := am_ (blk_below (g := g8) (o := .cells #[.int .i64 a0_0, .int .i64 a0_1, .int .u64 a0_2, .string a0_3] 24 (0, 0)) (by (with_reducible repeat (first | refine blk_drewN ?_ _ | refine blk_drew ?_ | refine blk_alloc ?_ _)); exact K8.out) hb)
    have m1 := am_ (blk_below (g := g9) (o := .cells #[.int .i64 a1_0, .int .i64 a1_1, .int .u64 a1_2, .string a1_3] 24 (0, 0)) (by (with_reducible repeat (first | refine blk_drewN ?_ _ | refine blk_drew ?_ | refine blk_alloc ?_ _)); exact K9.out) hb)
    have m2 := am_ (below_step (by repeat (first | (with_reducible first | exact HB.out | apply below_alloc | apply pw_below_drewN | apply below_drew1 | refine below_set ?_ G8.out | refine below_set ?_ G9.out) | exact HB.out)) hb)
    clear K8
    clear K9
    clear HB
    have K8 := m0
    have K9 := m1
    have HB := m2
    clear m0 m1 m2
    (try clear hb)
    (try clear hb2)
    (try clear hk)
    (try clear hi)
    refine hK.out _ _ ⟨(bc_ K8.out 0).trans rfl, (bc_ K8.out 1).trans rfl, (bc_ K8.out 2).trans rfl, (bc_ K8.out 3).trans rfl, (bc_ K9.out 0).trans rfl, (bc_ K9.out 1).trans rfl, (bc_ K9.out 2).trans rfl, (bc_ K9.out 3).trans rfl⟩ (fun hL => ?_)
    clear hK K
    refine norm_ (a' := ?_) ?_ ?_
    rotate_left
    · show Act.put _ (some 31) _ = _
      simp only [Act.put, sa_, sz_, ss_, i64_w, i32_w]
      rfl
    refine one_ (i := 5) (N := some 32) #[true, true, true, true, true, true, false, false, false, false, false, false, false, false, false, false, false, false, false, false, false, false, false, false, false, false] rfl rfl (one_of HT_.out (by kernel_rfl)) (by decide) (fun K hK => ?_)
    refine goes_ Try.func18 (by kernel_rfl) rfl #[.agg #[.int .i64 t221, .int .i64 t222, .int .u64 t223, .string t224], .agg #[.int .i64 t225, .int .i64 t226, .int .u64 t227, .string t228]] (by rfl) rfl rfl (by (try simp only [List.map_toArray, List.map_cons, List.map_nil]); first | done | rfl | (simp only [List.length_drop, List.length_take]; rfl)) ?_
    with_reducible refine (boscageref03_Less.calls k t221 t222 t223 t224 t225 t226 t227 t228 t229 _ A12.out).mono ?_
    rintro e w144 ⟨rfl, hb⟩
    refine ⟨_, rfl, ?_⟩
    have m0 := am_ (blk_below (g := g8) (o := .cells #[.int .i64 a0_0, .int .i64 a0_1, .int .u64 a0_2, .string a0_3] 24 (0, 0)) (by (with_reducible repeat (first | refine blk_drewN ?_ _ | refine blk_drew ?_ | refine blk_alloc ?_ _)); exact K8.out) hb)
    have m1 := am_ (blk_below (g := g9) (o := .cells #[.int .i64 a1_0, .int .i64 a1_1, .int .u64 a1_2, .string a1_3] 24 (0, 0)) (by (with_reducible repeat (first | refine blk_drewN ?_ _ | refine blk_drew ?_ | refine blk_alloc ?_ _)); exact K9.out) hb)
    have m2 := am_ (below_step (by repeat (first | (with_reducible first | exact HB.out | apply below_alloc | apply pw_below_drewN | apply below_drew1 | refine below_set ?_ G8.out | refine below_set ?_ G9.out) | exact HB.out)) hb)
    clear K8
    clear K9
    clear HB
    have K8 := m0
    have K9 := m1
    have HB := m2
    clear m0 m1 m2
    (try clear hb)
    (try clear hb2)
    (try clear hk)
    (try clear hi)
    refine hK.out _ _ ⟨(bc_ K8.out 0).trans rfl, (bc_ K8.out 1).trans rfl, (bc_ K8.out 2).trans rfl, (bc_ K8.out 3).trans rfl, (bc_ K9.out 0).trans rfl, (bc_ K9.out 1).trans rfl, (bc_ K9.out 2).trans rfl, (bc_ K9.out 3).trans rfl⟩ (fun hL => ?_)
    clear hK K
    refine norm_ (a' := ?_) ?_ ?_
    rotate_left
    · show Act.put _ (some 32) _ = _
      simp only [Act.put, sa_, sz_, ss_, i64_w, i32_w]
      rfl
    refine pure_ (i := 6) (N := some 33) (v := ?_) (a' := ?_) #[true, true, true, true, true, true, true, false, false, false, false, false, false, false, false, false, false, false, false, false, false, false, false, false, false, false] rfl rfl (any_of HT_.out (by kernel_rfl)) (fun _ _ _ h => h) (Or.inl ⟨by rfl, ?_⟩) ?_ ?_
    rotate_left
    · intro w'
      go_simp
      with_reducible rfl
    rotate_left
    · simp only [Act.put, sa_, sz_, ss_, i64_w, i32_w]
      rfl
    refine pure_ (i := 7) (N := some 34) (v := ?_) (a' := ?_) #[true, true, true, true, true, true, true, true, false, false, false, false, false, false, false, false, false, false, false, false, false, false, false, false, false, false] rfl rfl (any_of HT_.out (by kernel_rfl)) (fun _ _ _ h => h) (Or.inl ⟨by rfl, ?_⟩) ?_ ?_
    rotate_left
    · intro w'
      go_simp
      with_reducible rfl
    rotate_left
    · simp only [Act.put, sa_, sz_, ss_, i64_w, i32_w]
      rfl
    refine pure_ (i := 8) (N := some 35) (v := undef) (a' := ?_) #[true, true, true, true, true, true, true, true, true, false, false, false, false, false, false, false, false, false, false, false, false, false, false, false, false, false] rfl rfl (any_of HT_.out (by kernel_rfl)) (fun _ _ _ h => h) (Or.inr ⟨by rfl, rfl⟩) ?_ ?_
    rotate_left
    · simp only [Act.put, sa_, sz_, ss_, i64_w, i32_w]
      rfl
    refine pure_ (i := 9) (N := some 36) (v := undef) (a' := ?_) #[true, true, true, true, true, true, true, true, true, true, false, false, false, false, false, false, false, false, false, false, false, false, false, false, false, false] rfl rfl (any_of HT_.out (by kernel_rfl)) (fun _ _ _ h => h) (Or.inr ⟨by rfl, rfl⟩) ?_ ?_
    rotate_left
    · simp only [Act.put, sa_, sz_, ss_, i64_w, i32_w]
      rfl
    refine pure_ (i := 10) (N := some 37) (v := undef) (a' := ?_) #[true, true, true, true, true, true, true, true, true, true, true, false, false, false, false, false, false, false, false, false, false, false, false, false, false, false] rfl rfl (any_of HT_.out (by kernel_rfl)) (fun _ _ _ h => h) (Or.inr ⟨by rfl, rfl⟩) ?_ ?_
    rotate_left
    · simp only [Act.put, sa_, sz_, ss_, i64_w, i32_w]
      rfl
    refine pure_ (i := 11) (N := some 38) (v := undef) (a' := ?_) #[true, true, true, true, true, true, true, true, true, true, true, true, false, false, false, false, false, false, false, false, false, false, false, false, false, false] rfl rfl (any_of HT_.out (by kernel_rfl)) (fun _ _ _ h => h) (Or.inr ⟨by rfl, rfl⟩) ?_ ?_
    rotate_left
    · simp only [Act.put, sa_, sz_, ss_, i64_w, i32_w]
      rfl
    refine pure_ (i := 12) (N := some 39) (v := undef) (a' := ?_) #[true, true, true, true, true, true, true, true, true, true, true, true, true, false, false, false, false, false, false, false, false, false, false, false, false, false] rfl rfl (any_of HT_.out (by kernel_rfl)) (fun _ _ _ h => h) (Or.inr ⟨by rfl, rfl⟩) ?_ ?_
    rotate_left
    · simp only [Act.put, sa_, sz_, ss_, i64_w, i32_w]
      rfl
    refine pure_ (i := 13) (N := some 40) (v := undef) (a' := ?_) #[true, true, true, true, true, true, true, true, true, true, true, true, true, true, false, false, false, false, false, false, false, false, false, false, false, false] rfl rfl (any_of HT_.out (by kernel_rfl)) (fun _ _ _ h => h) (Or.inr ⟨by rfl, rfl⟩) ?_ ?_
    rotate_left
    · simp only [Act.put, sa_, sz_, ss_, i64_w, i32_w]
      rfl
    refine pure_ (i := 14) (N := some 41) (v := undef) (a' := ?_) #[true, true, true, true, true, true, true, true, true, true, true, true, true, true, true, false, false, false, false, false, false, false, false, false, false, false] rfl rfl (any_of HT_.out (by kernel_rfl)) (fun _ _ _ h => h) (Or.inr ⟨by rfl, rfl⟩) ?_ ?_
    rotate_left
    · simp only [Act.put, sa_, sz_, ss_, i64_w, i32_w]
      rfl
    refine pure_ (i := 15) (N := some 42) (v := undef) (a' := ?_) #[true, true, true, true, true, true, true, true, true, true, true, true, true, true, true, true, false, false, false, false, false, false, false, false, false, false] rfl rfl (any_of HT_.out (by kernel_rfl)) (fun _ _ _ h => h) (Or.inr ⟨by rfl, rfl⟩) ?_ ?_
    rotate_left
    · simp only [Act.put, sa_, sz_, ss_, i64_w, i32_w]
      rfl
    refine pure_ (i := 16) (N := some 43) (v := undef) (a' := ?_) #[true, true, true, true, true, true, true, true, true, true, true, true, true, true, true, true, true, false, false, false, false, false, false, false, false, false] rfl rfl (any_of HT_.out (by kernel_rfl)) (fun _ _ _ h => h) (Or.inr ⟨by rfl, rfl⟩) ?_ ?_
    rotate_left
    · simp only [Act.put, sa_, sz_, ss_, i64_w, i32_w]
      rfl
    refine pure_ (i := 17) (N := some 44) (v := undef) (a' := ?_) #[true, true, true, true, true, true, true, true, true, true, true, true, true, true, true, true, true, true, false, false, false, false, false, false, false, false] rfl rfl (any_of HT_.out (by kernel_rfl)) (fun _ _ _ h => h) (Or.inr ⟨by rfl, rfl⟩) ?_ ?_
    rotate_left
    · simp only [Act.put, sa_, sz_, ss_, i64_w, i32_w]
      rfl
    refine pure_ (i := 18) (N := some 45) (v := undef) (a' := ?_) #[true, true, true, true, true, true, true, true, true, true, true, true, true, true, true, true, true, true, true, false, false, false, false, false, false, false] rfl rfl (any_of HT_.out (by kernel_rfl)) (fun _ _ _ h => h) (Or.inr ⟨by rfl, rfl⟩) ?_ ?_
    rotate_left
    · simp only [Act.put, sa_, sz_, ss_, i64_w, i32_w]
      rfl
    refine pure_ (i := 19) (N := some 46) (v := undef) (a' := ?_) #[true, true, true, true, true, true, true, true, true, true, true, true, true, true, true, true, true, true, true, true, false, false, false, false, false, false] rfl rfl (any_of HT_.out (by kernel_rfl)) (fun _ _ _ h => h) (Or.inr ⟨by rfl, rfl⟩) ?_ ?_
    rotate_left
    · simp only [Act.put, sa_, sz_, ss_, i64_w, i32_w]
      rfl
    refine pure_ (i := 20) (N := some 47) (v := undef) (a' := ?_) #[true, true, true, true, true, true, true, true, true, true, true, true, true, true, true, true, true, true, true, true, true, false, false, false, false, false] rfl rfl (any_of HT_.out (by kernel_rfl)) (fun _ _ _ h => h) (Or.inr ⟨by rfl, rfl⟩) ?_ ?_
    rotate_left
    · simp only [Act.put, sa_, sz_, ss_, i64_w, i32_w]
      rfl
    refine pure_ (i := 21) (N := some 48) (v := ?_) (a' := ?_) #[true, true, true, true, true, true, true, true, true, true, true, true, true, true, true, true, true, true, true, true, true, true, false, false, false, false] rfl rfl (any_of HT_.out (by kernel_rfl)) (fun _ _ _ h => h) (Or.inl ⟨by rfl, ?_⟩) ?_ ?_
    rotate_left
    · intro w'
      go_simp
      with_reducible rfl
    rotate_left
    · simp only [Act.put, sa_, sz_, ss_, i64_w, i32_w]
      rfl
    refine pure_ (i := 22) (N := some 49) (v := ?_) (a' := ?_) #[true, true, true, true, true, true, true, true, true, true, true, true, true, true, true, true, true, true, true, true, true, true, true, false, false, false] rfl rfl (any_of HT_.out (by kernel_rfl)) (fun _ _ _ h => h) (Or.inl ⟨by rfl, ?_⟩) ?_ ?_
    rotate_left
    · intro w'
      go_simp
      with_reducible rfl
    rotate_left
    · simp only [Act.put, sa_, sz_, ss_, i64_w, i32_w]
      rfl
    refine pure_ (i := 23) (N := some 50) (v := undef) (a' := ?_) #[true, true, true, true, true, true, true, true, true, true, true, true, true, true, true, true, true, true, true, true, true, true, true, true, false, false] rfl rfl (any_of HT_.out (by kernel_rfl)) (fun _ _ _ h => h) (Or.inr ⟨by rfl, rfl⟩) ?_ ?_
    rotate_left
    · simp only [Act.put, sa_, sz_, ss_, i64_w, i32_w]
      rfl
    refine pure_ (i := 24) (N := some 51) (v := ?_) (a' := ?_) #[true, true, true, true, true, true, true, true, true, true, true, true, true, true, true, true, true, true, true, true, true, true, true, true, true, false] rfl rfl (any_of HT_.out (by kernel_rfl)) (fun _ _ _ h => h) (Or.inl ⟨by rfl, ?_⟩) ?_ ?_
    rotate_left
    · intro w'
      go_simp
      with_reducible rfl
    rotate_left
    · simp only [Act.put, sa_, sz_, ss_, i64_w, i32_w]
      rfl
    refine pure_ (i := 25) (N := some 4) (v := ?_) (a' := ?_) #[true, true, true, true, true, true, true, true, true, true, true, true, true, true, true, true, true, true, true, true, true, true, true, true, true, true] rfl rfl (any_of HT_.out (by kernel_rfl)) (fun _ _ _ h => h) (Or.inl ⟨by rfl, ?_⟩) ?_ ?_
    rotate_left
    · intro w'
      go_simp
      with_reducible rfl
    rotate_left
    · simp only [Act.put, sa_, sz_, ss_, i64_w, i32_w]
      rfl
    refine done_ (done_of HT_.out (by kernel_rfl)) ?_
    try go_wp2
    go_ret
    exact ⟨by first | rfl | (simp [errW_none, errW_some] <;> rfl) | (simp [*, errW_none, errW_some] <;> rfl), by repeat (first | (with_reducible first | exact HB.out | apply below_alloc | apply pw_below_drewN | apply below_drew1 | refine below_set ?_ G8.out | refine below_set ?_ G9.out) | exact HB.out)⟩

end Go.Proofs.Ytfpjfndelkgciaa.HCode
