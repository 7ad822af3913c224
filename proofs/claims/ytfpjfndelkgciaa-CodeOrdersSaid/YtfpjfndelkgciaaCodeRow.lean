/- A value of the document (a struct handed in) opened: what it holds. -/
import Derived.Test.YtfpjfndelkgciaaProg
import Derived.WalkKit
import Derived.ProofKit
import Derived.OpenShut
import Derived.ShutString
import Derived.ChangeArms
import Derived.WideShapes
import Derived.KernelRfl
namespace Go.Proofs.Ytfpjfndelkgciaa.Fw
open Go.ChangeShapes Go.WideShapes Go.ChangeAt Go.RowKit
set_option linter.unusedVariables false

theorem open_value {H : Type} {enc : TypeId × Value → H} {w : World} {r : Reach} {b0 base : Nat} {sp : Nat → Bool} {held : Bool} {v : Value} {d : DataW H} {ps : List MemPlace}
    (hval : Value.okWide Try.prog w r b0 24 v) (hd : DataW.Trod enc Try.prog w base sp held 24 v d ps) :
    ∃ (K N F : Int) (S : ByteArray), v = .agg #[.int .i64 K, .int .i64 N, .int .u64 F, .string S] ∧ (Lit.int .i64 N).wf = true ∧ (Lit.int .u64 F).wf = true := by
  obtain ⟨cs, rfl, hsz⟩ := okWide_struct Try.underlying24 hval
  have hc : Try.prog.cellsOf 24 = 4 := by kernel_rfl
  rw [hc] at hsz
  obtain ⟨fuel, hf⟩ := hd
  obtain ⟨xs, n, rfl, hx, hl, hxl, hh⟩ := DataW.trod_struct Try.underlying24 hf
  obtain ⟨l⟩ := cs
  have hsz' : l.length = 4 := hsz
  match l, hsz' with
  | [a, b, c, e], _ =>
    have hxl' : xs.length = 4 := hxl
    match xs, hxl' with
    | [x0, x1, x2, x3], _ =>
      have h0 : DataW.trod enc Try.prog w base sp held n 3 ((([a, b, c, e] : List Value).drop 0).take (Try.prog.cellsOf 3)) = some x0 := hh 0 _ rfl
      have h1 : DataW.trod enc Try.prog w base sp held n 2 ((([a, b, c, e] : List Value).drop 1).take (Try.prog.cellsOf 2)) = some x1 := hh 1 _ rfl
      have h2 : DataW.trod enc Try.prog w base sp held n 22 ((([a, b, c, e] : List Value).drop 2).take (Try.prog.cellsOf 22)) = some x2 := hh 2 _ rfl
      have h3 : DataW.trod enc Try.prog w base sp held n 9 ((([a, b, c, e] : List Value).drop 3).take (Try.prog.cellsOf 9)) = some x3 := hh 3 _ rfl
      have c3 : Try.prog.cellsOf 3 = 1 := by kernel_rfl
      have c2 : Try.prog.cellsOf 2 = 1 := by kernel_rfl
      have c22 : Try.prog.cellsOf 22 = 1 := by kernel_rfl
      have c9 : Try.prog.cellsOf 9 = 1 := by kernel_rfl
      rw [c3] at h0; rw [c2] at h1; rw [c22] at h2; rw [c9] at h3
      obtain ⟨K, e0, -, -⟩ := DataW.trod_int Try.underlying3 h0
      obtain ⟨N, e1, -, w1⟩ := DataW.trod_int Try.underlying2 h1
      obtain ⟨F, e2, -, w2⟩ := DataW.trod_int Try.underlying22 h2
      obtain ⟨S, e3, -, -⟩ := DataW.trod_string Try.underlying9 h3
      simp at e0 e1 e2 e3
      subst e0 e1 e2 e3
      exact ⟨K, N, F, S, rfl, w1, w2⟩

theorem wf_i64 {n : Int} (h : (Lit.int .i64 n).wf = true) : -9223372036854775808 ≤ n ∧ n ≤ 9223372036854775807 := by
  simp only [Lit.wf, Bool.and_eq_true, decide_eq_true_eq] at h
  have e1 : IntKind.i64.min = -9223372036854775808 := by decide
  have e2 : IntKind.i64.max = 9223372036854775807 := by decide
  rw [e1, e2] at h
  exact h
theorem wf_u64 {n : Int} (h : (Lit.int .u64 n).wf = true) : 0 ≤ n ∧ n < 18446744073709551616 := by
  simp only [Lit.wf, Bool.and_eq_true, decide_eq_true_eq] at h
  have e1 : IntKind.u64.min = 0 := by decide
  have e2 : IntKind.u64.max = 18446744073709551615 := by decide
  rw [e1, e2] at h
  omega

end Go.Proofs.Ytfpjfndelkgciaa.Fw
