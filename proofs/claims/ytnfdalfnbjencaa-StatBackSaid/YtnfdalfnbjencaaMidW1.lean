/- The walks of slices.Clone at floats and of the closure that compares (stat.Middle). -/
import Derived.Test.YtnfdalfnbjencaaStatW4
import Derived.Shelf.SlSortCmp.Whole1
import Derived.Shelf.Lay
import Derived.Lib.SliceRun
import Derived.Ground.SlsfProg
namespace Go.Proofs
open Go.Shelf
shelf_lay_g SlLaysF.n6 Slsf 6 at Try 54 as Try.sortL
end Go.Proofs
namespace Go.Proofs.Ytnfdalfnbjencaa.Fw
open Go.RowKit Go.Proofs.Ytnfdalfnbjencaa.Fl Go.Proofs.YtnfdalfnbjencaaW.PrintWords Go.Proofs.YtnfdalfnbjencaaW.PrintMore
open Go.Sort (SWO PermIn SortedIn Holds)
open Go.Shelf
attribute [local go_sem] max2_int min2_int max_two min_two
set_option linter.unusedVariables false
set_option linter.unusedSimpArgs false

set_option maxHeartbeats 2000000 in
set_option maxRecDepth 100000 in
theorem clone_c (A : Option Addr) (c : Nat) (ys : List Nat) (w : World) (hr : RF w A ys) (h0 : 0 < ys.length) (hl : ys.length ≤ 1000000) :
    Calls Try.prog 53 #[.slice A ys.length c] w fun e w' => ∃ v, e = .returned v ∧ FL.R 23 w' w.heap.size (fun _ => True) v ys ∧ Below w.heap.size w w' := by
  obtain ⟨ad, rfl, _⟩ := hr.at_ 0 h0
  have HR := Aside0.mk hr
  have HB := Aside0.mk (Below.refl w.heap.size w)
  clear hr
  have hnil : ∀ (w : World) (n c n' c' : Nat), (binOp .eql 30 (.slice (some ad) n c) (.slice none n' c')).run Try.prog w = .ok (.bool false) w := fun w n c n' c' => Lib.run_eql_slice_nil w 30 23 (some ad) n c n' c' Try.underlying30
  go_enter Try.func53, Try.ntmps53
  go_wp2_with (first
    | ((with_reducible refine gate_dst (N := 5) rfl ?_); refine Kd.R_lit FL _ 23 ?hg (N := 5) ?hd (xs := ([] : List Nat)) (inner := []) (ok := fun _ => True) (okp := fun _ => True) ?hr ?hp (fun _ hk => hk) trivial (Below.refl _ _) (Nat.le_refl _) (by simp) ?_; (case hd => rfl); (case hg => rfl); (case hr => first | (go_simp; done) | (go_simp; rfl)); (case hp => exact (Reps.none _ _)); intro v1 w1 ho hb hg_ hnew_; clear hg_ hnew_; have HO := Aside0.mk ho; replace HB := Aside0.mk hb; clear ho hb)
    | (at_builtin; refine Kd.R_append_row (Value.float .f64) (0 : Nat) (w0 := w) w.heap.size rfl (.tmp 5) (.tmp 6) 30 23 (.float .f64 0) 8 rfl Try.underlying30 info23 rfl (by decide) v1 [] ys (some ad) ys.length c (fun _ => True) rfl rfl (fun _ _ => trivial) HO.out (Kd.C_of_reads (d := (0 : Nat)) (h1 := fun _ => rfl) (HR.out.below HB.out)) HB.out (below_size HB.out) (by simp; omega) ?_; intro v2 w2 ho hb hg hat; have HO2 := Aside0.mk ho; have HB2 := Aside0.mk hb; clear ho hb hg hat))
  go_ret
  exact ⟨_, rfl, HO2.out, HB2.out⟩

/-- A word of 64 bits. -/
abbrev W64 := {n : Nat // n < full}
instance : Inhabited W64 := ⟨⟨0, by decide⟩⟩
def encF (x : W64) : Value := .float .f64 x.1
def cf (x y : W64) : Int := if less x.1 y.1 = true then -1 else if less y.1 x.1 = true then 1 else 0

theorem lt_cf (x y : W64) : ltOf cf x y = decide (rank x.1 < rank y.1) := by
  unfold ltOf cf
  rw [less_rank _ _ x.2 y.2, less_rank _ _ y.2 x.2]
  by_cases h1 : rank x.1 < rank y.1
  · simp [h1]
  · by_cases h2 : rank y.1 < rank x.1 <;> simp [h1, h2]
theorem swo_cf : SWO (ltOf cf) where
  irrefl x := by rw [lt_cf]; simp
  trans x y z h1 h2 := by rw [lt_cf] at *; simp at *; omega
  ntrans x y z h1 h2 := by rw [lt_cf] at *; simp at *; omega

set_option maxHeartbeats 1000000 in
theorem cmp_c (x y : W64) (W : World) : Calls Try.prog 55 #[encF x, encF y] W fun e w' => e = .returned (.int .i64 (cf x y)) ∧ ∃ q, w' = W.drewN q := by
  obtain ⟨a, ha⟩ := x
  obtain ⟨b, hb⟩ := y
  show Calls Try.prog 55 #[.float .f64 a, .float .f64 b] W fun e w' => e = .returned (.int .i64 (if less a b = true then -1 else if less b a = true then 1 else 0)) ∧ ∃ q, w' = W.drewN q
  have HA := Aside0.mk ha
  have HB := Aside0.mk hb
  cases h1 : less a b with
  | true =>
    have H1 := Aside0.mk h1
    clear h1 ha hb
    go_enter Try.func55, Try.ntmps55
    go_wp2_with (first | (go_at_call 14; (with_reducible refine (fless_c a b true _ HA.out HB.out H1.out).mono ?_); rintro e w1 ⟨rfl, ⟨n, rfl⟩⟩))
    go_ret
    exact ⟨by simp, _, rfl⟩
  | false =>
    have H1 := Aside0.mk h1
    clear h1 ha hb
    cases h2 : less b a with
    | true =>
      have H2 := Aside0.mk h2
      clear h2
      go_enter Try.func55, Try.ntmps55
      go_wp2_with (first | (go_at_call 14; (with_reducible refine (fless_c a b false _ HA.out HB.out H1.out).mono ?_); rintro e w1 ⟨rfl, ⟨n, rfl⟩⟩) | (go_at_call 14; (with_reducible refine (fless_c b a true _ HB.out HA.out H2.out).mono ?_); rintro e w1 ⟨rfl, ⟨n2, rfl⟩⟩))
      go_ret
      exact ⟨by simp, _, rfl⟩
    | false =>
      have H2 := Aside0.mk h2
      clear h2
      go_enter Try.func55, Try.ntmps55
      go_wp2_with (first | (go_at_call 14; (with_reducible refine (fless_c a b false _ HA.out HB.out H1.out).mono ?_); rintro e w1 ⟨rfl, ⟨n, rfl⟩⟩) | (go_at_call 14; (with_reducible refine (fless_c b a false _ HB.out HA.out H2.out).mono ?_); rintro e w1 ⟨rfl, ⟨n2, rfl⟩⟩))
      go_ret
      exact ⟨by simp, _, rfl⟩

theorem cmpReads (blk off size : Nat) (w : World) : CmpReads Try.prog 55 #[] encF cf blk off size w := fun _ _ _ _ x y => cmp_c x y _

end Go.Proofs.Ytnfdalfnbjencaa.Fw
