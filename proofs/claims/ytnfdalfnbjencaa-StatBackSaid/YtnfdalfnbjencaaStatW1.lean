/- The walks of stat.Of, stat.Share and of few (layer 41). -/
import Derived.Test.YtnfdalfnbjencaaFloatW9
namespace Go.Proofs.Ytnfdalfnbjencaa.Fw
open Go.RowKit Go.Proofs.Ytnfdalfnbjencaa.Fl Go.Proofs.YtnfdalfnbjencaaW.PrintWords Go.Proofs.YtnfdalfnbjencaaW.PrintMore
attribute [local go_sem] max2_int min2_int max_two min_two
set_option linter.unusedVariables false
set_option linter.unusedSimpArgs false

/-- A float stored into a cell. -/
@[go_sem] theorem store_float {P : Program} {w : World} {a : Addr} {m : Mode} (k : FloatKind) (b : Nat) : (store a (.float k b) m).run P w = stored P w a (.float k b) m := run_store P w a _ m rfl

set_option maxHeartbeats 1000000 in
set_option maxRecDepth 100000 in
theorem few41_c (A : Option Addr) (c : Nat) (l : List Int) (w : World) (hr : Kd.C (Kd.int .u64) w A l.length l) (hc : l.length ≤ c) (m : Nat) (hm : m = min l.length 60) :
    Calls Try.prog 31 #[.slice A l.length c] w fun e w' => ∃ v, e = .returned v ∧ FL.R 23 w' w.heap.size (fun _ => True) v ((l.take m).map Int.toNat) ∧ Below w.heap.size w w' := by
  obtain ⟨i0, hi, hzz⟩ := Option.map_eq_some_iff.1 info22
  simp only [Prod.mk.injEq] at hzz
  obtain ⟨_, hsz, _⟩ := hzz
  have hmin : (if (60 : Int) < (l.length : Int) then (60 : Int) else (l.length : Int)) = (m : Int) := by subst hm; split <;> omega
  have hmc : (m : Int) ≤ c := by omega
  have hm0 : (0 : Int) ≤ m := by omega
  obtain ⟨hcut, hA, hC⟩ := print_take_of (P := Try.prog) (Value.int .u64) (0 : Int) 29 22 .i64 Try.underlying29 hi hsz A c l (m : Int) (by omega) (by omega) hc
  rw [Int.toNat_natCast] at hcut hA hC
  have hl2 : (l.take m).length = m := by rw [List.length_take]; omega
  have hr2 : Kd.C (Kd.int .u64) w A (l.take m).length (l.take m) := Kd.C_take hr (by omega)
  have HC := Aside0.mk (list_c A c (l.take m) w hr2 (by omega))
  rw [hl2] at hcut HC
  clear hr hm hi hsz hA hC hr2 hl2 hc
  go_enter Try.func31, Try.ntmps31
  go_wp2_with (go_at_call 48; (with_reducible refine HC.out.mono ?_); rintro e w1 ⟨v, rfl, ho, hb⟩; have HO := Aside0.mk ho; have HB := Aside0.mk hb; clear ho hb)
  go_ret
  exact ⟨v, rfl, HO.out, HB.out⟩

theorem few41_rf (A : Option Addr) (c : Nat) (l : List Int) (w : World) (hr : Kd.C (Kd.int .u64) w A l.length l) (hc : l.length ≤ c) (ys : List Nat) (hy : ys = (l.take (min l.length 60)).map Int.toNat) (W : World) (hb : Below w.heap.size w W) :
    Calls Try.prog 31 #[.slice A l.length c] W fun e w' => ∃ A1 c1, e = .returned (.slice A1 ys.length c1) ∧ RF w' A1 ys ∧ Below W.heap.size W w' :=
  (few41_c A c l W (Kd.C_below hr hb) hc _ rfl).mono fun e w' ⟨v, h1, h2, h3⟩ => by
    rw [← hy] at h2
    obtain ⟨A1, c1, hv, _, hf⟩ := RF.of_R h2
    exact ⟨A1, c1, by rw [h1, hv], hf, h3⟩

/-- The NaN that the model draws in a world. -/
def nanv (a b : Nat) (W : World) : Nat := (Question.nanBits FloatKind.f64 a b).cut (W.tape W.drawn (Question.nanBits FloatKind.f64 a b))
theorem nanv_rep (a b : Nat) (W : World) : Rep (nanv a b W) none := ⟨(cut_nan a b _).2, (cut_nan a b _).1⟩
theorem sub_all (P : Program) (t : TypeId) (a b : Nat) :
    (∃ r, Rep r (subO a b) ∧ ∀ W, (binOp .sub t (.float .f64 a) (.float .f64 b)).run P W = .ok (.float .f64 r) W) ∨
    (subO a b = none ∧ ∀ W, (binOp .sub t (.float .f64 a) (.float .f64 b)).run P W = .ok (.float .f64 (nanv a b W)) W.drew) := by
  unfold subO
  cases ho : Ieee.double.sub a b with
  | some r => exact Or.inl ⟨r, ⟨dbl_lt (Ieee.double.sub_lt ho), rfl⟩, fun W => run_float_arith W .sub t .f64 a b r ho⟩
  | none =>
    refine Or.inr ⟨rfl, fun W => ?_⟩
    have hf : FloatKind.f64.format.sub a b = none := ho
    simp [binOp, Op.floatArith, hf, Question.forced]
    rfl
theorem div_all (P : Program) (t : TypeId) (a b : Nat) :
    (∃ r, Rep r (divO (some a) b) ∧ ∀ W, (binOp .quo t (.float .f64 a) (.float .f64 b)).run P W = .ok (.float .f64 r) W) ∨
    (divO (some a) b = none ∧ ∀ W, (binOp .quo t (.float .f64 a) (.float .f64 b)).run P W = .ok (.float .f64 (nanv a b W)) W.drew) := by
  unfold divO
  simp only [Option.bind_some]
  cases ho : Ieee.double.div a b with
  | some r => exact Or.inl ⟨r, ⟨dbl_lt (Ieee.double.div_lt ho), rfl⟩, fun W => run_float_arith W .quo t .f64 a b r ho⟩
  | none =>
    refine Or.inr ⟨rfl, fun W => ?_⟩
    have hf : FloatKind.f64.format.div a b = none := ho
    simp [binOp, Op.floatArith, hf, Question.forced]
    rfl

/-- What stat.Of tells. -/
def StatIs (ys : List Nat) (v : Value) : Prop := ∃ s m d : Nat, v = .agg #[.int .i64 ys.length, .float .f64 s, .float .f64 m, .float .f64 (least ys), .float .f64 (most ys), .float .f64 d] ∧ Rep s (sumO ys) ∧ Rep m (meanO ys) ∧ Rep d (subO (most ys) (least ys))

set_option maxHeartbeats 4000000 in
set_option maxRecDepth 100000 in
theorem of_c (A : Option Addr) (c : Nat) (ys : List Nat) (w : World) (hr : RF w A ys) (hy : ∀ x ∈ ys, x < full) :
    Calls Try.prog 30 #[.slice A ys.length c] w fun e w' => ∃ v, e = .returned v ∧ StatIs ys v ∧ Below w.heap.size w w' := by
  have HY := Aside0.mk hy
  have hr1 : ∀ o, RF (w.alloc o) A ys := fun o => hr.below (below_alloc (Below.refl _ _) o)
  have HF := Aside0.mk hr1
  have hlen := hr.len
  clear hy hr hr1
  rcases sub_all Try.prog 23 (most ys) (least ys) with ⟨d, hd, hrun⟩ | ⟨hd, hrun⟩
  · have HD := Aside0.mk hd
    clear hd
    go_enter Try.func30, Try.ntmps30
    go_wp2_with (first
      | (go_at_call 24; (with_reducible refine (sum_c A c ys _ ?hr HY.out).mono ?_); (case hr => first | exact HF.out _ | exact (HF.out _).drewN _); rintro e w3 ⟨s, rfl, hs1, ⟨n7, rfl⟩⟩; have HS1 := Aside0.mk hs1; clear hs1)
      | (go_at_call 26; (with_reducible refine (mean_c A c ys _ ?hr HY.out).mono ?_); (case hr => first | exact HF.out _ | exact (HF.out _).drewN _); rintro e w3 ⟨m, rfl, hm1, ⟨n10, rfl⟩⟩; have HM1 := Aside0.mk hm1; clear hm1)
      | (go_at_call 20; (with_reducible refine (least_c A c ys _ ?hr HY.out).mono ?_); (case hr => first | exact HF.out _ | exact (HF.out _).drewN _); rintro e w3 ⟨rfl, ⟨n1, rfl⟩⟩)
      | (go_at_call 22; (with_reducible refine (most_c A c ys _ ?hr HY.out).mono ?_); (case hr => first | exact HF.out _ | exact (HF.out _).drewN _); rintro e w3 ⟨rfl, ⟨n4, rfl⟩⟩))
    refine bodyPost_ret (v := .agg #[.int .i64 ys.length, .float .f64 s, .float .f64 m, .float .f64 (least ys), .float .f64 (most ys), .float .f64 d]) (by simp [results, Try.results30, go_sem]) rfl ⟨_, rfl, ⟨s, m, d, rfl, HS1.out, HM1.out, HD.out⟩, ?_⟩
    repeat (with_reducible first | exact Below.refl _ _ | apply pw_below_drewN | apply below_drew1 | apply below_alloc | refine below_set ?_ (Nat.le_refl _))
  · have HD := Aside0.mk hd
    clear hd
    go_enter Try.func30, Try.ntmps30
    go_wp2_with (first
      | (go_at_call 24; (with_reducible refine (sum_c A c ys _ ?hr HY.out).mono ?_); (case hr => first | exact HF.out _ | exact (HF.out _).drewN _); rintro e w3 ⟨s, rfl, hs1, ⟨n7, rfl⟩⟩; have HS1 := Aside0.mk hs1; clear hs1)
      | (go_at_call 26; (with_reducible refine (mean_c A c ys _ ?hr HY.out).mono ?_); (case hr => first | exact HF.out _ | exact (HF.out _).drewN _); rintro e w3 ⟨m, rfl, hm1, ⟨n10, rfl⟩⟩; have HM1 := Aside0.mk hm1; clear hm1)
      | (go_at_call 20; (with_reducible refine (least_c A c ys _ ?hr HY.out).mono ?_); (case hr => first | exact HF.out _ | exact (HF.out _).drewN _); rintro e w3 ⟨rfl, ⟨n1, rfl⟩⟩)
      | (go_at_call 22; (with_reducible refine (most_c A c ys _ ?hr HY.out).mono ?_); (case hr => first | exact HF.out _ | exact (HF.out _).drewN _); rintro e w3 ⟨rfl, ⟨n4, rfl⟩⟩))
    have hnr : ∀ W, Rep (nanv (most ys) (least ys) W) none := nanv_rep _ _
    generalize nanv (most ys) (least ys) = f at hnr
    generalize hd : f _ = d
    have HE := Aside0.mk (show Rep d none from hd ▸ hnr _)
    clear hd hnr
    refine bodyPost_ret (v := .agg #[.int .i64 ys.length, .float .f64 s, .float .f64 m, .float .f64 (least ys), .float .f64 (most ys), .float .f64 d]) (by simp [results, Try.results30, go_sem]) rfl ⟨_, rfl, ⟨s, m, d, rfl, HS1.out, HM1.out, by rw [HD.out]; exact HE.out⟩, ?_⟩
    repeat (with_reducible first | exact Below.refl _ _ | apply pw_below_drewN | apply below_drew1 | apply below_alloc | refine below_set ?_ (Nat.le_refl _))

end Go.Proofs.Ytnfdalfnbjencaa.Fw
