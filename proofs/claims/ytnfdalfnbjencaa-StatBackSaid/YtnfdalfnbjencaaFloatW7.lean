/- The walks of few and works, and of the laws FloatRanks, FloatUnranks, FloatBack, FloatBest. -/
import Derived.Test.YtnfdalfnbjencaaFloatW6
namespace Go.Proofs.Ytnfdalfnbjencaa.Fw
open Go.RowKit Go.Proofs.Ytnfdalfnbjencaa.Fl Go.Proofs.YtnfdalfnbjencaaW.PrintWords Go.Proofs.YtnfdalfnbjencaaW.PrintMore
attribute [local go_sem] max2_int min2_int max_two min_two
set_option linter.unusedVariables false
set_option linter.unusedSimpArgs false

theorem info22 : (Try.prog.info? 22).map (fun i => (i.zero, i.size, i.bytes)) = some (some (.int .u64 0), 1, 8) := by kernel_rfl

set_option maxHeartbeats 1000000 in
set_option maxRecDepth 100000 in
theorem few_c (A : Option Addr) (c : Nat) (l : List Int) (w : World) (hr : Kd.C (Kd.int .u64) w A l.length l) (hc : l.length ≤ c) (m : Nat) (hm : m = min l.length 200) :
    Calls Try.prog 19 #[.slice A l.length c] w fun e w' => ∃ v, e = .returned v ∧ FL.R 23 w' w.heap.size (fun _ => True) v ((l.take m).map Int.toNat) ∧ Below w.heap.size w w' := by
  obtain ⟨i0, hi, hzz⟩ := Option.map_eq_some_iff.1 info22
  simp only [Prod.mk.injEq] at hzz
  obtain ⟨_, hsz, _⟩ := hzz
  have hmin : (if (200 : Int) < (l.length : Int) then (200 : Int) else (l.length : Int)) = (m : Int) := by subst hm; split <;> omega
  have hmc : (m : Int) ≤ c := by omega
  have hm0 : (0 : Int) ≤ m := by omega
  obtain ⟨hcut, hA, hC⟩ := print_take_of (P := Try.prog) (Value.int .u64) (0 : Int) 29 22 .i64 Try.underlying29 hi hsz A c l (m : Int) (by omega) (by omega) hc
  rw [Int.toNat_natCast] at hcut hA hC
  have hl2 : (l.take m).length = m := by rw [List.length_take]; omega
  have hr2 : Kd.C (Kd.int .u64) w A (l.take m).length (l.take m) := Kd.C_take hr (by omega)
  have HC := Aside0.mk (list_c A c (l.take m) w hr2 (by omega))
  rw [hl2] at hcut HC
  clear hr hm hi hsz hA hC hr2 hl2 hc
  go_enter Try.func19, Try.ntmps19
  go_wp2_with (go_at_call 48; (with_reducible refine HC.out.mono ?_); rintro e w1 ⟨v, rfl, ho, hb⟩; have HO := Aside0.mk ho; have HB := Aside0.mk hb; clear ho hb)
  go_ret
  exact ⟨v, rfl, HO.out, HB.out⟩


theorem RF.below {w w1 : World} {A : Option Addr} {xs : List Nat} (h : RF w A xs) (hb : Below w.heap.size w w1) : RF w1 A xs := ReadsOf.below h hb
theorem RF.one (w : World) (x : Nat) : RF (w.alloc (.cells #[.float .f64 x] 23)) (some ⟨w.heap.size, 0, none⟩) [x] := by
  refine ⟨rfl, by simp, fun _ => ⟨_, rfl, fun j hj => ?_⟩⟩
  obtain rfl : j = 0 := by simpa using hj
  rw [add0]
  go_simp

theorem mean_one : meanO [big] = some big := by decide +kernel
theorem less_zero : less 9223372036854775808 0 = true := by decide
theorem less_zero' : less 0 9223372036854775808 = false := by decide
theorem least_nil : least [] = infBits := rfl

theorem mean_nil (w : World) : Calls Try.prog 26 #[.slice none 0 0] w fun e w' => ∃ r, e = .returned (.float .f64 r) ∧ Rep r none ∧ Drawn0 w w' :=
  (mean_c none 0 [] w (RF.none_ w) (by simp)).mono fun e w' ⟨r, h1, h2, h3⟩ => ⟨r, h1, by rwa [meanO_nil] at h2, h3⟩
theorem mean_big (g : Nat) (w : World) (h : RF w (some ⟨g, 0, none⟩) [big]) : Calls Try.prog 26 #[.slice (some ⟨g, 0, none⟩) 1 1] w fun e w' => e = .returned (.float .f64 9223372036854775808) ∧ Drawn0 w w' :=
  (mean_c _ 1 [big] w h (by intro x hx; rw [List.mem_singleton.1 hx]; decide)).mono fun e w' ⟨r, h1, h2, h3⟩ => ⟨by rw [mean_one] at h2; rw [h1, show r = big from h2.2]; rfl, h3⟩
theorem least_nilc (w : World) : Calls Try.prog 20 #[.slice none 0 0] w fun e w' => e = .returned (.float .f64 9218868437227405312) ∧ Drawn0 w w' :=
  (least_c none 0 [] w (RF.none_ w) (by simp)).mono fun e w' ⟨h1, h3⟩ => ⟨h1, h3⟩
theorem rep_lt {r : Nat} {o : Option Nat} (h : Rep r o) : r < full := h.1
theorem nanBits_lt : nanBits < full := by decide
theorem rep_nan : Rep nanBits none := ⟨by decide, nan_nan⟩

set_option maxHeartbeats 2000000 in
set_option maxRecDepth 100000 in
theorem works_c (w : World) : Calls Try.prog 18 #[] w fun e w' => e = .returned (.bool true) ∧ Below w.heap.size w w' := by
  go_enter Try.func18, Try.ntmps18
  go_wp2_with (first
    | (go_at_call 45; (with_reducible refine (copysign_c _).mono ?_); rintro e w1 ⟨rfl, ⟨n1, rfl⟩⟩)
    | (go_at_call 14; (with_reducible refine (fless_c 9223372036854775808 0 true _ (by decide) (by decide) less_zero).mono ?_); rintro e w1 ⟨rfl, ⟨n2, rfl⟩⟩)
    | (go_at_call 14; (with_reducible refine (fless_c 0 9223372036854775808 false _ (by decide) (by decide) less_zero').mono ?_); rintro e w1 ⟨rfl, ⟨n3, rfl⟩⟩)
    | (go_at_call 26; (with_reducible refine (mean_nil _).mono ?_); rintro e w1 ⟨r, rfl, hp, ⟨n4, rfl⟩⟩; have HP := Aside0.mk hp; clear hp)
    | (go_at_call 46; (with_reducible refine (naN_c _).mono ?_); rintro e w1 ⟨rfl, ⟨n5, rfl⟩⟩)
    | (go_at_call 17; (with_reducible refine (rsame_c r nanBits true _ (rep_lt HP.out) nanBits_lt (rep_same HP.out rep_nan)).mono ?_); rintro e w1 ⟨rfl, ⟨n6, rfl⟩⟩)
    | (go_at_call 26; (with_reducible refine (mean_big w.heap.size _ ?hr).mono ?_); (case hr => first | exact RF.one _ _ | exact (RF.one _ _).drewN _); rintro e w1 ⟨rfl, ⟨n7, rfl⟩⟩)
    | (go_at_call 17; (with_reducible refine (rsame_c 9223372036854775808 9223372036854775808 true _ (by decide) (by decide) (same_refl _ (by decide))).mono ?_); rintro e w1 ⟨rfl, ⟨n8, rfl⟩⟩)
    | (go_at_call 20; (with_reducible refine (least_nilc _).mono ?_); rintro e w1 ⟨rfl, ⟨n9, rfl⟩⟩)
    | (go_at_call 47; (with_reducible refine (inf_c _).mono ?_); rintro e w1 ⟨rfl, ⟨n10, rfl⟩⟩)
    | (go_at_call 17; (with_reducible refine (rsame_c 9218868437227405312 9218868437227405312 true _ (by decide) (by decide) (same_refl _ (by decide))).mono ?_); rintro e w1 ⟨rfl, ⟨n11, rfl⟩⟩))
  go_ret
  exact ⟨rfl, by repeat (first | exact below_alloc (pw_below_drewN (Below.refl _ _) _) _ | exact below_alloc (Below.refl _ _) _ | apply pw_below_drewN)⟩

theorem wf_u64 {n : Int} (h : (Lit.int .u64 n).wf = true) : ∃ b : Nat, n = b ∧ b < full := by
  have h2 : 0 ≤ n ∧ n ≤ 18446744073709551615 := by
    simp only [Lit.wf, Bool.and_eq_true, decide_eq_true_eq] at h
    have e1 : IntKind.u64.min = 0 := by decide
    have e2 : IntKind.u64.max = 18446744073709551615 := by decide
    rw [e1, e2] at h
    exact h
  exact ⟨n.toNat, by omega, by unfold full; omega⟩

set_option maxHeartbeats 2000000 in
set_option maxRecDepth 100000 in
theorem FloatRanks (a b : Int) (w : World) (wa : (Lit.int .u64 a).wf = true) (wb : (Lit.int .u64 b).wf = true) :
    Calls Try.prog 3 #[.int .u64 a, .int .u64 b] w fun e w' => e = .returned (.bool true) ∧ Below w.heap.size w w' := by
  obtain ⟨x, rfl, hx⟩ := wf_u64 wa
  obtain ⟨y, rfl, hy⟩ := wf_u64 wb
  clear wa wb
  have h1 := fun w => frombits_nat x w
  have h2 := fun w => frombits_nat y w
  obtain ⟨r, hr⟩ : ∃ r, rank x = r := ⟨_, rfl⟩
  obtain ⟨l, hl⟩ : ∃ r, less x y = r := ⟨_, rfl⟩
  obtain ⟨s, hs⟩ : ∃ r, same x y = r := ⟨_, rfl⟩
  have HR := Aside0.mk hr
  have HL := Aside0.mk hl
  have HS := Aside0.mk hs
  clear hr hl hs
  go_enter Try.func3, Try.ntmps3
  go_wp2_with (first
    | (go_at_call 12; (with_reducible refine (rank_c x r _ hx HR.out).mono ?_); rintro e w1 ⟨rfl, ⟨n1, rfl⟩⟩)
    | (go_at_call 13; (with_reducible refine (refRank_c x r _ hx HR.out).mono ?_); rintro e w1 ⟨rfl, ⟨n2, rfl⟩⟩)
    | (go_at_call 14; (with_reducible refine (fless_c x y l _ hx hy HL.out).mono ?_); rintro e w1 ⟨rfl, ⟨n3, rfl⟩⟩)
    | (go_at_call 15; (with_reducible refine (rless_c x y l _ hx hy HL.out).mono ?_); rintro e w1 ⟨rfl, ⟨n4, rfl⟩⟩)
    | (go_at_call 16; (with_reducible refine (fsame_c x y s _ hx hy HS.out).mono ?_); rintro e w1 ⟨rfl, ⟨n5, rfl⟩⟩)
    | (go_at_call 17; (with_reducible refine (rsame_c x y s _ hx hy HS.out).mono ?_); rintro e w1 ⟨rfl, ⟨n6, rfl⟩⟩)
    | (go_at_call 18; (with_reducible refine (works_c _).mono ?_); rintro e w1 ⟨rfl, hb⟩; have HB := Aside0.mk hb; clear hb))
  go_ret
  exact ⟨rfl, below_step (by repeat (first | exact Below.refl _ _ | apply pw_below_drewN)) HB.out⟩

end Go.Proofs.Ytnfdalfnbjencaa.Fw
