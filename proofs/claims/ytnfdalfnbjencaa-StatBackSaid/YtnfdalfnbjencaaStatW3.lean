/- The walks of stat.Share, of works (layer 41) and of the law StatOf. -/
import Derived.Test.YtnfdalfnbjencaaStatW2
import Derived.Deep.RegionHeld3
import Derived.Deep.DrawnRows
namespace Go.Proofs.Ytnfdalfnbjencaa.Fw
open Go.RowKit Go.Proofs.Ytnfdalfnbjencaa.Fl Go.Proofs.YtnfdalfnbjencaaW.PrintWords Go.Proofs.YtnfdalfnbjencaaW.PrintMore
set_option linter.unusedVariables false
set_option linter.unusedSimpArgs false

/-- A share, beside its bits. -/
def shareO (p q : Int) : Option Nat := divO (some (floatOfInt .f64 p)) (floatOfInt .f64 q)

theorem share_c (p q : Int) (w : World) : Calls Try.prog 40 #[.int .i64 p, .int .i64 q] w fun e w' => ∃ r, e = .returned (.float .f64 r) ∧ Rep r (shareO p q) ∧ Drawn0 w w' := by
  unfold shareO
  rcases div_all Try.prog 23 (floatOfInt .f64 p) (floatOfInt .f64 q) with ⟨r, hr, hrun⟩ | ⟨hr, hrun⟩
  · have HR := Aside0.mk hr
    clear hr
    go_enter Try.func40, Try.ntmps40
    go_wp2
    go_ret
    exact ⟨r, rfl, HR.out, Drawn0.refl _⟩
  · have HR := Aside0.mk hr
    clear hr
    go_enter Try.func40, Try.ntmps40
    go_wp2
    go_ret
    exact ⟨_, rfl, by rw [HR.out]; exact nanv_rep _ _ _, ⟨⟨1, rfl⟩⟩⟩

theorem share00 : shareO 0 0 = none := by decide +kernel
theorem share10 : shareO 1 0 = some 9218868437227405312 := by decide +kernel
theorem sub31 : subO (most [4607182418800017408, 4613937818241073152]) (least [4607182418800017408, 4613937818241073152]) = some 4611686018427387904 := by decide +kernel
theorem text0 : strOfNums (text 9223372036854775808) = ⟨#[56, 48, 48, 48, 48, 48, 48, 48, 48, 48, 48, 48, 48, 48, 48, 48]⟩ := by decide +kernel
theorem rank0 : rank 0 = 9223372036854775808 := by decide
theorem two_c (w : World) (g : Nat) (h : RF w (some ⟨g, 0, none⟩) [4607182418800017408, 4613937818241073152]) : Calls Try.prog 30 #[.slice (some ⟨g, 0, none⟩) 2 2] w fun e w' => ∃ a b c d f, e = .returned (.agg #[a, b, c, d, f, .float .f64 4611686018427387904]) ∧ Below w.heap.size w w' :=
  (of_c _ 2 [4607182418800017408, 4613937818241073152] w h (by intro x hx; simp at hx; rcases hx with rfl | rfl <;> decide)).mono fun e w' ⟨v, h1, ⟨s, m, d, h2, _, _, h3⟩, h4⟩ => by
    rw [sub31] at h3
    have hd : d = 4611686018427387904 := h3.2
    subst hd
    exact ⟨_, _, _, _, _, by rw [h1, h2], h4⟩
theorem RF.two (w : World) (x y : Nat) : RF (w.alloc (.cells #[.float .f64 x, .float .f64 y] 23)) (some ⟨w.heap.size, 0, none⟩) [x, y] := by
  refine ⟨rfl, by simp, fun _ => ⟨_, rfl, fun j hj => ?_⟩⟩
  have hj2 : j < 2 := by simpa using hj
  have : j = 0 ∨ j = 1 := by omega
  rcases this with rfl | rfl
  · rw [add0]; go_simp
  · show _ = _
    unfold Addr.add
    go_simp
theorem cmp_two : (FloatKind.f64.format.order 4611686018427387904 4611686018427387904 == some .eq) = true := by decide +kernel
theorem text0_c (w : World) : Calls Try.prog 36 #[.float .f64 0] w fun e w' => e = .returned (.string ⟨#[56, 48, 48, 48, 48, 48, 48, 48, 48, 48, 48, 48, 48, 48, 48, 48]⟩) ∧ Below w.heap.size w w' :=
  (text_c 0 _ w (by decide) rank0).mono fun e w' ⟨h1, h2⟩ => ⟨by rw [h1, text0], h2⟩

theorem field5 (a b c d f g : Value) (W : World) : (Instr.field 39 (.agg #[a, b, c, d, f, g]) 5).run Try.prog W = .ok g W := by kernel_rfl

set_option maxHeartbeats 2000000 in
set_option maxRecDepth 100000 in
theorem works41_c (w : World) : Calls Try.prog 32 #[] w fun e w' => e = .returned (.bool true) ∧ Below w.heap.size w w' := by
  have h2 := cmp_two
  have h5 := field5
  go_enter Try.func32, Try.ntmps32
  go_wp2_with (first
    | (go_at_call 40; (with_reducible refine (share_c 0 0 _).mono ?_); rintro e w1 ⟨r, rfl, hp, ⟨n1, rfl⟩⟩; rw [share00] at hp; have HP := Aside0.mk hp; clear hp)
    | (go_at_call 46; (with_reducible refine (naN_c _).mono ?_); rintro e w1 ⟨rfl, ⟨n2, rfl⟩⟩)
    | (go_at_call 17; (with_reducible refine (rsame_c r nanBits true _ (rep_lt HP.out) nanBits_lt (rep_same HP.out rep_nan)).mono ?_); rintro e w1 ⟨rfl, ⟨n3, rfl⟩⟩)
    | (go_at_call 40; (with_reducible refine (share_c 1 0 _).mono ?_); rintro e w1 ⟨q, rfl, hp, ⟨n4, rfl⟩⟩; rw [share10] at hp; obtain rfl : q = 9218868437227405312 := hp.2; clear hp)
    | (go_at_call 47; (with_reducible refine (inf_c _).mono ?_); rintro e w1 ⟨rfl, ⟨n5, rfl⟩⟩)
    | (go_at_call 17; (with_reducible refine (rsame_c 9218868437227405312 9218868437227405312 true _ (by decide) (by decide) (same_refl _ (by decide))).mono ?_); rintro e w1 ⟨rfl, ⟨n6, rfl⟩⟩)
    | (go_at_call 36; (with_reducible refine (text0_c _).mono ?_); rintro e w1 ⟨rfl, hb⟩; have HB := Aside0.mk hb; clear hb)
    | (go_at_call 30; (with_reducible refine (two_c _ w1.heap.size ?hr).mono ?_); (case hr => first | exact RF.two _ _ _ | exact (RF.two _ _ _).drewN _); rintro e w2 ⟨a, b, c, d, f, rfl, hb⟩; have HB2 := Aside0.mk hb; clear hb))
  go_ret
  exact ⟨rfl, below_step (below_alloc (below_step (by repeat (with_reducible first | exact Below.refl _ _ | apply pw_below_drewN)) HB.out) _) HB2.out⟩

end Go.Proofs.Ytnfdalfnbjencaa.Fw
