/- The walk of the law boscagelaw15.SpanBoth, by hand, over the contracts of span.Meet, span.Has and works: for every five whole numbers it returns true. -/
import Derived.Test.YtchgkgfhkkffeaaPSpanMeetsx1
import Derived.OpenShut
namespace Go.Proofs.Ytchgkgfhkkffeaa.SpanBothW
open Go.RowKit Go.Proofs.Ytchgkgfhkkffeaa.PSpanMeets Go.Proofs.YtchgkgfhkkffeaaW.PrintWords Go.Proofs.YtchgkgfhkkffeaaW.PrintLast Go.Proofs.YtchgkgfhkkffeaaW.PrintMore
set_option linter.unusedVariables false
set_option linter.unusedSimpArgs false

theorem ret_bool {a b : Bool} (h : a = b) : Ending.returned (.bool a) = .returned (.bool b) := by rw [h]

set_option maxHeartbeats 1000000 in
set_option maxRecDepth 100000 in
theorem yes_yes (a b c d v x y : Int) (q : Bool) (w : World) (hw : Aside0 (boscagelaw15_works.f = some true)) (hm : Aside0 (span_Meet.f a b c d = some (x, y, true))) (hp : Aside0 (span_Has.f a b v = some true)) (hq : Aside0 (span_Has.f c d v = some q)) (hr : Aside0 (span_Has.f x y v = some q)) :
    Calls Try.prog 3 #[.int .i64 a, .int .i64 b, .int .i64 c, .int .i64 d, .int .i64 v] w fun e w' => e = .returned (.bool true) ∧ Below w.heap.size w w' := by
  have HB := Aside0.mk (Below.refl w.heap.size w)
  go_enter Try.func3, Try.ntmps3
  go_wp2_with (first
    | (go_at_call 12; (with_reducible refine (boscagelaw15_works.calls true _ hw.out).mono ?_); rintro e w1 ⟨rfl, hb⟩; replace HB := Aside0.mk (below_step HB.out hb); clear hb)
    | (go_at_call 13; (with_reducible refine (span_Meet.calls a b c d x y true _ hm.out).mono ?_); rintro e w2 ⟨rfl, hb⟩; replace HB := Aside0.mk (below_step HB.out hb); clear hb)
    | (go_at_call 14; (with_reducible refine (span_Has.calls a b v true _ hp.out).mono ?_); rintro e w3 ⟨rfl, ⟨n3, rfl⟩⟩)
    | (go_at_call 14; (with_reducible refine (span_Has.calls c d v q _ hq.out).mono ?_); rintro e w4 ⟨rfl, ⟨n4, rfl⟩⟩)
    | (go_at_call 14; (with_reducible refine (span_Has.calls x y v q _ hr.out).mono ?_); rintro e w5 ⟨rfl, ⟨n5, rfl⟩⟩))
  go_ret
  exact ⟨rfl, by repeat (first | exact HB.out | apply pw_below_drewN)⟩

set_option maxHeartbeats 1000000 in
set_option maxRecDepth 100000 in
theorem no_yes (a b c d v x y : Int) (w : World) (hw : Aside0 (boscagelaw15_works.f = some true)) (hm : Aside0 (span_Meet.f a b c d = some (x, y, true))) (hp : Aside0 (span_Has.f a b v = some false)) (hr : Aside0 (span_Has.f x y v = some false)) :
    Calls Try.prog 3 #[.int .i64 a, .int .i64 b, .int .i64 c, .int .i64 d, .int .i64 v] w fun e w' => e = .returned (.bool true) ∧ Below w.heap.size w w' := by
  have HB := Aside0.mk (Below.refl w.heap.size w)
  go_enter Try.func3, Try.ntmps3
  go_wp2_with (first
    | (go_at_call 12; (with_reducible refine (boscagelaw15_works.calls true _ hw.out).mono ?_); rintro e w1 ⟨rfl, hb⟩; replace HB := Aside0.mk (below_step HB.out hb); clear hb)
    | (go_at_call 13; (with_reducible refine (span_Meet.calls a b c d x y true _ hm.out).mono ?_); rintro e w2 ⟨rfl, hb⟩; replace HB := Aside0.mk (below_step HB.out hb); clear hb)
    | (go_at_call 14; (with_reducible refine (span_Has.calls a b v false _ hp.out).mono ?_); rintro e w3 ⟨rfl, ⟨n3, rfl⟩⟩)
    | (go_at_call 14; (with_reducible refine (span_Has.calls x y v false _ hr.out).mono ?_); rintro e w5 ⟨rfl, ⟨n5, rfl⟩⟩))
  go_ret
  exact ⟨rfl, by repeat (first | exact HB.out | apply pw_below_drewN)⟩

set_option maxHeartbeats 1000000 in
set_option maxRecDepth 100000 in
theorem yes_no (a b c d v : Int) (w : World) (hw : Aside0 (boscagelaw15_works.f = some true)) (hm : Aside0 (span_Meet.f a b c d = some (0, 0, false))) (hp : Aside0 (span_Has.f a b v = some true)) (hq : Aside0 (span_Has.f c d v = some false)) :
    Calls Try.prog 3 #[.int .i64 a, .int .i64 b, .int .i64 c, .int .i64 d, .int .i64 v] w fun e w' => e = .returned (.bool true) ∧ Below w.heap.size w w' := by
  have HB := Aside0.mk (Below.refl w.heap.size w)
  go_enter Try.func3, Try.ntmps3
  go_wp2_with (first
    | (go_at_call 12; (with_reducible refine (boscagelaw15_works.calls true _ hw.out).mono ?_); rintro e w1 ⟨rfl, hb⟩; replace HB := Aside0.mk (below_step HB.out hb); clear hb)
    | (go_at_call 13; (with_reducible refine (span_Meet.calls a b c d 0 0 false _ hm.out).mono ?_); rintro e w2 ⟨rfl, hb⟩; replace HB := Aside0.mk (below_step HB.out hb); clear hb)
    | (go_at_call 14; (with_reducible refine (span_Has.calls a b v true _ hp.out).mono ?_); rintro e w3 ⟨rfl, ⟨n3, rfl⟩⟩)
    | (go_at_call 14; (with_reducible refine (span_Has.calls c d v false _ hq.out).mono ?_); rintro e w4 ⟨rfl, ⟨n4, rfl⟩⟩))
  go_ret
  exact ⟨rfl, by repeat (first | exact HB.out | apply pw_below_drewN)⟩

set_option maxHeartbeats 1000000 in
set_option maxRecDepth 100000 in
theorem no_no (a b c d v : Int) (w : World) (hw : Aside0 (boscagelaw15_works.f = some true)) (hm : Aside0 (span_Meet.f a b c d = some (0, 0, false))) (hp : Aside0 (span_Has.f a b v = some false)) :
    Calls Try.prog 3 #[.int .i64 a, .int .i64 b, .int .i64 c, .int .i64 d, .int .i64 v] w fun e w' => e = .returned (.bool true) ∧ Below w.heap.size w w' := by
  have HB := Aside0.mk (Below.refl w.heap.size w)
  go_enter Try.func3, Try.ntmps3
  go_wp2_with (first
    | (go_at_call 12; (with_reducible refine (boscagelaw15_works.calls true _ hw.out).mono ?_); rintro e w1 ⟨rfl, hb⟩; replace HB := Aside0.mk (below_step HB.out hb); clear hb)
    | (go_at_call 13; (with_reducible refine (span_Meet.calls a b c d 0 0 false _ hm.out).mono ?_); rintro e w2 ⟨rfl, hb⟩; replace HB := Aside0.mk (below_step HB.out hb); clear hb)
    | (go_at_call 14; (with_reducible refine (span_Has.calls a b v false _ hp.out).mono ?_); rintro e w3 ⟨rfl, ⟨n3, rfl⟩⟩))
  go_ret
  exact ⟨rfl, by repeat (first | exact HB.out | apply pw_below_drewN)⟩

theorem has_eq (a b v : Int) : span_Has.f a b v = some (decide (a ≤ v ∧ v < b)) := by
  unfold span_Has.f
  by_cases h : a ≤ v <;> simp [h]

theorem meets (a b c d v : Int) (p q : Bool) (hp : span_Has.f a b v = some p) (hq : span_Has.f c d v = some q) :
    (∃ x y, span_Meet.f a b c d = some (x, y, true) ∧ span_Has.f x y v = some (p && q)) ∨ (span_Meet.f a b c d = some (0, 0, false) ∧ (p && q) = false) := by
  rw [has_eq] at hp hq
  obtain rfl := Option.some.inj hp
  obtain rfl := Option.some.inj hq
  unfold span_Meet.f
  by_cases h : mx a c ≥ mn b d
  · rw [if_pos h]
    refine Or.inr ⟨rfl, ?_⟩
    rw [← Bool.decide_and, decide_eq_false_iff_not]
    unfold mx mn at h
    split at h <;> split at h <;> omega
  · rw [if_neg h]
    refine Or.inl ⟨_, _, rfl, ?_⟩
    rw [has_eq, ← Bool.decide_and]
    congr 1
    rw [decide_eq_decide]
    unfold mx mn
    split <;> split <;> omega

theorem SpanBoth (a b c d v : Int) (w : World) (_ : (Lit.int .i64 a).wf = true) (_ : (Lit.int .i64 b).wf = true) (_ : (Lit.int .i64 c).wf = true) (_ : (Lit.int .i64 d).wf = true) (_ : (Lit.int .i64 v).wf = true) :
    Calls Try.prog 3 #[.int .i64 a, .int .i64 b, .int .i64 c, .int .i64 d, .int .i64 v] w fun e w' => e = .returned (.bool true) ∧ Below w.heap.size w w' := by
  have hw : Aside0 (boscagelaw15_works.f = some true) := ⟨by decide +kernel⟩
  have has : ∀ x y z, ∃ p, span_Has.f x y z = some p := fun x y z => by unfold span_Has.f; split <;> exact ⟨_, rfl⟩
  obtain ⟨p, hp⟩ := has a b v
  obtain ⟨q, hq⟩ := has c d v
  rcases meets a b c d v p q hp hq with ⟨x, y, hm, hr⟩ | ⟨hm, hpq⟩
  · cases p with
    | true => exact yes_yes a b c d v x y q w hw ⟨hm⟩ ⟨hp⟩ ⟨hq⟩ ⟨hr⟩
    | false => exact no_yes a b c d v x y w hw ⟨hm⟩ ⟨hp⟩ ⟨hr⟩
  · cases p with
    | true =>
      obtain rfl : q = false := by simpa using hpq
      exact yes_no a b c d v w hw ⟨hm⟩ ⟨hp⟩ ⟨hq⟩
    | false => exact no_no a b c d v w hw ⟨hm⟩ ⟨hp⟩

end Go.Proofs.Ytchgkgfhkkffeaa.SpanBothW
