/- The walks of boscageref30.Uses (printed) and boscageref30.Plain. -/
import Derived.Test.YtfpjfndelkgciaaDoorProg
import Derived.Below
import Derived.Deep.Draws
import Derived.Deep.AppendLies
import Derived.Maps.AppendAt
import Derived.OwnWalk
import Derived.Laws.BytesArg
import Derived.Laws.MakeOwn
import Derived.Laws.OwnMore
import Derived.Deep.OwnRows
import Derived.Tactics
import Derived.Lib.ConvBytes
import Derived.Laws.Slices
import Derived.WalkKit
import Derived.KernelRfl
import Derived.RowKit3
import Derived.Deep.LoopGhost
import Derived.Deep.QuietTactic
import Derived.BigQuiet
import Derived.WideLaws
import Derived.Deep.DeepCutAuto
import Derived.Deep.CutBlock
import Derived.Deep.RegionHeld3
import Derived.Laws.Rows
import Derived.Lib.AppendStr
import Derived.ArgAppend
import Derived.Laws.IdiomCopy
import Derived.OrdersHeld
import Derived.Laws.BitsLemmas
import Derived.RowKit
import Derived.Test.YtfpjfndelkgciaaDoorCallP
import Derived.Test.YtfpjfndelkgciaaDoorWWords
import Derived.Test.YtfpjfndelkgciaaDoorWLast
import Derived.Test.YtfpjfndelkgciaaDoorWTab
import Derived.Test.YtfpjfndelkgciaaDoorWFour
import Derived.Test.YtfpjfndelkgciaaDoorWQPut
import Derived.Test.YtfpjfndelkgciaaDoorWApart
import Derived.Test.YtfpjfndelkgciaaDoorWArr
import Derived.Test.YtfpjfndelkgciaaDoorWZeros
import Derived.Test.YtfpjfndelkgciaaDoorWFoot
import Derived.Test.YtfpjfndelkgciaaDoorWKept
import Derived.Test.YtfpjfndelkgciaaDoorWShare
import Derived.Test.YtfpjfndelkgciaaDoorWN
import Derived.Test.YtfpjfndelkgciaaDoorWFootNe
import Derived.Test.YtfpjfndelkgciaaDoorWAt
import Derived.Test.YtfpjfndelkgciaaDoorWEqStruct
import Derived.Test.YtfpjfndelkgciaaDoorWRepsOne
import Derived.Test.YtfpjfndelkgciaaDoorWInv
import Derived.Test.YtfpjfndelkgciaaDoorWInvWords
import Derived.Test.YtfpjfndelkgciaaDoorWGuard
import Derived.Test.YtfpjfndelkgciaaDoorWNEv
import Derived.Test.YtfpjfndelkgciaaDoorWMore
namespace Go.Proofs.YtfpjfndelkgciaaDoor.Fw
open Go.RowKit Go.Proofs.YtfpjfndelkgciaaDoorW.PrintWords Go.Proofs.YtfpjfndelkgciaaDoorW.PrintLast Go.Proofs.YtfpjfndelkgciaaDoorW.PrintMore
set_option linter.unusedVariables false
set_option linter.unusedSimpArgs false

def ruses.f (a0 : Int) (a1 : Int) : Option (Bool) := if a1 = 0 then (if a0 ≥ 1 then (if a0 ≤ 6 then (some true) else (if a0 = 9 then (some true) else (some (a0 == 11)))) else (if a0 = 9 then (some true) else (some (a0 == 11)))) else (if a1 = 1 then (if a0 ≥ 2 then (some (decide (a0 ≤ 4))) else (some false)) else (if a1 = 2 then (some (a0 == 4)) else (if a0 ≥ 8 then (some (decide (a0 ≤ 12))) else (some false))))
set_option maxHeartbeats 8000000 in
set_option maxRecDepth 100000 in
theorem ruses.calls (a0 : Int) (a1 : Int) (r : Bool) (w : World) (h : ruses.f a0 a1 = some r) :
    Calls Tryd.prog 16 #[.int .i64 a0, .int .i64 a1] w fun e w' => e = .returned (.bool r) ∧ Drawn0 w w' := by
  have H : (if a1 = 0 then (if a0 ≥ 1 then (if a0 ≤ 6 then (some true) else (if a0 = 9 then (some true) else (some (a0 == 11)))) else (if a0 = 9 then (some true) else (some (a0 == 11)))) else (if a1 = 1 then (if a0 ≥ 2 then (some (decide (a0 ≤ 4))) else (some false)) else (if a1 = 2 then (some (a0 == 4)) else (if a0 ≥ 8 then (some (decide (a0 ≤ 12))) else (some false))))) = some r := h
  clear h
  by_cases c3 : a1 = 0
  · rw [if_pos c3] at H
    have c3b0 : (a1 == 0) = true := beq_iff_eq.mpr c3
    have c3b1 : (a1 != 0) = false := bne_eq_false_iff_eq.mpr c3
    clear c3
    by_cases c4 : a0 ≥ 1
    · rw [if_pos c4] at H
      have c4b0 : decide (1 ≤ a0) = true := decide_eq_true c4
      clear c4
      by_cases c5 : a0 ≤ 6
      · rw [if_pos c5] at H
        have c5b0 : decide (a0 ≤ 6) = true := decide_eq_true c5
        clear c5
        obtain rfl := Option.some.inj H
        go_enter Tryd.func16, Tryd.ntmps16
        go_wp2
        go_ret
        exact ⟨by first | rfl | (simp; done) | (simp [*]; done), by repeat (first | exact Drawn0.refl _ | apply Drawn0.step)⟩
      · rw [if_neg c5] at H
        have c5b0 : decide (a0 ≤ 6) = false := decide_eq_false c5
        clear c5
        by_cases c6 : a0 = 9
        · rw [if_pos c6] at H
          have c6b0 : (a0 == 9) = true := beq_iff_eq.mpr c6
          have c6b1 : (a0 != 9) = false := bne_eq_false_iff_eq.mpr c6
          clear c6
          obtain rfl := Option.some.inj H
          go_enter Tryd.func16, Tryd.ntmps16
          go_wp2
          go_ret
          exact ⟨by first | rfl | (simp; done) | (simp [*]; done), by repeat (first | exact Drawn0.refl _ | apply Drawn0.step)⟩
        · rw [if_neg c6] at H
          have c6b0 : (a0 == 9) = false := beq_eq_false_iff_ne.mpr c6
          have c6b1 : (a0 != 9) = true := bne_iff_ne.mpr c6
          obtain rfl := Option.some.inj H
          go_enter Tryd.func16, Tryd.ntmps16
          go_wp2
          go_ret
          exact ⟨by first | rfl | (simp; done) | (simp [*]; done), by repeat (first | exact Drawn0.refl _ | apply Drawn0.step)⟩
    · rw [if_neg c4] at H
      have c4b0 : decide (1 ≤ a0) = false := decide_eq_false c4
      clear c4
      by_cases c7 : a0 = 9
      · rw [if_pos c7] at H
        have c7b0 : (a0 == 9) = true := beq_iff_eq.mpr c7
        have c7b1 : (a0 != 9) = false := bne_eq_false_iff_eq.mpr c7
        clear c7
        obtain rfl := Option.some.inj H
        go_enter Tryd.func16, Tryd.ntmps16
        go_wp2
        go_ret
        exact ⟨by first | rfl | (simp; done) | (simp [*]; done), by repeat (first | exact Drawn0.refl _ | apply Drawn0.step)⟩
      · rw [if_neg c7] at H
        have c7b0 : (a0 == 9) = false := beq_eq_false_iff_ne.mpr c7
        have c7b1 : (a0 != 9) = true := bne_iff_ne.mpr c7
        obtain rfl := Option.some.inj H
        go_enter Tryd.func16, Tryd.ntmps16
        go_wp2
        go_ret
        exact ⟨by first | rfl | (simp; done) | (simp [*]; done), by repeat (first | exact Drawn0.refl _ | apply Drawn0.step)⟩
  · rw [if_neg c3] at H
    have c3b0 : (a1 == 0) = false := beq_eq_false_iff_ne.mpr c3
    have c3b1 : (a1 != 0) = true := bne_iff_ne.mpr c3
    by_cases c8 : a1 = 1
    · rw [if_pos c8] at H
      have c8b0 : (a1 == 1) = true := beq_iff_eq.mpr c8
      have c8b1 : (a1 != 1) = false := bne_eq_false_iff_eq.mpr c8
      clear c8
      by_cases c9 : a0 ≥ 2
      · rw [if_pos c9] at H
        have c9b0 : decide (2 ≤ a0) = true := decide_eq_true c9
        clear c9
        obtain rfl := Option.some.inj H
        go_enter Tryd.func16, Tryd.ntmps16
        go_wp2
        go_ret
        exact ⟨by first | rfl | (simp; done) | (simp [*]; done), by repeat (first | exact Drawn0.refl _ | apply Drawn0.step)⟩
      · rw [if_neg c9] at H
        have c9b0 : decide (2 ≤ a0) = false := decide_eq_false c9
        clear c9
        obtain rfl := Option.some.inj H
        go_enter Tryd.func16, Tryd.ntmps16
        go_wp2
        go_ret
        exact ⟨by first | rfl | (simp; done) | (simp [*]; done), by repeat (first | exact Drawn0.refl _ | apply Drawn0.step)⟩
    · rw [if_neg c8] at H
      have c8b0 : (a1 == 1) = false := beq_eq_false_iff_ne.mpr c8
      have c8b1 : (a1 != 1) = true := bne_iff_ne.mpr c8
      by_cases c10 : a1 = 2
      · rw [if_pos c10] at H
        have c10b0 : (a1 == 2) = true := beq_iff_eq.mpr c10
        have c10b1 : (a1 != 2) = false := bne_eq_false_iff_eq.mpr c10
        clear c10
        obtain rfl := Option.some.inj H
        go_enter Tryd.func16, Tryd.ntmps16
        go_wp2
        go_ret
        exact ⟨by first | rfl | (simp; done) | (simp [*]; done), by repeat (first | exact Drawn0.refl _ | apply Drawn0.step)⟩
      · rw [if_neg c10] at H
        have c10b0 : (a1 == 2) = false := beq_eq_false_iff_ne.mpr c10
        have c10b1 : (a1 != 2) = true := bne_iff_ne.mpr c10
        by_cases c11 : a0 ≥ 8
        · rw [if_pos c11] at H
          have c11b0 : decide (8 ≤ a0) = true := decide_eq_true c11
          clear c11
          obtain rfl := Option.some.inj H
          go_enter Tryd.func16, Tryd.ntmps16
          go_wp2
          go_ret
          exact ⟨by first | rfl | (simp; done) | (simp [*]; done), by repeat (first | exact Drawn0.refl _ | apply Drawn0.step)⟩
        · rw [if_neg c11] at H
          have c11b0 : decide (8 ≤ a0) = false := decide_eq_false c11
          clear c11
          obtain rfl := Option.some.inj H
          go_enter Tryd.func16, Tryd.ntmps16
          go_wp2
          go_ret
          exact ⟨by first | rfl | (simp; done) | (simp [*]; done), by repeat (first | exact Drawn0.refl _ | apply Drawn0.step)⟩



theorem uses_eq (op : Int) : ruses.f op 0 = some (usesB op 0) ∧ ruses.f op 1 = some (usesB op 1) ∧ ruses.f op 2 = some (usesB op 2) ∧ ruses.f op 3 = some (usesB op 3) := by
  by_cases h : 1 ≤ op ∧ op ≤ 13
  · obtain ⟨n, rfl⟩ : ∃ n : Nat, op = n := ⟨op.toNat, by omega⟩
    have hn : 1 ≤ n ∧ n ≤ 13 := by omega
    rcases n with _ | _ | _ | _ | _ | _ | _ | _ | _ | _ | _ | _ | _ | _ | n
    all_goals first | omega | exact ⟨rfl, rfl, rfl, rfl⟩
  · rw [usesB_out _ _ h, usesB_out _ _ h, usesB_out _ _ h, usesB_out _ _ h]
    unfold ruses.f
    refine ⟨?_, ?_, ?_, ?_⟩
    all_goals
      simp only [if_true, show ¬ ((1 : Int) = 0) by decide, show ¬ ((2 : Int) = 0) by decide, show ¬ ((3 : Int) = 0) by decide, show ¬ ((2 : Int) = 1) by decide, show ¬ ((3 : Int) = 1) by decide, show ¬ ((3 : Int) = 2) by decide, if_false]
      repeat' split
    all_goals first | (exfalso; omega) | rfl | (congr 1; first | exact decide_eq_false (by omega) | exact beq_eq_false_iff_ne.mpr (by omega))
theorem uses_c (op k : Int) (b : Bool) (h : ruses.f op k = some b) (w : World) : Calls Tryd.prog 16 #[.int .i64 op, .int .i64 k] w fun e w' => e = .returned (.bool b) ∧ Drawn0 w w' := ruses.calls op k b w h

set_option maxHeartbeats 8000000 in
set_option maxRecDepth 100000 in
theorem rplain_in (op : Int) (K V O : ByteArray) (H : Int) (w : World) (h1 : decide (op < 1) = false) (h2 : decide (13 < op) = false) (b0 b1 b2 b3 : Bool) (U0 : ruses.f op 0 = some b0) (U1 : ruses.f op 1 = some b1) (U2 : ruses.f op 2 = some b2) (U3 : ruses.f op 3 = some b3)
    (v0 v1 v2 : ByteArray) (v3 : Int) (E0 : v0 = if b0 = true then K else (⟨#[]⟩ : ByteArray)) (E1 : v1 = if b1 = true then V else (⟨#[]⟩ : ByteArray)) (E2 : v2 = if b2 = true then O else (⟨#[]⟩ : ByteArray)) (E3 : v3 = if b3 = true then H else 0) :
    Calls Tryd.prog 14 #[.agg #[.int .i64 op, .string K, .string V, .string O, .int .i64 H]] w fun e w' => e = .returned (.agg #[.int .i64 op, .string v0, .string v1, .string v2, .int .i64 v3]) ∧ Below w.heap.size w w' := by
  have AE0 := Aside0.mk E0; have AE1 := Aside0.mk E1; have AE2 := Aside0.mk E2; have AE3 := Aside0.mk E3; clear E0 E1 E2 E3
  have AU0 := Aside0.mk U0; have AU1 := Aside0.mk U1; have AU2 := Aside0.mk U2; have AU3 := Aside0.mk U3
  clear U0 U1 U2 U3
  have hu25 := Tryd.underlying25
  have HB := Aside0.mk (Below.refl w.heap.size w)
  go_enter Tryd.func14, Tryd.ntmps14
  go_upto_if 17 with (first | ((with_reducible refine gate_dst (N := 1) rfl ?_); refine box_event ?hg (N := 1) ?hd (cs := #[.int .i64 op, .string K, .string V, .string O, .int .i64 H]) (t := 25) ?hr ?_; (case hd => rfl); (case hg => rfl); (case hr => first | (go_simp; done) | (go_simp; rfl)); intro gx hg wx hbox hb; have n0_ := Aside0.mk (below_step (by repeat (first | (with_reducible first | exact HB.out | apply below_alloc | apply pw_below_drewN | apply below_drew1 | refine below_set ?_ GEx.out | refine below_set ?_ GEr.out | refine below_set ?_ GEp.out) | exact HB.out)) hb); have n1_ := Aside0.mk (hbox); have n2_ := Aside0.mk ((by rw [hg]; exact (below_size (by repeat (first | (with_reducible first | exact HB.out | apply below_alloc | apply pw_below_drewN | apply below_drew1 | refine below_set ?_ GEx.out | refine below_set ?_ GEr.out | refine below_set ?_ GEp.out) | exact HB.out))) : w.heap.size ≤ gx)); clear HB; have HB := n0_; have Bx := n1_; have GEx := n2_; clear n0_ n1_ n2_; clear hb hbox hg; have hcx0_x : wx.cell? ⟨gx, 0, none⟩ = some (.int .i64 op) := (blk_cell Bx.out 0).trans rfl; have hfx0_x := blk_frozen Bx.out 0; have hcx1_x : wx.cell? ⟨gx, 1, none⟩ = some (.string K) := (blk_cell Bx.out 1).trans rfl; have hfx1_x := blk_frozen Bx.out 1; have hcx2_x : wx.cell? ⟨gx, 2, none⟩ = some (.string V) := (blk_cell Bx.out 2).trans rfl; have hfx2_x := blk_frozen Bx.out 2; have hcx3_x : wx.cell? ⟨gx, 3, none⟩ = some (.string O) := (blk_cell Bx.out 3).trans rfl; have hfx3_x := blk_frozen Bx.out 3; have hcx4_x : wx.cell? ⟨gx, 4, none⟩ = some (.int .i64 H) := (blk_cell Bx.out 4).trans rfl; have hfx4_x := blk_frozen Bx.out 4) | ((with_reducible refine gate_dst (N := 2) rfl ?_); refine box_event ?hg (N := 2) ?hd (cs := #[.int .i64 0, .string (⟨#[]⟩ : ByteArray), .string (⟨#[]⟩ : ByteArray), .string (⟨#[]⟩ : ByteArray), .int .i64 0]) (t := 25) ?hr ?_; (case hd => rfl); (case hg => rfl); (case hr => first | (go_simp; done) | (go_simp; rfl)); intro gr hg wr hbox hb; have n0_ := Aside0.mk (below_step (by repeat (first | (with_reducible first | exact HB.out | apply below_alloc | apply pw_below_drewN | apply below_drew1 | refine below_set ?_ GEx.out | refine below_set ?_ GEr.out | refine below_set ?_ GEp.out) | exact HB.out)) hb); have n1_ := Aside0.mk (hbox); have n2_ := Aside0.mk ((by rw [hg]; exact (below_size (by repeat (first | (with_reducible first | exact HB.out | apply below_alloc | apply pw_below_drewN | apply below_drew1 | refine below_set ?_ GEx.out | refine below_set ?_ GEr.out | refine below_set ?_ GEp.out) | exact HB.out))) : w.heap.size ≤ gr)); have n3_ := Aside0.mk (blk_below (g := gx) (o := .cells #[.int .i64 op, .string K, .string V, .string O, .int .i64 H] 25 (0, 0)) (by (with_reducible repeat (first | refine blk_drewN ?_ _ | refine blk_drew ?_ | refine blk_alloc ?_ _)); exact Bx.out) hb); have n4_ := Aside0.mk ((by rw [hg]; exact Nat.ne_of_lt (blk_lt (g := gx) (o := .cells #[.int .i64 op, .string K, .string V, .string O, .int .i64 H] 25 (0, 0)) (by (with_reducible repeat (first | refine blk_drewN ?_ _ | refine blk_drew ?_ | refine blk_alloc ?_ _)); exact Bx.out)) : gx ≠ gr)); have n5_ := Aside0.mk ((by rw [hg]; exact Nat.ne_of_gt (blk_lt (g := gx) (o := .cells #[.int .i64 op, .string K, .string V, .string O, .int .i64 H] 25 (0, 0)) (by (with_reducible repeat (first | refine blk_drewN ?_ _ | refine blk_drew ?_ | refine blk_alloc ?_ _)); exact Bx.out)) : gr ≠ gx)); clear HB; clear Bx; have HB := n0_; have Br := n1_; have GEr := n2_; have Bx := n3_; have Nxr := n4_; have Nrx := n5_; clear n0_ n1_ n2_ n3_ n4_ n5_; clear hb hbox hg; have hcx0_r : wr.cell? ⟨gx, 0, none⟩ = some (.int .i64 op) := (blk_cell Bx.out 0).trans rfl; have hfx0_r := blk_frozen Bx.out 0; have hcx1_r : wr.cell? ⟨gx, 1, none⟩ = some (.string K) := (blk_cell Bx.out 1).trans rfl; have hfx1_r := blk_frozen Bx.out 1; have hcx2_r : wr.cell? ⟨gx, 2, none⟩ = some (.string V) := (blk_cell Bx.out 2).trans rfl; have hfx2_r := blk_frozen Bx.out 2; have hcx3_r : wr.cell? ⟨gx, 3, none⟩ = some (.string O) := (blk_cell Bx.out 3).trans rfl; have hfx3_r := blk_frozen Bx.out 3; have hcx4_r : wr.cell? ⟨gx, 4, none⟩ = some (.int .i64 H) := (blk_cell Bx.out 4).trans rfl; have hfx4_r := blk_frozen Bx.out 4; have hcr0_r : wr.cell? ⟨gr, 0, none⟩ = some (.int .i64 0) := (blk_cell Br.out 0).trans rfl; have hfr0_r := blk_frozen Br.out 0; have hcr1_r : wr.cell? ⟨gr, 1, none⟩ = some (.string (⟨#[]⟩ : ByteArray)) := (blk_cell Br.out 1).trans rfl; have hfr1_r := blk_frozen Br.out 1; have hcr2_r : wr.cell? ⟨gr, 2, none⟩ = some (.string (⟨#[]⟩ : ByteArray)) := (blk_cell Br.out 2).trans rfl; have hfr2_r := blk_frozen Br.out 2; have hcr3_r : wr.cell? ⟨gr, 3, none⟩ = some (.string (⟨#[]⟩ : ByteArray)) := (blk_cell Br.out 3).trans rfl; have hfr3_r := blk_frozen Br.out 3; have hcr4_r : wr.cell? ⟨gr, 4, none⟩ = some (.int .i64 0) := (blk_cell Br.out 4).trans rfl; have hfr4_r := blk_frozen Br.out 4; have hnxr := Nxr.out; have hmxr := Nrx.out) | (go_at_call 16; (with_reducible refine (uses_c op 0 b0 AU0.out _).mono ?_); rintro e w1 ⟨rfl, ⟨n, rfl⟩⟩))
  (try simp only [Act.put, List.setIfInBounds_toArray, List.set_cons_zero, List.set_cons_succ])
  go_cut [] (fun wc => Aside0 (wc.heap[gx]? = some (.cells #[.int .i64 op, .string (if b0 = true then K else (⟨#[]⟩ : ByteArray)), .string V, .string O, .int .i64 H] 25 (0, 0))) ∧ Aside0 (wc.heap[gr]? = some (.cells #[.int .i64 0, .string (⟨#[]⟩ : ByteArray), .string (⟨#[]⟩ : ByteArray), .string (⟨#[]⟩ : ByteArray), .int .i64 0] 25 (0, 0))) ∧ Aside0 (Below w.heap.size w wc))
  case first =>
    cases b0 with
    | true =>
      go_wp2
      go_meet
      case rel => exact ⟨⟨by (with_reducible repeat (first | refine blk_drewN ?_ _ | refine blk_drew ?_ | refine blk_alloc ?_ _)); exact Bx.out⟩, ⟨by (with_reducible repeat (first | refine blk_drewN ?_ _ | refine blk_drew ?_ | refine blk_alloc ?_ _)); exact Br.out⟩, ⟨by repeat (first | (with_reducible first | exact HB.out | apply pw_below_drewN) | exact HB.out)⟩⟩
    | false =>
      go_wp2
      go_meet
      case rel => exact ⟨⟨by refine blk_put (cs := #[.int .i64 op, .string K, .string V, .string O, .int .i64 H]) ?_ 1 _ rfl; (with_reducible repeat (first | refine blk_drewN ?_ _ | refine blk_drew ?_ | refine blk_alloc ?_ _)); exact Bx.out⟩, ⟨by refine blk_far ?_ Nrx.out _; (with_reducible repeat (first | refine blk_drewN ?_ _ | refine blk_drew ?_ | refine blk_alloc ?_ _)); exact Br.out⟩, ⟨by refine below_set ?_ GEx.out; repeat (first | (with_reducible first | exact HB.out | apply pw_below_drewN) | exact HB.out)⟩⟩
  case rest =>
  clear hcx0_x hfx0_x hcx0_r hfx0_r hcr0_r hfr0_r hcx1_x hfx1_x hcx1_r hfx1_r hcr1_r hfr1_r hcx2_x hfx2_x hcx2_r hfx2_r hcr2_r hfr2_r hcx3_x hfx3_x hcx3_r hfx3_r hcr3_r hfr3_r hcx4_x hfx4_x hcx4_r hfx4_r hcr4_r hfr4_r hnxr hmxr Bx Br HB
  obtain ⟨Bx, Br, HB⟩ := hcut
  have hcx0_q1 : wc.cell? ⟨gx, 0, none⟩ = some (.int .i64 op) := (blk_cell Bx.out 0).trans rfl
  have hfx0_q1 := blk_frozen Bx.out 0
  have hcx1_q1 : wc.cell? ⟨gx, 1, none⟩ = some (.string (if b0 = true then K else (⟨#[]⟩ : ByteArray))) := (blk_cell Bx.out 1).trans rfl
  have hfx1_q1 := blk_frozen Bx.out 1
  have hcx2_q1 : wc.cell? ⟨gx, 2, none⟩ = some (.string V) := (blk_cell Bx.out 2).trans rfl
  have hfx2_q1 := blk_frozen Bx.out 2
  have hcx3_q1 : wc.cell? ⟨gx, 3, none⟩ = some (.string O) := (blk_cell Bx.out 3).trans rfl
  have hfx3_q1 := blk_frozen Bx.out 3
  have hcx4_q1 : wc.cell? ⟨gx, 4, none⟩ = some (.int .i64 H) := (blk_cell Bx.out 4).trans rfl
  have hfx4_q1 := blk_frozen Bx.out 4
  have hcr0_q1 : wc.cell? ⟨gr, 0, none⟩ = some (.int .i64 0) := (blk_cell Br.out 0).trans rfl
  have hfr0_q1 := blk_frozen Br.out 0
  have hcr1_q1 : wc.cell? ⟨gr, 1, none⟩ = some (.string (⟨#[]⟩ : ByteArray)) := (blk_cell Br.out 1).trans rfl
  have hfr1_q1 := blk_frozen Br.out 1
  have hcr2_q1 : wc.cell? ⟨gr, 2, none⟩ = some (.string (⟨#[]⟩ : ByteArray)) := (blk_cell Br.out 2).trans rfl
  have hfr2_q1 := blk_frozen Br.out 2
  have hcr3_q1 : wc.cell? ⟨gr, 3, none⟩ = some (.string (⟨#[]⟩ : ByteArray)) := (blk_cell Br.out 3).trans rfl
  have hfr3_q1 := blk_frozen Br.out 3
  have hcr4_q1 : wc.cell? ⟨gr, 4, none⟩ = some (.int .i64 0) := (blk_cell Br.out 4).trans rfl
  have hfr4_q1 := blk_frozen Br.out 4
  have hnx := Nxr.out; have hmx := Nrx.out
  go_upto_if 22 with (first | (go_at_call 16; (with_reducible refine (uses_c op 1 b1 AU1.out _).mono ?_); rintro e w1 ⟨rfl, ⟨n, rfl⟩⟩))
  (try simp only [Act.put, List.setIfInBounds_toArray, List.set_cons_zero, List.set_cons_succ])
  go_cut [] (fun wc => Aside0 (wc.heap[gx]? = some (.cells #[.int .i64 op, .string (if b0 = true then K else (⟨#[]⟩ : ByteArray)), .string (if b1 = true then V else (⟨#[]⟩ : ByteArray)), .string O, .int .i64 H] 25 (0, 0))) ∧ Aside0 (wc.heap[gr]? = some (.cells #[.int .i64 0, .string (⟨#[]⟩ : ByteArray), .string (⟨#[]⟩ : ByteArray), .string (⟨#[]⟩ : ByteArray), .int .i64 0] 25 (0, 0))) ∧ Aside0 (Below w.heap.size w wc))
  case first =>
    cases b1 with
    | true =>
      go_wp2
      go_meet
      case rel => exact ⟨⟨by (with_reducible repeat (first | refine blk_drewN ?_ _ | refine blk_drew ?_ | refine blk_alloc ?_ _)); exact Bx.out⟩, ⟨by (with_reducible repeat (first | refine blk_drewN ?_ _ | refine blk_drew ?_ | refine blk_alloc ?_ _)); exact Br.out⟩, ⟨by repeat (first | (with_reducible first | exact HB.out | apply pw_below_drewN) | exact HB.out)⟩⟩
    | false =>
      go_wp2
      go_meet
      case rel => exact ⟨⟨by refine blk_put (cs := #[.int .i64 op, .string (if b0 = true then K else (⟨#[]⟩ : ByteArray)), .string V, .string O, .int .i64 H]) ?_ 2 _ rfl; (with_reducible repeat (first | refine blk_drewN ?_ _ | refine blk_drew ?_ | refine blk_alloc ?_ _)); exact Bx.out⟩, ⟨by refine blk_far ?_ Nrx.out _; (with_reducible repeat (first | refine blk_drewN ?_ _ | refine blk_drew ?_ | refine blk_alloc ?_ _)); exact Br.out⟩, ⟨by refine below_set ?_ GEx.out; repeat (first | (with_reducible first | exact HB.out | apply pw_below_drewN) | exact HB.out)⟩⟩
  case rest =>
  clear hcx0_q1 hfx0_q1 hcx1_q1 hfx1_q1 hcx2_q1 hfx2_q1 hcx3_q1 hfx3_q1 hcx4_q1 hfx4_q1 hcr0_q1 hfr0_q1 hcr1_q1 hfr1_q1 hcr2_q1 hfr2_q1 hcr3_q1 hfr3_q1 hcr4_q1 hfr4_q1 hnx hmx Bx Br HB
  obtain ⟨Bx, Br, HB⟩ := hcut
  have hcx0_q2 : wc.cell? ⟨gx, 0, none⟩ = some (.int .i64 op) := (blk_cell Bx.out 0).trans rfl
  have hfx0_q2 := blk_frozen Bx.out 0
  have hcx1_q2 : wc.cell? ⟨gx, 1, none⟩ = some (.string (if b0 = true then K else (⟨#[]⟩ : ByteArray))) := (blk_cell Bx.out 1).trans rfl
  have hfx1_q2 := blk_frozen Bx.out 1
  have hcx2_q2 : wc.cell? ⟨gx, 2, none⟩ = some (.string (if b1 = true then V else (⟨#[]⟩ : ByteArray))) := (blk_cell Bx.out 2).trans rfl
  have hfx2_q2 := blk_frozen Bx.out 2
  have hcx3_q2 : wc.cell? ⟨gx, 3, none⟩ = some (.string O) := (blk_cell Bx.out 3).trans rfl
  have hfx3_q2 := blk_frozen Bx.out 3
  have hcx4_q2 : wc.cell? ⟨gx, 4, none⟩ = some (.int .i64 H) := (blk_cell Bx.out 4).trans rfl
  have hfx4_q2 := blk_frozen Bx.out 4
  have hcr0_q2 : wc.cell? ⟨gr, 0, none⟩ = some (.int .i64 0) := (blk_cell Br.out 0).trans rfl
  have hfr0_q2 := blk_frozen Br.out 0
  have hcr1_q2 : wc.cell? ⟨gr, 1, none⟩ = some (.string (⟨#[]⟩ : ByteArray)) := (blk_cell Br.out 1).trans rfl
  have hfr1_q2 := blk_frozen Br.out 1
  have hcr2_q2 : wc.cell? ⟨gr, 2, none⟩ = some (.string (⟨#[]⟩ : ByteArray)) := (blk_cell Br.out 2).trans rfl
  have hfr2_q2 := blk_frozen Br.out 2
  have hcr3_q2 : wc.cell? ⟨gr, 3, none⟩ = some (.string (⟨#[]⟩ : ByteArray)) := (blk_cell Br.out 3).trans rfl
  have hfr3_q2 := blk_frozen Br.out 3
  have hcr4_q2 : wc.cell? ⟨gr, 4, none⟩ = some (.int .i64 0) := (blk_cell Br.out 4).trans rfl
  have hfr4_q2 := blk_frozen Br.out 4
  have hnx := Nxr.out; have hmx := Nrx.out
  go_upto_if 27 with (first | (go_at_call 16; (with_reducible refine (uses_c op 2 b2 AU2.out _).mono ?_); rintro e w1 ⟨rfl, ⟨n, rfl⟩⟩))
  (try simp only [Act.put, List.setIfInBounds_toArray, List.set_cons_zero, List.set_cons_succ])
  go_cut [] (fun wc => Aside0 (wc.heap[gx]? = some (.cells #[.int .i64 op, .string (if b0 = true then K else (⟨#[]⟩ : ByteArray)), .string (if b1 = true then V else (⟨#[]⟩ : ByteArray)), .string (if b2 = true then O else (⟨#[]⟩ : ByteArray)), .int .i64 H] 25 (0, 0))) ∧ Aside0 (wc.heap[gr]? = some (.cells #[.int .i64 0, .string (⟨#[]⟩ : ByteArray), .string (⟨#[]⟩ : ByteArray), .string (⟨#[]⟩ : ByteArray), .int .i64 0] 25 (0, 0))) ∧ Aside0 (Below w.heap.size w wc))
  case first =>
    cases b2 with
    | true =>
      go_wp2
      go_meet
      case rel => exact ⟨⟨by (with_reducible repeat (first | refine blk_drewN ?_ _ | refine blk_drew ?_ | refine blk_alloc ?_ _)); exact Bx.out⟩, ⟨by (with_reducible repeat (first | refine blk_drewN ?_ _ | refine blk_drew ?_ | refine blk_alloc ?_ _)); exact Br.out⟩, ⟨by repeat (first | (with_reducible first | exact HB.out | apply pw_below_drewN) | exact HB.out)⟩⟩
    | false =>
      go_wp2
      go_meet
      case rel => exact ⟨⟨by refine blk_put (cs := #[.int .i64 op, .string (if b0 = true then K else (⟨#[]⟩ : ByteArray)), .string (if b1 = true then V else (⟨#[]⟩ : ByteArray)), .string O, .int .i64 H]) ?_ 3 _ rfl; (with_reducible repeat (first | refine blk_drewN ?_ _ | refine blk_drew ?_ | refine blk_alloc ?_ _)); exact Bx.out⟩, ⟨by refine blk_far ?_ Nrx.out _; (with_reducible repeat (first | refine blk_drewN ?_ _ | refine blk_drew ?_ | refine blk_alloc ?_ _)); exact Br.out⟩, ⟨by refine below_set ?_ GEx.out; repeat (first | (with_reducible first | exact HB.out | apply pw_below_drewN) | exact HB.out)⟩⟩
  case rest =>
  clear hcx0_q2 hfx0_q2 hcx1_q2 hfx1_q2 hcx2_q2 hfx2_q2 hcx3_q2 hfx3_q2 hcx4_q2 hfx4_q2 hcr0_q2 hfr0_q2 hcr1_q2 hfr1_q2 hcr2_q2 hfr2_q2 hcr3_q2 hfr3_q2 hcr4_q2 hfr4_q2 hnx hmx Bx Br HB
  obtain ⟨Bx, Br, HB⟩ := hcut
  have hcx0_q3 : wc.cell? ⟨gx, 0, none⟩ = some (.int .i64 op) := (blk_cell Bx.out 0).trans rfl
  have hfx0_q3 := blk_frozen Bx.out 0
  have hcx1_q3 : wc.cell? ⟨gx, 1, none⟩ = some (.string (if b0 = true then K else (⟨#[]⟩ : ByteArray))) := (blk_cell Bx.out 1).trans rfl
  have hfx1_q3 := blk_frozen Bx.out 1
  have hcx2_q3 : wc.cell? ⟨gx, 2, none⟩ = some (.string (if b1 = true then V else (⟨#[]⟩ : ByteArray))) := (blk_cell Bx.out 2).trans rfl
  have hfx2_q3 := blk_frozen Bx.out 2
  have hcx3_q3 : wc.cell? ⟨gx, 3, none⟩ = some (.string (if b2 = true then O else (⟨#[]⟩ : ByteArray))) := (blk_cell Bx.out 3).trans rfl
  have hfx3_q3 := blk_frozen Bx.out 3
  have hcx4_q3 : wc.cell? ⟨gx, 4, none⟩ = some (.int .i64 H) := (blk_cell Bx.out 4).trans rfl
  have hfx4_q3 := blk_frozen Bx.out 4
  have hcr0_q3 : wc.cell? ⟨gr, 0, none⟩ = some (.int .i64 0) := (blk_cell Br.out 0).trans rfl
  have hfr0_q3 := blk_frozen Br.out 0
  have hcr1_q3 : wc.cell? ⟨gr, 1, none⟩ = some (.string (⟨#[]⟩ : ByteArray)) := (blk_cell Br.out 1).trans rfl
  have hfr1_q3 := blk_frozen Br.out 1
  have hcr2_q3 : wc.cell? ⟨gr, 2, none⟩ = some (.string (⟨#[]⟩ : ByteArray)) := (blk_cell Br.out 2).trans rfl
  have hfr2_q3 := blk_frozen Br.out 2
  have hcr3_q3 : wc.cell? ⟨gr, 3, none⟩ = some (.string (⟨#[]⟩ : ByteArray)) := (blk_cell Br.out 3).trans rfl
  have hfr3_q3 := blk_frozen Br.out 3
  have hcr4_q3 : wc.cell? ⟨gr, 4, none⟩ = some (.int .i64 0) := (blk_cell Br.out 4).trans rfl
  have hfr4_q3 := blk_frozen Br.out 4
  have hnx := Nxr.out; have hmx := Nrx.out
  go_upto_if 32 with (first | (go_at_call 16; (with_reducible refine (uses_c op 3 b3 AU3.out _).mono ?_); rintro e w1 ⟨rfl, ⟨n, rfl⟩⟩))
  (try simp only [Act.put, List.setIfInBounds_toArray, List.set_cons_zero, List.set_cons_succ])
  go_cut [] (fun wc => Aside0 (wc.heap[gx]? = some (.cells #[.int .i64 op, .string (if b0 = true then K else (⟨#[]⟩ : ByteArray)), .string (if b1 = true then V else (⟨#[]⟩ : ByteArray)), .string (if b2 = true then O else (⟨#[]⟩ : ByteArray)), .int .i64 (if b3 = true then H else 0)] 25 (0, 0))) ∧ Aside0 (wc.heap[gr]? = some (.cells #[.int .i64 0, .string (⟨#[]⟩ : ByteArray), .string (⟨#[]⟩ : ByteArray), .string (⟨#[]⟩ : ByteArray), .int .i64 0] 25 (0, 0))) ∧ Aside0 (Below w.heap.size w wc))
  case first =>
    cases b3 with
    | true =>
      go_wp2
      go_meet
      case rel => exact ⟨⟨by (with_reducible repeat (first | refine blk_drewN ?_ _ | refine blk_drew ?_ | refine blk_alloc ?_ _)); exact Bx.out⟩, ⟨by (with_reducible repeat (first | refine blk_drewN ?_ _ | refine blk_drew ?_ | refine blk_alloc ?_ _)); exact Br.out⟩, ⟨by repeat (first | (with_reducible first | exact HB.out | apply pw_below_drewN) | exact HB.out)⟩⟩
    | false =>
      go_wp2
      go_meet
      case rel => exact ⟨⟨by refine blk_put (cs := #[.int .i64 op, .string (if b0 = true then K else (⟨#[]⟩ : ByteArray)), .string (if b1 = true then V else (⟨#[]⟩ : ByteArray)), .string (if b2 = true then O else (⟨#[]⟩ : ByteArray)), .int .i64 H]) ?_ 4 _ rfl; (with_reducible repeat (first | refine blk_drewN ?_ _ | refine blk_drew ?_ | refine blk_alloc ?_ _)); exact Bx.out⟩, ⟨by refine blk_far ?_ Nrx.out _; (with_reducible repeat (first | refine blk_drewN ?_ _ | refine blk_drew ?_ | refine blk_alloc ?_ _)); exact Br.out⟩, ⟨by refine below_set ?_ GEx.out; repeat (first | (with_reducible first | exact HB.out | apply pw_below_drewN) | exact HB.out)⟩⟩
  case rest =>
  clear hcx0_q3 hfx0_q3 hcx1_q3 hfx1_q3 hcx2_q3 hfx2_q3 hcx3_q3 hfx3_q3 hcx4_q3 hfx4_q3 hcr0_q3 hfr0_q3 hcr1_q3 hfr1_q3 hcr2_q3 hfr2_q3 hcr3_q3 hfr3_q3 hcr4_q3 hfr4_q3 hnx hmx Bx Br HB
  obtain ⟨Bx, Br, HB⟩ := hcut
  have Bx2 : Aside0 (wc.heap[gx]? = some (.cells #[.int .i64 op, .string v0, .string v1, .string v2, .int .i64 v3] 25 (0, 0))) := ⟨by rw [AE0.out, AE1.out, AE2.out, AE3.out]; exact Bx.out⟩
  clear Bx
  have Bx := Bx2
  clear Bx2 AE0 AE1 AE2 AE3 AU0 AU1 AU2 AU3
  have hcx0_e : wc.cell? ⟨gx, 0, none⟩ = some (.int .i64 op) := (blk_cell Bx.out 0).trans rfl
  have hfx0_e := blk_frozen Bx.out 0
  have hcx1_e : wc.cell? ⟨gx, 1, none⟩ = some (.string v0) := (blk_cell Bx.out 1).trans rfl
  have hfx1_e := blk_frozen Bx.out 1
  have hcx2_e : wc.cell? ⟨gx, 2, none⟩ = some (.string v1) := (blk_cell Bx.out 2).trans rfl
  have hfx2_e := blk_frozen Bx.out 2
  have hcx3_e : wc.cell? ⟨gx, 3, none⟩ = some (.string v2) := (blk_cell Bx.out 3).trans rfl
  have hfx3_e := blk_frozen Bx.out 3
  have hcx4_e : wc.cell? ⟨gx, 4, none⟩ = some (.int .i64 v3) := (blk_cell Bx.out 4).trans rfl
  have hfx4_e := blk_frozen Bx.out 4
  have hcr0_e : wc.cell? ⟨gr, 0, none⟩ = some (.int .i64 0) := (blk_cell Br.out 0).trans rfl
  have hfr0_e := blk_frozen Br.out 0
  have hcr1_e : wc.cell? ⟨gr, 1, none⟩ = some (.string (⟨#[]⟩ : ByteArray)) := (blk_cell Br.out 1).trans rfl
  have hfr1_e := blk_frozen Br.out 1
  have hcr2_e : wc.cell? ⟨gr, 2, none⟩ = some (.string (⟨#[]⟩ : ByteArray)) := (blk_cell Br.out 2).trans rfl
  have hfr2_e := blk_frozen Br.out 2
  have hcr3_e : wc.cell? ⟨gr, 3, none⟩ = some (.string (⟨#[]⟩ : ByteArray)) := (blk_cell Br.out 3).trans rfl
  have hfr3_e := blk_frozen Br.out 3
  have hcr4_e : wc.cell? ⟨gr, 4, none⟩ = some (.int .i64 0) := (blk_cell Br.out 4).trans rfl
  have hfr4_e := blk_frozen Br.out 4
  have hmr := Nxr.out; have hmp := Nrx.out
  go_wp2
  refine bodyPost_ret (results_cell_row rfl _ _ gr 25 #[.int .i64 op, .string v0, .string v1, .string v2, .int .i64 v3] (0, 0) _ rfl (by (with_reducible repeat (first | refine blk_drewN ?_ _ | refine blk_drew ?_ | refine blk_alloc ?_ _)); refine blk_put (cs := #[.int .i64 op, .string v0, .string v1, .string v2, .int .i64 0]) ?_ 4 _ rfl; (with_reducible repeat (first | refine blk_drewN ?_ _ | refine blk_drew ?_ | refine blk_alloc ?_ _)); refine blk_put (cs := #[.int .i64 op, .string v0, .string v1, .string (⟨#[]⟩ : ByteArray), .int .i64 0]) ?_ 3 _ rfl; (with_reducible repeat (first | refine blk_drewN ?_ _ | refine blk_drew ?_ | refine blk_alloc ?_ _)); refine blk_put (cs := #[.int .i64 op, .string v0, .string (⟨#[]⟩ : ByteArray), .string (⟨#[]⟩ : ByteArray), .int .i64 0]) ?_ 2 _ rfl; (with_reducible repeat (first | refine blk_drewN ?_ _ | refine blk_drew ?_ | refine blk_alloc ?_ _)); refine blk_put (cs := #[.int .i64 op, .string (⟨#[]⟩ : ByteArray), .string (⟨#[]⟩ : ByteArray), .string (⟨#[]⟩ : ByteArray), .int .i64 0]) ?_ 1 _ rfl; (with_reducible repeat (first | refine blk_drewN ?_ _ | refine blk_drew ?_ | refine blk_alloc ?_ _)); refine blk_put (cs := #[.int .i64 0, .string (⟨#[]⟩ : ByteArray), .string (⟨#[]⟩ : ByteArray), .string (⟨#[]⟩ : ByteArray), .int .i64 0]) ?_ 0 _ rfl; (with_reducible repeat (first | refine blk_drewN ?_ _ | refine blk_drew ?_ | refine blk_alloc ?_ _)); exact Br.out) Tryd.underlying25 rfl (by kernel_rfl)) rfl ?_
  exact ⟨rfl, by repeat (first | (with_reducible first | exact HB.out | apply below_alloc | apply pw_below_drewN | apply below_drew1 | refine below_set ?_ GEr.out) | exact HB.out)⟩
set_option maxHeartbeats 8000000 in
set_option maxRecDepth 100000 in
theorem rplain_out (op : Int) (K V O : ByteArray) (H : Int) (w : World) (t : Bool) (h1 : decide (op < 1) = t) (h2 : decide (13 < op) = !t) :
    Calls Tryd.prog 14 #[.agg #[.int .i64 op, .string K, .string V, .string O, .int .i64 H]] w fun e w' => e = .returned (.agg #[.int .i64 op, .string (⟨#[]⟩ : ByteArray), .string (⟨#[]⟩ : ByteArray), .string (⟨#[]⟩ : ByteArray), .int .i64 0]) ∧ Below w.heap.size w w' := by
  have hu25 := Tryd.underlying25
  have HB := Aside0.mk (Below.refl w.heap.size w)
  cases t
  all_goals
    go_enter Tryd.func14, Tryd.ntmps14
    go_wp2_with (first | ((with_reducible refine gate_dst (N := 1) rfl ?_); refine box_event ?hg (N := 1) ?hd (cs := #[.int .i64 op, .string K, .string V, .string O, .int .i64 H]) (t := 25) ?hr ?_; (case hd => rfl); (case hg => rfl); (case hr => first | (go_simp; done) | (go_simp; rfl)); intro gx hg wx hbox hb; have n0_ := Aside0.mk (below_step (by repeat (first | (with_reducible first | exact HB.out | apply below_alloc | apply pw_below_drewN | apply below_drew1 | refine below_set ?_ GEx.out | refine below_set ?_ GEr.out | refine below_set ?_ GEp.out) | exact HB.out)) hb); have n1_ := Aside0.mk (hbox); have n2_ := Aside0.mk ((by rw [hg]; exact (below_size (by repeat (first | (with_reducible first | exact HB.out | apply below_alloc | apply pw_below_drewN | apply below_drew1 | refine below_set ?_ GEx.out | refine below_set ?_ GEr.out | refine below_set ?_ GEp.out) | exact HB.out))) : w.heap.size ≤ gx)); clear HB; have HB := n0_; have Bx := n1_; have GEx := n2_; clear n0_ n1_ n2_; clear hb hbox hg; have hcx0_x : wx.cell? ⟨gx, 0, none⟩ = some (.int .i64 op) := (blk_cell Bx.out 0).trans rfl; have hfx0_x := blk_frozen Bx.out 0; have hcx1_x : wx.cell? ⟨gx, 1, none⟩ = some (.string K) := (blk_cell Bx.out 1).trans rfl; have hfx1_x := blk_frozen Bx.out 1; have hcx2_x : wx.cell? ⟨gx, 2, none⟩ = some (.string V) := (blk_cell Bx.out 2).trans rfl; have hfx2_x := blk_frozen Bx.out 2; have hcx3_x : wx.cell? ⟨gx, 3, none⟩ = some (.string O) := (blk_cell Bx.out 3).trans rfl; have hfx3_x := blk_frozen Bx.out 3; have hcx4_x : wx.cell? ⟨gx, 4, none⟩ = some (.int .i64 H) := (blk_cell Bx.out 4).trans rfl; have hfx4_x := blk_frozen Bx.out 4) | ((with_reducible refine gate_dst (N := 2) rfl ?_); refine box_event ?hg (N := 2) ?hd (cs := #[.int .i64 0, .string (⟨#[]⟩ : ByteArray), .string (⟨#[]⟩ : ByteArray), .string (⟨#[]⟩ : ByteArray), .int .i64 0]) (t := 25) ?hr ?_; (case hd => rfl); (case hg => rfl); (case hr => first | (go_simp; done) | (go_simp; rfl)); intro gr hg wr hbox hb; have n0_ := Aside0.mk (below_step (by repeat (first | (with_reducible first | exact HB.out | apply below_alloc | apply pw_below_drewN | apply below_drew1 | refine below_set ?_ GEx.out | refine below_set ?_ GEr.out | refine below_set ?_ GEp.out) | exact HB.out)) hb); have n1_ := Aside0.mk (hbox); have n2_ := Aside0.mk ((by rw [hg]; exact (below_size (by repeat (first | (with_reducible first | exact HB.out | apply below_alloc | apply pw_below_drewN | apply below_drew1 | refine below_set ?_ GEx.out | refine below_set ?_ GEr.out | refine below_set ?_ GEp.out) | exact HB.out))) : w.heap.size ≤ gr)); have n3_ := Aside0.mk (blk_below (g := gx) (o := .cells #[.int .i64 op, .string K, .string V, .string O, .int .i64 H] 25 (0, 0)) (by (with_reducible repeat (first | refine blk_drewN ?_ _ | refine blk_drew ?_ | refine blk_alloc ?_ _)); exact Bx.out) hb); have n4_ := Aside0.mk ((by rw [hg]; exact Nat.ne_of_lt (blk_lt (g := gx) (o := .cells #[.int .i64 op, .string K, .string V, .string O, .int .i64 H] 25 (0, 0)) (by (with_reducible repeat (first | refine blk_drewN ?_ _ | refine blk_drew ?_ | refine blk_alloc ?_ _)); exact Bx.out)) : gx ≠ gr)); have n5_ := Aside0.mk ((by rw [hg]; exact Nat.ne_of_gt (blk_lt (g := gx) (o := .cells #[.int .i64 op, .string K, .string V, .string O, .int .i64 H] 25 (0, 0)) (by (with_reducible repeat (first | refine blk_drewN ?_ _ | refine blk_drew ?_ | refine blk_alloc ?_ _)); exact Bx.out)) : gr ≠ gx)); clear HB; clear Bx; have HB := n0_; have Br := n1_; have GEr := n2_; have Bx := n3_; have Nxr := n4_; have Nrx := n5_; clear n0_ n1_ n2_ n3_ n4_ n5_; clear hb hbox hg; have hcx0_r : wr.cell? ⟨gx, 0, none⟩ = some (.int .i64 op) := (blk_cell Bx.out 0).trans rfl; have hfx0_r := blk_frozen Bx.out 0; have hcx1_r : wr.cell? ⟨gx, 1, none⟩ = some (.string K) := (blk_cell Bx.out 1).trans rfl; have hfx1_r := blk_frozen Bx.out 1; have hcx2_r : wr.cell? ⟨gx, 2, none⟩ = some (.string V) := (blk_cell Bx.out 2).trans rfl; have hfx2_r := blk_frozen Bx.out 2; have hcx3_r : wr.cell? ⟨gx, 3, none⟩ = some (.string O) := (blk_cell Bx.out 3).trans rfl; have hfx3_r := blk_frozen Bx.out 3; have hcx4_r : wr.cell? ⟨gx, 4, none⟩ = some (.int .i64 H) := (blk_cell Bx.out 4).trans rfl; have hfx4_r := blk_frozen Bx.out 4; have hcr0_r : wr.cell? ⟨gr, 0, none⟩ = some (.int .i64 0) := (blk_cell Br.out 0).trans rfl; have hfr0_r := blk_frozen Br.out 0; have hcr1_r : wr.cell? ⟨gr, 1, none⟩ = some (.string (⟨#[]⟩ : ByteArray)) := (blk_cell Br.out 1).trans rfl; have hfr1_r := blk_frozen Br.out 1; have hcr2_r : wr.cell? ⟨gr, 2, none⟩ = some (.string (⟨#[]⟩ : ByteArray)) := (blk_cell Br.out 2).trans rfl; have hfr2_r := blk_frozen Br.out 2; have hcr3_r : wr.cell? ⟨gr, 3, none⟩ = some (.string (⟨#[]⟩ : ByteArray)) := (blk_cell Br.out 3).trans rfl; have hfr3_r := blk_frozen Br.out 3; have hcr4_r : wr.cell? ⟨gr, 4, none⟩ = some (.int .i64 0) := (blk_cell Br.out 4).trans rfl; have hfr4_r := blk_frozen Br.out 4; have hnxr := Nxr.out; have hmxr := Nrx.out))
    refine bodyPost_ret (results_cell_row rfl _ _ gr 25 #[.int .i64 op, .string (⟨#[]⟩ : ByteArray), .string (⟨#[]⟩ : ByteArray), .string (⟨#[]⟩ : ByteArray), .int .i64 0] (0, 0) _ rfl (by (with_reducible repeat (first | refine blk_drewN ?_ _ | refine blk_drew ?_ | refine blk_alloc ?_ _)); refine blk_put (cs := #[.int .i64 op, .string (⟨#[]⟩ : ByteArray), .string (⟨#[]⟩ : ByteArray), .string (⟨#[]⟩ : ByteArray), .int .i64 0]) ?_ 4 _ rfl; (with_reducible repeat (first | refine blk_drewN ?_ _ | refine blk_drew ?_ | refine blk_alloc ?_ _)); refine blk_put (cs := #[.int .i64 op, .string (⟨#[]⟩ : ByteArray), .string (⟨#[]⟩ : ByteArray), .string (⟨#[]⟩ : ByteArray), .int .i64 0]) ?_ 3 _ rfl; (with_reducible repeat (first | refine blk_drewN ?_ _ | refine blk_drew ?_ | refine blk_alloc ?_ _)); refine blk_put (cs := #[.int .i64 op, .string (⟨#[]⟩ : ByteArray), .string (⟨#[]⟩ : ByteArray), .string (⟨#[]⟩ : ByteArray), .int .i64 0]) ?_ 2 _ rfl; (with_reducible repeat (first | refine blk_drewN ?_ _ | refine blk_drew ?_ | refine blk_alloc ?_ _)); refine blk_put (cs := #[.int .i64 op, .string (⟨#[]⟩ : ByteArray), .string (⟨#[]⟩ : ByteArray), .string (⟨#[]⟩ : ByteArray), .int .i64 0]) ?_ 1 _ rfl; (with_reducible repeat (first | refine blk_drewN ?_ _ | refine blk_drew ?_ | refine blk_alloc ?_ _)); refine blk_put (cs := #[.int .i64 0, .string (⟨#[]⟩ : ByteArray), .string (⟨#[]⟩ : ByteArray), .string (⟨#[]⟩ : ByteArray), .int .i64 0]) ?_ 0 _ rfl; (with_reducible repeat (first | refine blk_drewN ?_ _ | refine blk_drew ?_ | refine blk_alloc ?_ _)); exact Br.out) Tryd.underlying25 rfl (by kernel_rfl)) rfl ?_
    exact ⟨rfl, by repeat (first | (with_reducible first | exact HB.out | apply below_alloc | apply pw_below_drewN | apply below_drew1 | refine below_set ?_ GEr.out) | exact HB.out)⟩

/-- boscageref30.Plain. -/
theorem rplain_c (op : Int) (K V O : ByteArray) (H : Int) (w : World) :
    Calls Tryd.prog 14 #[.agg #[.int .i64 op, .string K, .string V, .string O, .int .i64 H]] w fun e w' => e = .returned (.agg #[.int .i64 op, .string (if usesB op 0 = true then K else ⟨#[]⟩), .string (if usesB op 1 = true then V else ⟨#[]⟩), .string (if usesB op 2 = true then O else ⟨#[]⟩), .int .i64 (if usesB op 3 = true then H else 0)]) ∧ Below w.heap.size w w' := by
  obtain ⟨u0, u1, u2, u3⟩ := uses_eq op
  by_cases h : 1 ≤ op ∧ op ≤ 13
  · exact rplain_in op K V O H w (decide_eq_false (by omega)) (decide_eq_false (by omega)) _ _ _ _ u0 u1 u2 u3 _ _ _ _ rfl rfl rfl rfl
  · simp only [usesB_out _ _ h]
    by_cases h1 : op < 1
    · exact rplain_out op K V O H w true (decide_eq_true h1) (decide_eq_false (by omega))
    · exact rplain_out op K V O H w false (decide_eq_false h1) (decide_eq_true (by omega))

end Go.Proofs.YtfpjfndelkgciaaDoor.Fw
