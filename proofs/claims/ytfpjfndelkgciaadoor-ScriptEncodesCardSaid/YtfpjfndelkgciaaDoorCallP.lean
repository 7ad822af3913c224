/- The walks of call.is, call.Plain and call.Held over the table. -/
import Derived.Test.YtfpjfndelkgciaaDoorProg
import Derived.Below
import Derived.Deep.Draws
import Derived.Deep.AppendLies
import Derived.Maps.AppendAt
import Derived.OwnWalk
import Derived.Laws.BytesArg
import Derived.Laws.MakeOwn
import Derived.Laws.OwnMore
import Derived.Deep.OwnRows
import Derived.Tactics
import Derived.Lib.ConvBytes
import Derived.Laws.Slices
import Derived.WalkKit
import Derived.KernelRfl
import Derived.RowKit3
import Derived.Deep.LoopGhost
import Derived.Deep.QuietTactic
import Derived.BigQuiet
import Derived.WideLaws
import Derived.Deep.DeepCutAuto
import Derived.Deep.CutBlock
import Derived.Deep.RegionHeld3
import Derived.Laws.Rows
import Derived.Lib.AppendStr
import Derived.ArgAppend
import Derived.Laws.IdiomCopy
import Derived.OrdersHeld
import Derived.Laws.BitsLemmas
import Derived.RowKit
import Derived.Test.YtfpjfndelkgciaaDoorCallU
import Derived.Test.YtfpjfndelkgciaaDoorWWords
import Derived.Test.YtfpjfndelkgciaaDoorWLast
import Derived.Test.YtfpjfndelkgciaaDoorWTab
import Derived.Test.YtfpjfndelkgciaaDoorWFour
import Derived.Test.YtfpjfndelkgciaaDoorWQPut
import Derived.Test.YtfpjfndelkgciaaDoorWApart
import Derived.Test.YtfpjfndelkgciaaDoorWArr
import Derived.Test.YtfpjfndelkgciaaDoorWZeros
import Derived.Test.YtfpjfndelkgciaaDoorWFoot
import Derived.Test.YtfpjfndelkgciaaDoorWKept
import Derived.Test.YtfpjfndelkgciaaDoorWShare
import Derived.Test.YtfpjfndelkgciaaDoorWN
import Derived.Test.YtfpjfndelkgciaaDoorWFootNe
import Derived.Test.YtfpjfndelkgciaaDoorWAt
import Derived.Test.YtfpjfndelkgciaaDoorWEqStruct
import Derived.Test.YtfpjfndelkgciaaDoorWRepsOne
import Derived.Test.YtfpjfndelkgciaaDoorWInv
import Derived.Test.YtfpjfndelkgciaaDoorWInvWords
import Derived.Test.YtfpjfndelkgciaaDoorWGuard
import Derived.Test.YtfpjfndelkgciaaDoorWNEv
import Derived.Test.YtfpjfndelkgciaaDoorWMore
namespace Go.Proofs.YtfpjfndelkgciaaDoor.Fw
open Go.RowKit Go.Proofs.YtfpjfndelkgciaaDoorW.PrintWords
set_option linter.unusedVariables false
set_option linter.unusedSimpArgs false

theorem is_in (op : Int) (w : World) (h : decide (1 ≤ op) = true) (h2 : decide (op ≤ 13) = true) : Calls Tryd.prog 34 #[.int .i64 op] w fun e w' => e = .returned (.bool true) ∧ Drawn0 w w' := by
  go_enter Tryd.func34, Tryd.ntmps34
  go_wp2
  go_ret
  exact ⟨rfl, by repeat (first | exact Drawn0.refl _ | apply Drawn0.step)⟩

/-- What the table holds of an op. -/
def ReadsT (w : World) (k : Nat) (b0 b1 b2 b3 : Bool) : Prop := 0 < w.heap.size ∧ w.cell? ⟨0, k * 4, none⟩ = some (.bool b0) ∧ w.cell? ⟨0, k * 4 + 1, none⟩ = some (.bool b1) ∧ w.cell? ⟨0, k * 4 + 2, none⟩ = some (.bool b2) ∧ w.cell? ⟨0, k * 4 + 3, none⟩ = some (.bool b3)


set_option maxHeartbeats 8000000 in
set_option maxRecDepth 100000 in
theorem plain_walk (op : Int) (K V O : ByteArray) (H : Int) (w : World) (h1 : decide (1 ≤ op) = true) (h2 : decide (op ≤ 13) = true) (b0 b1 b2 b3 : Bool)
    (HT : ∀ W, Below w.heap.size w W → ReadsT W op.toNat b0 b1 b2 b3) :
    Calls Tryd.prog 13 #[.agg #[.int .i64 op, .string K, .string V, .string O, .int .i64 H]] w fun e w' => e = .returned (.agg #[.int .i64 op, .string (if b0 = true then K else ⟨#[]⟩), .string (if b1 = true then V else ⟨#[]⟩), .string (if b2 = true then O else ⟨#[]⟩), .int .i64 (if b3 = true then H else 0)]) ∧ Below w.heap.size w w' := by
  have hu25 := Tryd.underlying25
  have hu51 := Tryd.underlying51
  have hu52 := Tryd.underlying52
  have HB := Aside0.mk (Below.refl w.heap.size w)
  have HT0 := Aside0.mk HT
  clear HT
  have hlo : 1 ≤ op := of_decide_eq_true h1
  have hhi : op ≤ 13 := of_decide_eq_true h2
  go_enter Tryd.func13, Tryd.ntmps13
  go_upto_region 4 with (first | ((with_reducible refine gate_dst (N := 1) rfl ?_); refine box_event ?hg (N := 1) ?hd (cs := #[.int .i64 op, .string K, .string V, .string O, .int .i64 H]) (t := 25) ?hr ?_; (case hd => rfl); (case hg => rfl); (case hr => first | (go_simp; done) | (go_simp; rfl)); intro gx hg wx hbox hb; have n0_ := Aside0.mk (below_step (by repeat (first | (with_reducible first | exact HB.out | apply below_alloc | apply pw_below_drewN | apply below_drew1 | refine below_set ?_ GEx.out | refine below_set ?_ GEr.out | refine below_set ?_ GEp.out) | exact HB.out)) hb); have n1_ := Aside0.mk (hbox); have n2_ := Aside0.mk ((by rw [hg]; exact (below_size (by repeat (first | (with_reducible first | exact HB.out | apply below_alloc | apply pw_below_drewN | apply below_drew1 | refine below_set ?_ GEx.out | refine below_set ?_ GEr.out | refine below_set ?_ GEp.out) | exact HB.out))) : w.heap.size ≤ gx)); clear HB; have HB := n0_; have Bx := n1_; have GEx := n2_; clear n0_ n1_ n2_; clear hb hbox hg; have hcx0_x : wx.cell? ⟨gx, 0, none⟩ = some (.int .i64 op) := (blk_cell Bx.out 0).trans rfl; have hfx0_x := blk_frozen Bx.out 0; have hcx1_x : wx.cell? ⟨gx, 1, none⟩ = some (.string K) := (blk_cell Bx.out 1).trans rfl; have hfx1_x := blk_frozen Bx.out 1; have hcx2_x : wx.cell? ⟨gx, 2, none⟩ = some (.string V) := (blk_cell Bx.out 2).trans rfl; have hfx2_x := blk_frozen Bx.out 2; have hcx3_x : wx.cell? ⟨gx, 3, none⟩ = some (.string O) := (blk_cell Bx.out 3).trans rfl; have hfx3_x := blk_frozen Bx.out 3; have hcx4_x : wx.cell? ⟨gx, 4, none⟩ = some (.int .i64 H) := (blk_cell Bx.out 4).trans rfl; have hfx4_x := blk_frozen Bx.out 4) | ((with_reducible refine gate_dst (N := 2) rfl ?_); refine box_event ?hg (N := 2) ?hd (cs := #[.int .i64 0, .string (⟨#[]⟩ : ByteArray), .string (⟨#[]⟩ : ByteArray), .string (⟨#[]⟩ : ByteArray), .int .i64 0]) (t := 25) ?hr ?_; (case hd => rfl); (case hg => rfl); (case hr => first | (go_simp; done) | (go_simp; rfl)); intro gr hg wr hbox hb; have n0_ := Aside0.mk (below_step (by repeat (first | (with_reducible first | exact HB.out | apply below_alloc | apply pw_below_drewN | apply below_drew1 | refine below_set ?_ GEx.out | refine below_set ?_ GEr.out | refine below_set ?_ GEp.out) | exact HB.out)) hb); have n1_ := Aside0.mk (hbox); have n2_ := Aside0.mk ((by rw [hg]; exact (below_size (by repeat (first | (with_reducible first | exact HB.out | apply below_alloc | apply pw_below_drewN | apply below_drew1 | refine below_set ?_ GEx.out | refine below_set ?_ GEr.out | refine below_set ?_ GEp.out) | exact HB.out))) : w.heap.size ≤ gr)); have n3_ := Aside0.mk (blk_below (g := gx) (o := .cells #[.int .i64 op, .string K, .string V, .string O, .int .i64 H] 25 (0, 0)) (by (with_reducible repeat (first | refine blk_drewN ?_ _ | refine blk_drew ?_ | refine blk_alloc ?_ _)); exact Bx.out) hb); have n4_ := Aside0.mk ((by rw [hg]; exact Nat.ne_of_lt (blk_lt (g := gx) (o := .cells #[.int .i64 op, .string K, .string V, .string O, .int .i64 H] 25 (0, 0)) (by (with_reducible repeat (first | refine blk_drewN ?_ _ | refine blk_drew ?_ | refine blk_alloc ?_ _)); exact Bx.out)) : gx ≠ gr)); have n5_ := Aside0.mk ((by rw [hg]; exact Nat.ne_of_gt (blk_lt (g := gx) (o := .cells #[.int .i64 op, .string K, .string V, .string O, .int .i64 H] 25 (0, 0)) (by (with_reducible repeat (first | refine blk_drewN ?_ _ | refine blk_drew ?_ | refine blk_alloc ?_ _)); exact Bx.out)) : gr ≠ gx)); clear HB; clear Bx; have HB := n0_; have Br := n1_; have GEr := n2_; have Bx := n3_; have Nxr := n4_; have Nrx := n5_; clear n0_ n1_ n2_ n3_ n4_ n5_; clear hb hbox hg; have hcx0_r : wr.cell? ⟨gx, 0, none⟩ = some (.int .i64 op) := (blk_cell Bx.out 0).trans rfl; have hfx0_r := blk_frozen Bx.out 0; have hcx1_r : wr.cell? ⟨gx, 1, none⟩ = some (.string K) := (blk_cell Bx.out 1).trans rfl; have hfx1_r := blk_frozen Bx.out 1; have hcx2_r : wr.cell? ⟨gx, 2, none⟩ = some (.string V) := (blk_cell Bx.out 2).trans rfl; have hfx2_r := blk_frozen Bx.out 2; have hcx3_r : wr.cell? ⟨gx, 3, none⟩ = some (.string O) := (blk_cell Bx.out 3).trans rfl; have hfx3_r := blk_frozen Bx.out 3; have hcx4_r : wr.cell? ⟨gx, 4, none⟩ = some (.int .i64 H) := (blk_cell Bx.out 4).trans rfl; have hfx4_r := blk_frozen Bx.out 4; have hcr0_r : wr.cell? ⟨gr, 0, none⟩ = some (.int .i64 0) := (blk_cell Br.out 0).trans rfl; have hfr0_r := blk_frozen Br.out 0; have hcr1_r : wr.cell? ⟨gr, 1, none⟩ = some (.string (⟨#[]⟩ : ByteArray)) := (blk_cell Br.out 1).trans rfl; have hfr1_r := blk_frozen Br.out 1; have hcr2_r : wr.cell? ⟨gr, 2, none⟩ = some (.string (⟨#[]⟩ : ByteArray)) := (blk_cell Br.out 2).trans rfl; have hfr2_r := blk_frozen Br.out 2; have hcr3_r : wr.cell? ⟨gr, 3, none⟩ = some (.string (⟨#[]⟩ : ByteArray)) := (blk_cell Br.out 3).trans rfl; have hfr3_r := blk_frozen Br.out 3; have hcr4_r : wr.cell? ⟨gr, 4, none⟩ = some (.int .i64 0) := (blk_cell Br.out 4).trans rfl; have hfr4_r := blk_frozen Br.out 4; have hnxr := Nxr.out; have hmxr := Nrx.out) | ((with_reducible refine gate_dst (N := 3) rfl ?_); refine box_event ?hg (N := 3) ?hd (cs := #[.int .i64 0, .string (⟨#[]⟩ : ByteArray), .string (⟨#[]⟩ : ByteArray), .string (⟨#[]⟩ : ByteArray), .int .i64 0]) (t := 25) ?hr ?_; (case hd => rfl); (case hg => rfl); (case hr => first | (go_simp; done) | (go_simp; rfl)); intro gp hg wp hbox hb; have n0_ := Aside0.mk (below_step (by repeat (first | (with_reducible first | exact HB.out | apply below_alloc | apply pw_below_drewN | apply below_drew1 | refine below_set ?_ GEx.out | refine below_set ?_ GEr.out | refine below_set ?_ GEp.out) | exact HB.out)) hb); have n1_ := Aside0.mk (hbox); have n2_ := Aside0.mk ((by rw [hg]; exact (below_size (by repeat (first | (with_reducible first | exact HB.out | apply below_alloc | apply pw_below_drewN | apply below_drew1 | refine below_set ?_ GEx.out | refine below_set ?_ GEr.out | refine below_set ?_ GEp.out) | exact HB.out))) : w.heap.size ≤ gp)); have n3_ := Aside0.mk (blk_below (g := gx) (o := .cells #[.int .i64 op, .string K, .string V, .string O, .int .i64 H] 25 (0, 0)) (by (with_reducible repeat (first | refine blk_drewN ?_ _ | refine blk_drew ?_ | refine blk_alloc ?_ _)); exact Bx.out) hb); have n4_ := Aside0.mk ((by rw [hg]; exact Nat.ne_of_lt (blk_lt (g := gx) (o := .cells #[.int .i64 op, .string K, .string V, .string O, .int .i64 H] 25 (0, 0)) (by (with_reducible repeat (first | refine blk_drewN ?_ _ | refine blk_drew ?_ | refine blk_alloc ?_ _)); exact Bx.out)) : gx ≠ gp)); have n5_ := Aside0.mk ((by rw [hg]; exact Nat.ne_of_gt (blk_lt (g := gx) (o := .cells #[.int .i64 op, .string K, .string V, .string O, .int .i64 H] 25 (0, 0)) (by (with_reducible repeat (first | refine blk_drewN ?_ _ | refine blk_drew ?_ | refine blk_alloc ?_ _)); exact Bx.out)) : gp ≠ gx)); have n6_ := Aside0.mk (blk_below (g := gr) (o := .cells #[.int .i64 0, .string (⟨#[]⟩ : ByteArray), .string (⟨#[]⟩ : ByteArray), .string (⟨#[]⟩ : ByteArray), .int .i64 0] 25 (0, 0)) (by (with_reducible repeat (first | refine blk_drewN ?_ _ | refine blk_drew ?_ | refine blk_alloc ?_ _)); exact Br.out) hb); have n7_ := Aside0.mk ((by rw [hg]; exact Nat.ne_of_lt (blk_lt (g := gr) (o := .cells #[.int .i64 0, .string (⟨#[]⟩ : ByteArray), .string (⟨#[]⟩ : ByteArray), .string (⟨#[]⟩ : ByteArray), .int .i64 0] 25 (0, 0)) (by (with_reducible repeat (first | refine blk_drewN ?_ _ | refine blk_drew ?_ | refine blk_alloc ?_ _)); exact Br.out)) : gr ≠ gp)); have n8_ := Aside0.mk ((by rw [hg]; exact Nat.ne_of_gt (blk_lt (g := gr) (o := .cells #[.int .i64 0, .string (⟨#[]⟩ : ByteArray), .string (⟨#[]⟩ : ByteArray), .string (⟨#[]⟩ : ByteArray), .int .i64 0] 25 (0, 0)) (by (with_reducible repeat (first | refine blk_drewN ?_ _ | refine blk_drew ?_ | refine blk_alloc ?_ _)); exact Br.out)) : gp ≠ gr)); clear HB; clear Bx; clear Br; have HB := n0_; have Bp := n1_; have GEp := n2_; have Bx := n3_; have Nxp := n4_; have Npx := n5_; have Br := n6_; have Nrp := n7_; have Npr := n8_; clear n0_ n1_ n2_ n3_ n4_ n5_ n6_ n7_ n8_; clear hb hbox hg; have hcx0_p : wp.cell? ⟨gx, 0, none⟩ = some (.int .i64 op) := (blk_cell Bx.out 0).trans rfl; have hfx0_p := blk_frozen Bx.out 0; have hcx1_p : wp.cell? ⟨gx, 1, none⟩ = some (.string K) := (blk_cell Bx.out 1).trans rfl; have hfx1_p := blk_frozen Bx.out 1; have hcx2_p : wp.cell? ⟨gx, 2, none⟩ = some (.string V) := (blk_cell Bx.out 2).trans rfl; have hfx2_p := blk_frozen Bx.out 2; have hcx3_p : wp.cell? ⟨gx, 3, none⟩ = some (.string O) := (blk_cell Bx.out 3).trans rfl; have hfx3_p := blk_frozen Bx.out 3; have hcx4_p : wp.cell? ⟨gx, 4, none⟩ = some (.int .i64 H) := (blk_cell Bx.out 4).trans rfl; have hfx4_p := blk_frozen Bx.out 4; have hcr0_p : wp.cell? ⟨gr, 0, none⟩ = some (.int .i64 0) := (blk_cell Br.out 0).trans rfl; have hfr0_p := blk_frozen Br.out 0; have hcr1_p : wp.cell? ⟨gr, 1, none⟩ = some (.string (⟨#[]⟩ : ByteArray)) := (blk_cell Br.out 1).trans rfl; have hfr1_p := blk_frozen Br.out 1; have hcr2_p : wp.cell? ⟨gr, 2, none⟩ = some (.string (⟨#[]⟩ : ByteArray)) := (blk_cell Br.out 2).trans rfl; have hfr2_p := blk_frozen Br.out 2; have hcr3_p : wp.cell? ⟨gr, 3, none⟩ = some (.string (⟨#[]⟩ : ByteArray)) := (blk_cell Br.out 3).trans rfl; have hfr3_p := blk_frozen Br.out 3; have hcr4_p : wp.cell? ⟨gr, 4, none⟩ = some (.int .i64 0) := (blk_cell Br.out 4).trans rfl; have hfr4_p := blk_frozen Br.out 4; have hcp0_p : wp.cell? ⟨gp, 0, none⟩ = some (.int .i64 0) := (blk_cell Bp.out 0).trans rfl; have hfp0_p := blk_frozen Bp.out 0; have hcp1_p : wp.cell? ⟨gp, 1, none⟩ = some (.string (⟨#[]⟩ : ByteArray)) := (blk_cell Bp.out 1).trans rfl; have hfp1_p := blk_frozen Bp.out 1; have hcp2_p : wp.cell? ⟨gp, 2, none⟩ = some (.string (⟨#[]⟩ : ByteArray)) := (blk_cell Bp.out 2).trans rfl; have hfp2_p := blk_frozen Bp.out 2; have hcp3_p : wp.cell? ⟨gp, 3, none⟩ = some (.string (⟨#[]⟩ : ByteArray)) := (blk_cell Bp.out 3).trans rfl; have hfp3_p := blk_frozen Bp.out 3; have hcp4_p : wp.cell? ⟨gp, 4, none⟩ = some (.int .i64 0) := (blk_cell Bp.out 4).trans rfl; have hfp4_p := blk_frozen Bp.out 4; have hnxp := Nxp.out; have hmxp := Npx.out; have hnrp := Nrp.out; have hmrp := Npr.out) | (go_at_call 34; (with_reducible refine (is_in op _ h1 h2).mono ?_); rintro e w1 ⟨rfl, ⟨n, rfl⟩⟩; have hT := HT0.out _ (by repeat (first | (with_reducible first | exact HB.out | apply below_alloc | apply pw_below_drewN | apply below_drew1 | refine below_set ?_ GEx.out | refine below_set ?_ GEr.out | refine below_set ?_ GEp.out) | exact HB.out)); obtain ⟨ht0, ht1, ht2, ht3, ht4⟩ := hT))
  (try simp only [Act.put, List.setIfInBounds_toArray, List.set_cons_zero, List.set_cons_succ])
  obtain ⟨W4, hW4⟩ : ∃ W4, W4 = ((((((wp.setCell ⟨gp, 0, none⟩ (.int .i64 op)).setCell ⟨gp, 1, none⟩ (.string (⟨#[]⟩ : ByteArray))).setCell ⟨gp, 2, none⟩ (.string (⟨#[]⟩ : ByteArray))).setCell ⟨gp, 3, none⟩ (.string (⟨#[]⟩ : ByteArray))).setCell ⟨gp, 4, none⟩ (.int .i64 0)).drewN n) := ⟨_, rfl⟩
  rw [← hW4]
  have CX : Aside0 (W4.heap[gx]? = some (.cells #[.int .i64 op, .string K, .string V, .string O, .int .i64 H] 25 (0, 0))) := ⟨by rw [hW4]; (with_reducible repeat (first | refine blk_drewN ?_ _ | refine blk_drew ?_ | refine blk_alloc ?_ _)); refine blk_far ?_ Nxp.out _; (with_reducible repeat (first | refine blk_drewN ?_ _ | refine blk_drew ?_ | refine blk_alloc ?_ _)); refine blk_far ?_ Nxp.out _; (with_reducible repeat (first | refine blk_drewN ?_ _ | refine blk_drew ?_ | refine blk_alloc ?_ _)); refine blk_far ?_ Nxp.out _; (with_reducible repeat (first | refine blk_drewN ?_ _ | refine blk_drew ?_ | refine blk_alloc ?_ _)); refine blk_far ?_ Nxp.out _; (with_reducible repeat (first | refine blk_drewN ?_ _ | refine blk_drew ?_ | refine blk_alloc ?_ _)); refine blk_far ?_ Nxp.out _; (with_reducible repeat (first | refine blk_drewN ?_ _ | refine blk_drew ?_ | refine blk_alloc ?_ _)); exact Bx.out⟩
  have CR : Aside0 (W4.heap[gr]? = some (.cells #[.int .i64 0, .string (⟨#[]⟩ : ByteArray), .string (⟨#[]⟩ : ByteArray), .string (⟨#[]⟩ : ByteArray), .int .i64 0] 25 (0, 0))) := ⟨by rw [hW4]; (with_reducible repeat (first | refine blk_drewN ?_ _ | refine blk_drew ?_ | refine blk_alloc ?_ _)); refine blk_far ?_ Nrp.out _; (with_reducible repeat (first | refine blk_drewN ?_ _ | refine blk_drew ?_ | refine blk_alloc ?_ _)); refine blk_far ?_ Nrp.out _; (with_reducible repeat (first | refine blk_drewN ?_ _ | refine blk_drew ?_ | refine blk_alloc ?_ _)); refine blk_far ?_ Nrp.out _; (with_reducible repeat (first | refine blk_drewN ?_ _ | refine blk_drew ?_ | refine blk_alloc ?_ _)); refine blk_far ?_ Nrp.out _; (with_reducible repeat (first | refine blk_drewN ?_ _ | refine blk_drew ?_ | refine blk_alloc ?_ _)); refine blk_far ?_ Nrp.out _; (with_reducible repeat (first | refine blk_drewN ?_ _ | refine blk_drew ?_ | refine blk_alloc ?_ _)); exact Br.out⟩
  have CP : Aside0 (W4.heap[gp]? = some (.cells #[.int .i64 op, .string (⟨#[]⟩ : ByteArray), .string (⟨#[]⟩ : ByteArray), .string (⟨#[]⟩ : ByteArray), .int .i64 0] 25 (0, 0))) := ⟨by rw [hW4]; (with_reducible repeat (first | refine blk_drewN ?_ _ | refine blk_drew ?_ | refine blk_alloc ?_ _)); refine blk_put (cs := #[.int .i64 op, .string (⟨#[]⟩ : ByteArray), .string (⟨#[]⟩ : ByteArray), .string (⟨#[]⟩ : ByteArray), .int .i64 0]) ?_ 4 _ rfl; (with_reducible repeat (first | refine blk_drewN ?_ _ | refine blk_drew ?_ | refine blk_alloc ?_ _)); refine blk_put (cs := #[.int .i64 op, .string (⟨#[]⟩ : ByteArray), .string (⟨#[]⟩ : ByteArray), .string (⟨#[]⟩ : ByteArray), .int .i64 0]) ?_ 3 _ rfl; (with_reducible repeat (first | refine blk_drewN ?_ _ | refine blk_drew ?_ | refine blk_alloc ?_ _)); refine blk_put (cs := #[.int .i64 op, .string (⟨#[]⟩ : ByteArray), .string (⟨#[]⟩ : ByteArray), .string (⟨#[]⟩ : ByteArray), .int .i64 0]) ?_ 2 _ rfl; (with_reducible repeat (first | refine blk_drewN ?_ _ | refine blk_drew ?_ | refine blk_alloc ?_ _)); refine blk_put (cs := #[.int .i64 op, .string (⟨#[]⟩ : ByteArray), .string (⟨#[]⟩ : ByteArray), .string (⟨#[]⟩ : ByteArray), .int .i64 0]) ?_ 1 _ rfl; (with_reducible repeat (first | refine blk_drewN ?_ _ | refine blk_drew ?_ | refine blk_alloc ?_ _)); refine blk_put (cs := #[.int .i64 0, .string (⟨#[]⟩ : ByteArray), .string (⟨#[]⟩ : ByteArray), .string (⟨#[]⟩ : ByteArray), .int .i64 0]) ?_ 0 _ rfl; (with_reducible repeat (first | refine blk_drewN ?_ _ | refine blk_drew ?_ | refine blk_alloc ?_ _)); exact Bp.out⟩
  have CB : Aside0 (Below w.heap.size w W4) := ⟨by rw [hW4]; exact (by repeat (first | (with_reducible first | exact HB.out | apply below_alloc | apply pw_below_drewN | apply below_drew1 | refine below_set ?_ GEx.out | refine below_set ?_ GEr.out | refine below_set ?_ GEp.out) | exact HB.out))⟩
  clear hW4 Bx Br Bp HB ht0 ht1 ht2 ht3 ht4
  have Bx := CX; have Br := CR; have Bp := CP; have HB := CB; clear CX CR CP CB
  have hT := HT0.out _ HB.out; obtain ⟨ht0, ht1, ht2, ht3, ht4⟩ := hT
  clear hcx0_x hfx0_x hcx1_x hfx1_x hcx2_x hfx2_x hcx3_x hfx3_x hcx4_x hfx4_x hcx0_r hfx0_r hcx1_r hfx1_r hcx2_r hfx2_r hcx3_r hfx3_r hcx4_r hfx4_r hcr0_r hfr0_r hcr1_r hfr1_r hcr2_r hfr2_r hcr3_r hfr3_r hcr4_r hfr4_r hcx0_p hfx0_p hcx1_p hfx1_p hcx2_p hfx2_p hcx3_p hfx3_p hcx4_p hfx4_p hcr0_p hfr0_p hcr1_p hfr1_p hcr2_p hfr2_p hcr3_p hfr3_p hcr4_p hfr4_p hcp0_p hfp0_p hcp1_p hfp1_p hcp2_p hfp2_p hcp3_p hfp3_p hcp4_p hfp4_p
  have hcx0_4 : W4.cell? ⟨gx, 0, none⟩ = some (.int .i64 op) := (blk_cell Bx.out 0).trans rfl
  have hfx0_4 := blk_frozen Bx.out 0
  have hcx1_4 : W4.cell? ⟨gx, 1, none⟩ = some (.string K) := (blk_cell Bx.out 1).trans rfl
  have hfx1_4 := blk_frozen Bx.out 1
  have hcx2_4 : W4.cell? ⟨gx, 2, none⟩ = some (.string V) := (blk_cell Bx.out 2).trans rfl
  have hfx2_4 := blk_frozen Bx.out 2
  have hcx3_4 : W4.cell? ⟨gx, 3, none⟩ = some (.string O) := (blk_cell Bx.out 3).trans rfl
  have hfx3_4 := blk_frozen Bx.out 3
  have hcx4_4 : W4.cell? ⟨gx, 4, none⟩ = some (.int .i64 H) := (blk_cell Bx.out 4).trans rfl
  have hfx4_4 := blk_frozen Bx.out 4
  clear hfx0_4 hfx1_4 hfx2_4 hfx3_4 hfx4_4 hcx1_4 hcx2_4 hcx3_4 hcx4_4
  have hop14 : op < 14 := by omega
  have hop0 : ¬ op < 0 := by omega
  go_cut [4] (fun v4 wc => ∃ gu : Nat, v4 = .pointer (some ⟨gu, 0, none⟩) ∧ Aside0 (gx ≠ gu) ∧ Aside0 (gu ≠ gx) ∧ Aside0 (gr ≠ gu) ∧ Aside0 (gu ≠ gr) ∧ Aside0 (gp ≠ gu) ∧ Aside0 (gu ≠ gp) ∧ Aside0 (wc.heap[gx]? = some (.cells #[.int .i64 op, .string K, .string V, .string O, .int .i64 H] 25 (0, 0))) ∧ Aside0 (wc.heap[gr]? = some (.cells #[.int .i64 0, .string (⟨#[]⟩ : ByteArray), .string (⟨#[]⟩ : ByteArray), .string (⟨#[]⟩ : ByteArray), .int .i64 0] 25 (0, 0))) ∧ Aside0 (wc.heap[gp]? = some (.cells #[.int .i64 op, .string (⟨#[]⟩ : ByteArray), .string (⟨#[]⟩ : ByteArray), .string (⟨#[]⟩ : ByteArray), .int .i64 0] 25 (0, 0))) ∧ Aside0 (wc.heap[gu]? = some (.cells #[.bool b0, .bool b1, .bool b2, .bool b3] 51 (0, 0))) ∧ Aside0 (Below w.heap.size w wc))
  case first =>
    go_wp2_with (first | ((with_reducible refine gate_dst (N := 4) rfl ?_); refine box_event ?hg (N := 4) ?hd (cs := #[.bool false, .bool false, .bool false, .bool false]) (t := 51) ?hr ?_; (case hd => rfl); (case hg => rfl); (case hr => first | (go_simp; done) | (go_simp; rfl)); intro gu hg wu hbox hb; have n0_ := Aside0.mk (below_step (by repeat (first | (with_reducible first | exact HB.out | apply below_alloc | apply pw_below_drewN | apply below_drew1 | refine below_set ?_ GEx.out | refine below_set ?_ GEr.out | refine below_set ?_ GEp.out) | exact HB.out)) hb); have n1_ := Aside0.mk (hbox); have n2_ := Aside0.mk ((by rw [hg]; exact (below_size (by repeat (first | (with_reducible first | exact HB.out | apply below_alloc | apply pw_below_drewN | apply below_drew1 | refine below_set ?_ GEx.out | refine below_set ?_ GEr.out | refine below_set ?_ GEp.out) | exact HB.out))) : w.heap.size ≤ gu)); have n3_ := Aside0.mk (blk_below (g := gx) (o := .cells #[.int .i64 op, .string K, .string V, .string O, .int .i64 H] 25 (0, 0)) (by (with_reducible repeat (first | refine blk_drewN ?_ _ | refine blk_drew ?_ | refine blk_alloc ?_ _)); exact Bx.out) hb); have n4_ := Aside0.mk ((by rw [hg]; exact Nat.ne_of_lt (blk_lt (g := gx) (o := .cells #[.int .i64 op, .string K, .string V, .string O, .int .i64 H] 25 (0, 0)) (by (with_reducible repeat (first | refine blk_drewN ?_ _ | refine blk_drew ?_ | refine blk_alloc ?_ _)); exact Bx.out)) : gx ≠ gu)); have n5_ := Aside0.mk ((by rw [hg]; exact Nat.ne_of_gt (blk_lt (g := gx) (o := .cells #[.int .i64 op, .string K, .string V, .string O, .int .i64 H] 25 (0, 0)) (by (with_reducible repeat (first | refine blk_drewN ?_ _ | refine blk_drew ?_ | refine blk_alloc ?_ _)); exact Bx.out)) : gu ≠ gx)); have n6_ := Aside0.mk (blk_below (g := gr) (o := .cells #[.int .i64 0, .string (⟨#[]⟩ : ByteArray), .string (⟨#[]⟩ : ByteArray), .string (⟨#[]⟩ : ByteArray), .int .i64 0] 25 (0, 0)) (by (with_reducible repeat (first | refine blk_drewN ?_ _ | refine blk_drew ?_ | refine blk_alloc ?_ _)); exact Br.out) hb); have n7_ := Aside0.mk ((by rw [hg]; exact Nat.ne_of_lt (blk_lt (g := gr) (o := .cells #[.int .i64 0, .string (⟨#[]⟩ : ByteArray), .string (⟨#[]⟩ : ByteArray), .string (⟨#[]⟩ : ByteArray), .int .i64 0] 25 (0, 0)) (by (with_reducible repeat (first | refine blk_drewN ?_ _ | refine blk_drew ?_ | refine blk_alloc ?_ _)); exact Br.out)) : gr ≠ gu)); have n8_ := Aside0.mk ((by rw [hg]; exact Nat.ne_of_gt (blk_lt (g := gr) (o := .cells #[.int .i64 0, .string (⟨#[]⟩ : ByteArray), .string (⟨#[]⟩ : ByteArray), .string (⟨#[]⟩ : ByteArray), .int .i64 0] 25 (0, 0)) (by (with_reducible repeat (first | refine blk_drewN ?_ _ | refine blk_drew ?_ | refine blk_alloc ?_ _)); exact Br.out)) : gu ≠ gr)); have n9_ := Aside0.mk (blk_below (g := gp) (o := .cells #[.int .i64 op, .string (⟨#[]⟩ : ByteArray), .string (⟨#[]⟩ : ByteArray), .string (⟨#[]⟩ : ByteArray), .int .i64 0] 25 (0, 0)) (by (with_reducible repeat (first | refine blk_drewN ?_ _ | refine blk_drew ?_ | refine blk_alloc ?_ _)); exact Bp.out) hb); have n10_ := Aside0.mk ((by rw [hg]; exact Nat.ne_of_lt (blk_lt (g := gp) (o := .cells #[.int .i64 op, .string (⟨#[]⟩ : ByteArray), .string (⟨#[]⟩ : ByteArray), .string (⟨#[]⟩ : ByteArray), .int .i64 0] 25 (0, 0)) (by (with_reducible repeat (first | refine blk_drewN ?_ _ | refine blk_drew ?_ | refine blk_alloc ?_ _)); exact Bp.out)) : gp ≠ gu)); have n11_ := Aside0.mk ((by rw [hg]; exact Nat.ne_of_gt (blk_lt (g := gp) (o := .cells #[.int .i64 op, .string (⟨#[]⟩ : ByteArray), .string (⟨#[]⟩ : ByteArray), .string (⟨#[]⟩ : ByteArray), .int .i64 0] 25 (0, 0)) (by (with_reducible repeat (first | refine blk_drewN ?_ _ | refine blk_drew ?_ | refine blk_alloc ?_ _)); exact Bp.out)) : gu ≠ gp)); clear HB; clear Bx; clear Br; clear Bp; have HB := n0_; have Bu := n1_; have GEu := n2_; have Bx := n3_; have Nxu := n4_; have Nux := n5_; have Br := n6_; have Nru := n7_; have Nur := n8_; have Bp := n9_; have Npu := n10_; have Nup := n11_; clear n0_ n1_ n2_ n3_ n4_ n5_ n6_ n7_ n8_ n9_ n10_ n11_; clear hb hbox hg; have hcx0_u : wu.cell? ⟨gx, 0, none⟩ = some (.int .i64 op) := (blk_cell Bx.out 0).trans rfl; have hfx0_u := blk_frozen Bx.out 0; have hcx1_u : wu.cell? ⟨gx, 1, none⟩ = some (.string K) := (blk_cell Bx.out 1).trans rfl; have hfx1_u := blk_frozen Bx.out 1; have hcx2_u : wu.cell? ⟨gx, 2, none⟩ = some (.string V) := (blk_cell Bx.out 2).trans rfl; have hfx2_u := blk_frozen Bx.out 2; have hcx3_u : wu.cell? ⟨gx, 3, none⟩ = some (.string O) := (blk_cell Bx.out 3).trans rfl; have hfx3_u := blk_frozen Bx.out 3; have hcx4_u : wu.cell? ⟨gx, 4, none⟩ = some (.int .i64 H) := (blk_cell Bx.out 4).trans rfl; have hfx4_u := blk_frozen Bx.out 4; have hcr0_u : wu.cell? ⟨gr, 0, none⟩ = some (.int .i64 0) := (blk_cell Br.out 0).trans rfl; have hfr0_u := blk_frozen Br.out 0; have hcr1_u : wu.cell? ⟨gr, 1, none⟩ = some (.string (⟨#[]⟩ : ByteArray)) := (blk_cell Br.out 1).trans rfl; have hfr1_u := blk_frozen Br.out 1; have hcr2_u : wu.cell? ⟨gr, 2, none⟩ = some (.string (⟨#[]⟩ : ByteArray)) := (blk_cell Br.out 2).trans rfl; have hfr2_u := blk_frozen Br.out 2; have hcr3_u : wu.cell? ⟨gr, 3, none⟩ = some (.string (⟨#[]⟩ : ByteArray)) := (blk_cell Br.out 3).trans rfl; have hfr3_u := blk_frozen Br.out 3; have hcr4_u : wu.cell? ⟨gr, 4, none⟩ = some (.int .i64 0) := (blk_cell Br.out 4).trans rfl; have hfr4_u := blk_frozen Br.out 4; have hcp0_u : wu.cell? ⟨gp, 0, none⟩ = some (.int .i64 op) := (blk_cell Bp.out 0).trans rfl; have hfp0_u := blk_frozen Bp.out 0; have hcp1_u : wu.cell? ⟨gp, 1, none⟩ = some (.string (⟨#[]⟩ : ByteArray)) := (blk_cell Bp.out 1).trans rfl; have hfp1_u := blk_frozen Bp.out 1; have hcp2_u : wu.cell? ⟨gp, 2, none⟩ = some (.string (⟨#[]⟩ : ByteArray)) := (blk_cell Bp.out 2).trans rfl; have hfp2_u := blk_frozen Bp.out 2; have hcp3_u : wu.cell? ⟨gp, 3, none⟩ = some (.string (⟨#[]⟩ : ByteArray)) := (blk_cell Bp.out 3).trans rfl; have hfp3_u := blk_frozen Bp.out 3; have hcp4_u : wu.cell? ⟨gp, 4, none⟩ = some (.int .i64 0) := (blk_cell Bp.out 4).trans rfl; have hfp4_u := blk_frozen Bp.out 4; have hcu0_u : wu.cell? ⟨gu, 0, none⟩ = some (.bool false) := (blk_cell Bu.out 0).trans rfl; have hfu0_u := blk_frozen Bu.out 0; have hcu1_u : wu.cell? ⟨gu, 1, none⟩ = some (.bool false) := (blk_cell Bu.out 1).trans rfl; have hfu1_u := blk_frozen Bu.out 1; have hcu2_u : wu.cell? ⟨gu, 2, none⟩ = some (.bool false) := (blk_cell Bu.out 2).trans rfl; have hfu2_u := blk_frozen Bu.out 2; have hcu3_u : wu.cell? ⟨gu, 3, none⟩ = some (.bool false) := (blk_cell Bu.out 3).trans rfl; have hfu3_u := blk_frozen Bu.out 3; have hnxu := Nxu.out; have hmxu := Nux.out; have hnru := Nru.out; have hmru := Nur.out; have hnpu := Npu.out; have hmpu := Nup.out; have hT := HT0.out _ HB.out; obtain ⟨ht0, ht1, ht2, ht3, ht4⟩ := hT))
    go_meet
    case rel => exact ⟨gu, rfl, ⟨Nxu.out⟩, ⟨Nux.out⟩, ⟨Nru.out⟩, ⟨Nur.out⟩, ⟨Npu.out⟩, ⟨Nup.out⟩, ⟨by (with_reducible repeat (first | refine blk_drewN ?_ _ | refine blk_drew ?_ | refine blk_alloc ?_ _)); refine blk_far ?_ Nxu.out _; (with_reducible repeat (first | refine blk_drewN ?_ _ | refine blk_drew ?_ | refine blk_alloc ?_ _)); refine blk_far ?_ Nxu.out _; (with_reducible repeat (first | refine blk_drewN ?_ _ | refine blk_drew ?_ | refine blk_alloc ?_ _)); refine blk_far ?_ Nxu.out _; (with_reducible repeat (first | refine blk_drewN ?_ _ | refine blk_drew ?_ | refine blk_alloc ?_ _)); refine blk_far ?_ Nxu.out _; (with_reducible repeat (first | refine blk_drewN ?_ _ | refine blk_drew ?_ | refine blk_alloc ?_ _)); exact Bx.out⟩, ⟨by (with_reducible repeat (first | refine blk_drewN ?_ _ | refine blk_drew ?_ | refine blk_alloc ?_ _)); refine blk_far ?_ Nru.out _; (with_reducible repeat (first | refine blk_drewN ?_ _ | refine blk_drew ?_ | refine blk_alloc ?_ _)); refine blk_far ?_ Nru.out _; (with_reducible repeat (first | refine blk_drewN ?_ _ | refine blk_drew ?_ | refine blk_alloc ?_ _)); refine blk_far ?_ Nru.out _; (with_reducible repeat (first | refine blk_drewN ?_ _ | refine blk_drew ?_ | refine blk_alloc ?_ _)); refine blk_far ?_ Nru.out _; (with_reducible repeat (first | refine blk_drewN ?_ _ | refine blk_drew ?_ | refine blk_alloc ?_ _)); exact Br.out⟩, ⟨by (with_reducible repeat (first | refine blk_drewN ?_ _ | refine blk_drew ?_ | refine blk_alloc ?_ _)); refine blk_far ?_ Npu.out _; (with_reducible repeat (first | refine blk_drewN ?_ _ | refine blk_drew ?_ | refine blk_alloc ?_ _)); refine blk_far ?_ Npu.out _; (with_reducible repeat (first | refine blk_drewN ?_ _ | refine blk_drew ?_ | refine blk_alloc ?_ _)); refine blk_far ?_ Npu.out _; (with_reducible repeat (first | refine blk_drewN ?_ _ | refine blk_drew ?_ | refine blk_alloc ?_ _)); refine blk_far ?_ Npu.out _; (with_reducible repeat (first | refine blk_drewN ?_ _ | refine blk_drew ?_ | refine blk_alloc ?_ _)); exact Bp.out⟩, ⟨by (with_reducible repeat (first | refine blk_drewN ?_ _ | refine blk_drew ?_ | refine blk_alloc ?_ _)); refine blk_put (cs := #[.bool b0, .bool b1, .bool b2, .bool false]) ?_ 3 _ rfl; (with_reducible repeat (first | refine blk_drewN ?_ _ | refine blk_drew ?_ | refine blk_alloc ?_ _)); refine blk_put (cs := #[.bool b0, .bool b1, .bool false, .bool false]) ?_ 2 _ rfl; (with_reducible repeat (first | refine blk_drewN ?_ _ | refine blk_drew ?_ | refine blk_alloc ?_ _)); refine blk_put (cs := #[.bool b0, .bool false, .bool false, .bool false]) ?_ 1 _ rfl; (with_reducible repeat (first | refine blk_drewN ?_ _ | refine blk_drew ?_ | refine blk_alloc ?_ _)); refine blk_put (cs := #[.bool false, .bool false, .bool false, .bool false]) ?_ 0 _ rfl; (with_reducible repeat (first | refine blk_drewN ?_ _ | refine blk_drew ?_ | refine blk_alloc ?_ _)); exact Bu.out⟩, ⟨by repeat (first | (with_reducible first | exact HB.out | apply below_alloc | apply pw_below_drewN | apply below_drew1 | refine below_set ?_ GEp.out | refine below_set ?_ GEu.out) | exact HB.out)⟩⟩
  case rest =>
  obtain ⟨gu, rfl, Nxu, Nux, Nru, Nur, Npu, Nup, Bx, Br, Bp, Bu, HB⟩ := hcut
  clear ht0 ht1 ht2 ht3 ht4 hcx0_4
  have hcx0_q0 : wc.cell? ⟨gx, 0, none⟩ = some (.int .i64 op) := (blk_cell Bx.out 0).trans rfl
  have hfx0_q0 := blk_frozen Bx.out 0
  have hcx1_q0 : wc.cell? ⟨gx, 1, none⟩ = some (.string K) := (blk_cell Bx.out 1).trans rfl
  have hfx1_q0 := blk_frozen Bx.out 1
  have hcx2_q0 : wc.cell? ⟨gx, 2, none⟩ = some (.string V) := (blk_cell Bx.out 2).trans rfl
  have hfx2_q0 := blk_frozen Bx.out 2
  have hcx3_q0 : wc.cell? ⟨gx, 3, none⟩ = some (.string O) := (blk_cell Bx.out 3).trans rfl
  have hfx3_q0 := blk_frozen Bx.out 3
  have hcx4_q0 : wc.cell? ⟨gx, 4, none⟩ = some (.int .i64 H) := (blk_cell Bx.out 4).trans rfl
  have hfx4_q0 := blk_frozen Bx.out 4
  have hcp0_q0 : wc.cell? ⟨gp, 0, none⟩ = some (.int .i64 op) := (blk_cell Bp.out 0).trans rfl
  have hfp0_q0 := blk_frozen Bp.out 0
  have hcp1_q0 : wc.cell? ⟨gp, 1, none⟩ = some (.string (⟨#[]⟩ : ByteArray)) := (blk_cell Bp.out 1).trans rfl
  have hfp1_q0 := blk_frozen Bp.out 1
  have hcp2_q0 : wc.cell? ⟨gp, 2, none⟩ = some (.string (⟨#[]⟩ : ByteArray)) := (blk_cell Bp.out 2).trans rfl
  have hfp2_q0 := blk_frozen Bp.out 2
  have hcp3_q0 : wc.cell? ⟨gp, 3, none⟩ = some (.string (⟨#[]⟩ : ByteArray)) := (blk_cell Bp.out 3).trans rfl
  have hfp3_q0 := blk_frozen Bp.out 3
  have hcp4_q0 : wc.cell? ⟨gp, 4, none⟩ = some (.int .i64 0) := (blk_cell Bp.out 4).trans rfl
  have hfp4_q0 := blk_frozen Bp.out 4
  have hcu0_q0 : wc.cell? ⟨gu, 0, none⟩ = some (.bool b0) := (blk_cell Bu.out 0).trans rfl
  have hfu0_q0 := blk_frozen Bu.out 0
  have hcu1_q0 : wc.cell? ⟨gu, 1, none⟩ = some (.bool b1) := (blk_cell Bu.out 1).trans rfl
  have hfu1_q0 := blk_frozen Bu.out 1
  have hcu2_q0 : wc.cell? ⟨gu, 2, none⟩ = some (.bool b2) := (blk_cell Bu.out 2).trans rfl
  have hfu2_q0 := blk_frozen Bu.out 2
  have hcu3_q0 : wc.cell? ⟨gu, 3, none⟩ = some (.bool b3) := (blk_cell Bu.out 3).trans rfl
  have hfu3_q0 := blk_frozen Bu.out 3
  have hnx := Nxp.out; have hnu := Nup.out; have hmx := Npx.out; have hmu := Npu.out
  go_upto_if 18 with (fail)
  (try simp only [Act.put, List.setIfInBounds_toArray, List.set_cons_zero, List.set_cons_succ])
  go_cut [] (fun wc => Aside0 (wc.heap[gx]? = some (.cells #[.int .i64 op, .string K, .string V, .string O, .int .i64 H] 25 (0, 0))) ∧ Aside0 (wc.heap[gr]? = some (.cells #[.int .i64 0, .string (⟨#[]⟩ : ByteArray), .string (⟨#[]⟩ : ByteArray), .string (⟨#[]⟩ : ByteArray), .int .i64 0] 25 (0, 0))) ∧ Aside0 (wc.heap[gp]? = some (.cells #[.int .i64 op, .string (if b0 = true then K else (⟨#[]⟩ : ByteArray)), .string (⟨#[]⟩ : ByteArray), .string (⟨#[]⟩ : ByteArray), .int .i64 0] 25 (0, 0))) ∧ Aside0 (wc.heap[gu]? = some (.cells #[.bool b0, .bool b1, .bool b2, .bool b3] 51 (0, 0))) ∧ Aside0 (Below w.heap.size w wc))
  case first =>
    cases b0 with
    | false =>
      go_wp2
      go_meet
      case rel => exact ⟨⟨Bx.out⟩, ⟨Br.out⟩, ⟨Bp.out⟩, ⟨Bu.out⟩, ⟨HB.out⟩⟩
    | true =>
      go_wp2
      go_meet
      case rel => exact ⟨⟨blk_far Bx.out Nxp.out _⟩, ⟨blk_far Br.out Nrp.out _⟩, ⟨by refine blk_put (cs := #[.int .i64 op, .string (⟨#[]⟩ : ByteArray), .string (⟨#[]⟩ : ByteArray), .string (⟨#[]⟩ : ByteArray), .int .i64 0]) ?_ 1 _ rfl; exact Bp.out⟩, ⟨blk_far Bu.out Nup.out _⟩, ⟨below_set HB.out GEp.out⟩⟩
  case rest =>
  clear hcx0_q0 hfx0_q0 hcx1_q0 hfx1_q0 hcx2_q0 hfx2_q0 hcx3_q0 hfx3_q0 hcx4_q0 hfx4_q0 hcp0_q0 hfp0_q0 hcp1_q0 hfp1_q0 hcp2_q0 hfp2_q0 hcp3_q0 hfp3_q0 hcp4_q0 hfp4_q0 hcu0_q0 hfu0_q0 hcu1_q0 hfu1_q0 hcu2_q0 hfu2_q0 hcu3_q0 hfu3_q0 hnx hnu hmx hmu Bx Br Bp Bu HB
  obtain ⟨Bx, Br, Bp, Bu, HB⟩ := hcut
  have hcx0_q1 : wc.cell? ⟨gx, 0, none⟩ = some (.int .i64 op) := (blk_cell Bx.out 0).trans rfl
  have hfx0_q1 := blk_frozen Bx.out 0
  have hcx1_q1 : wc.cell? ⟨gx, 1, none⟩ = some (.string K) := (blk_cell Bx.out 1).trans rfl
  have hfx1_q1 := blk_frozen Bx.out 1
  have hcx2_q1 : wc.cell? ⟨gx, 2, none⟩ = some (.string V) := (blk_cell Bx.out 2).trans rfl
  have hfx2_q1 := blk_frozen Bx.out 2
  have hcx3_q1 : wc.cell? ⟨gx, 3, none⟩ = some (.string O) := (blk_cell Bx.out 3).trans rfl
  have hfx3_q1 := blk_frozen Bx.out 3
  have hcx4_q1 : wc.cell? ⟨gx, 4, none⟩ = some (.int .i64 H) := (blk_cell Bx.out 4).trans rfl
  have hfx4_q1 := blk_frozen Bx.out 4
  have hcp0_q1 : wc.cell? ⟨gp, 0, none⟩ = some (.int .i64 op) := (blk_cell Bp.out 0).trans rfl
  have hfp0_q1 := blk_frozen Bp.out 0
  have hcp1_q1 : wc.cell? ⟨gp, 1, none⟩ = some (.string (if b0 = true then K else (⟨#[]⟩ : ByteArray))) := (blk_cell Bp.out 1).trans rfl
  have hfp1_q1 := blk_frozen Bp.out 1
  have hcp2_q1 : wc.cell? ⟨gp, 2, none⟩ = some (.string (⟨#[]⟩ : ByteArray)) := (blk_cell Bp.out 2).trans rfl
  have hfp2_q1 := blk_frozen Bp.out 2
  have hcp3_q1 : wc.cell? ⟨gp, 3, none⟩ = some (.string (⟨#[]⟩ : ByteArray)) := (blk_cell Bp.out 3).trans rfl
  have hfp3_q1 := blk_frozen Bp.out 3
  have hcp4_q1 : wc.cell? ⟨gp, 4, none⟩ = some (.int .i64 0) := (blk_cell Bp.out 4).trans rfl
  have hfp4_q1 := blk_frozen Bp.out 4
  have hcu0_q1 : wc.cell? ⟨gu, 0, none⟩ = some (.bool b0) := (blk_cell Bu.out 0).trans rfl
  have hfu0_q1 := blk_frozen Bu.out 0
  have hcu1_q1 : wc.cell? ⟨gu, 1, none⟩ = some (.bool b1) := (blk_cell Bu.out 1).trans rfl
  have hfu1_q1 := blk_frozen Bu.out 1
  have hcu2_q1 : wc.cell? ⟨gu, 2, none⟩ = some (.bool b2) := (blk_cell Bu.out 2).trans rfl
  have hfu2_q1 := blk_frozen Bu.out 2
  have hcu3_q1 : wc.cell? ⟨gu, 3, none⟩ = some (.bool b3) := (blk_cell Bu.out 3).trans rfl
  have hfu3_q1 := blk_frozen Bu.out 3
  have hnx := Nxp.out; have hnu := Nup.out; have hmx := Npx.out; have hmu := Npu.out
  go_upto_if 23 with (fail)
  (try simp only [Act.put, List.setIfInBounds_toArray, List.set_cons_zero, List.set_cons_succ])
  go_cut [] (fun wc => Aside0 (wc.heap[gx]? = some (.cells #[.int .i64 op, .string K, .string V, .string O, .int .i64 H] 25 (0, 0))) ∧ Aside0 (wc.heap[gr]? = some (.cells #[.int .i64 0, .string (⟨#[]⟩ : ByteArray), .string (⟨#[]⟩ : ByteArray), .string (⟨#[]⟩ : ByteArray), .int .i64 0] 25 (0, 0))) ∧ Aside0 (wc.heap[gp]? = some (.cells #[.int .i64 op, .string (if b0 = true then K else (⟨#[]⟩ : ByteArray)), .string (if b1 = true then V else (⟨#[]⟩ : ByteArray)), .string (⟨#[]⟩ : ByteArray), .int .i64 0] 25 (0, 0))) ∧ Aside0 (wc.heap[gu]? = some (.cells #[.bool b0, .bool b1, .bool b2, .bool b3] 51 (0, 0))) ∧ Aside0 (Below w.heap.size w wc))
  case first =>
    cases b1 with
    | false =>
      go_wp2
      go_meet
      case rel => exact ⟨⟨Bx.out⟩, ⟨Br.out⟩, ⟨Bp.out⟩, ⟨Bu.out⟩, ⟨HB.out⟩⟩
    | true =>
      go_wp2
      go_meet
      case rel => exact ⟨⟨blk_far Bx.out Nxp.out _⟩, ⟨blk_far Br.out Nrp.out _⟩, ⟨by refine blk_put (cs := #[.int .i64 op, .string (if b0 = true then K else (⟨#[]⟩ : ByteArray)), .string (⟨#[]⟩ : ByteArray), .string (⟨#[]⟩ : ByteArray), .int .i64 0]) ?_ 2 _ rfl; exact Bp.out⟩, ⟨blk_far Bu.out Nup.out _⟩, ⟨below_set HB.out GEp.out⟩⟩
  case rest =>
  clear hcx0_q1 hfx0_q1 hcx1_q1 hfx1_q1 hcx2_q1 hfx2_q1 hcx3_q1 hfx3_q1 hcx4_q1 hfx4_q1 hcp0_q1 hfp0_q1 hcp1_q1 hfp1_q1 hcp2_q1 hfp2_q1 hcp3_q1 hfp3_q1 hcp4_q1 hfp4_q1 hcu0_q1 hfu0_q1 hcu1_q1 hfu1_q1 hcu2_q1 hfu2_q1 hcu3_q1 hfu3_q1 hnx hnu hmx hmu Bx Br Bp Bu HB
  obtain ⟨Bx, Br, Bp, Bu, HB⟩ := hcut
  have hcx0_q2 : wc.cell? ⟨gx, 0, none⟩ = some (.int .i64 op) := (blk_cell Bx.out 0).trans rfl
  have hfx0_q2 := blk_frozen Bx.out 0
  have hcx1_q2 : wc.cell? ⟨gx, 1, none⟩ = some (.string K) := (blk_cell Bx.out 1).trans rfl
  have hfx1_q2 := blk_frozen Bx.out 1
  have hcx2_q2 : wc.cell? ⟨gx, 2, none⟩ = some (.string V) := (blk_cell Bx.out 2).trans rfl
  have hfx2_q2 := blk_frozen Bx.out 2
  have hcx3_q2 : wc.cell? ⟨gx, 3, none⟩ = some (.string O) := (blk_cell Bx.out 3).trans rfl
  have hfx3_q2 := blk_frozen Bx.out 3
  have hcx4_q2 : wc.cell? ⟨gx, 4, none⟩ = some (.int .i64 H) := (blk_cell Bx.out 4).trans rfl
  have hfx4_q2 := blk_frozen Bx.out 4
  have hcp0_q2 : wc.cell? ⟨gp, 0, none⟩ = some (.int .i64 op) := (blk_cell Bp.out 0).trans rfl
  have hfp0_q2 := blk_frozen Bp.out 0
  have hcp1_q2 : wc.cell? ⟨gp, 1, none⟩ = some (.string (if b0 = true then K else (⟨#[]⟩ : ByteArray))) := (blk_cell Bp.out 1).trans rfl
  have hfp1_q2 := blk_frozen Bp.out 1
  have hcp2_q2 : wc.cell? ⟨gp, 2, none⟩ = some (.string (if b1 = true then V else (⟨#[]⟩ : ByteArray))) := (blk_cell Bp.out 2).trans rfl
  have hfp2_q2 := blk_frozen Bp.out 2
  have hcp3_q2 : wc.cell? ⟨gp, 3, none⟩ = some (.string (⟨#[]⟩ : ByteArray)) := (blk_cell Bp.out 3).trans rfl
  have hfp3_q2 := blk_frozen Bp.out 3
  have hcp4_q2 : wc.cell? ⟨gp, 4, none⟩ = some (.int .i64 0) := (blk_cell Bp.out 4).trans rfl
  have hfp4_q2 := blk_frozen Bp.out 4
  have hcu0_q2 : wc.cell? ⟨gu, 0, none⟩ = some (.bool b0) := (blk_cell Bu.out 0).trans rfl
  have hfu0_q2 := blk_frozen Bu.out 0
  have hcu1_q2 : wc.cell? ⟨gu, 1, none⟩ = some (.bool b1) := (blk_cell Bu.out 1).trans rfl
  have hfu1_q2 := blk_frozen Bu.out 1
  have hcu2_q2 : wc.cell? ⟨gu, 2, none⟩ = some (.bool b2) := (blk_cell Bu.out 2).trans rfl
  have hfu2_q2 := blk_frozen Bu.out 2
  have hcu3_q2 : wc.cell? ⟨gu, 3, none⟩ = some (.bool b3) := (blk_cell Bu.out 3).trans rfl
  have hfu3_q2 := blk_frozen Bu.out 3
  have hnx := Nxp.out; have hnu := Nup.out; have hmx := Npx.out; have hmu := Npu.out
  go_upto_if 28 with (fail)
  (try simp only [Act.put, List.setIfInBounds_toArray, List.set_cons_zero, List.set_cons_succ])
  go_cut [] (fun wc => Aside0 (wc.heap[gx]? = some (.cells #[.int .i64 op, .string K, .string V, .string O, .int .i64 H] 25 (0, 0))) ∧ Aside0 (wc.heap[gr]? = some (.cells #[.int .i64 0, .string (⟨#[]⟩ : ByteArray), .string (⟨#[]⟩ : ByteArray), .string (⟨#[]⟩ : ByteArray), .int .i64 0] 25 (0, 0))) ∧ Aside0 (wc.heap[gp]? = some (.cells #[.int .i64 op, .string (if b0 = true then K else (⟨#[]⟩ : ByteArray)), .string (if b1 = true then V else (⟨#[]⟩ : ByteArray)), .string (if b2 = true then O else (⟨#[]⟩ : ByteArray)), .int .i64 0] 25 (0, 0))) ∧ Aside0 (wc.heap[gu]? = some (.cells #[.bool b0, .bool b1, .bool b2, .bool b3] 51 (0, 0))) ∧ Aside0 (Below w.heap.size w wc))
  case first =>
    cases b2 with
    | false =>
      go_wp2
      go_meet
      case rel => exact ⟨⟨Bx.out⟩, ⟨Br.out⟩, ⟨Bp.out⟩, ⟨Bu.out⟩, ⟨HB.out⟩⟩
    | true =>
      go_wp2
      go_meet
      case rel => exact ⟨⟨blk_far Bx.out Nxp.out _⟩, ⟨blk_far Br.out Nrp.out _⟩, ⟨by refine blk_put (cs := #[.int .i64 op, .string (if b0 = true then K else (⟨#[]⟩ : ByteArray)), .string (if b1 = true then V else (⟨#[]⟩ : ByteArray)), .string (⟨#[]⟩ : ByteArray), .int .i64 0]) ?_ 3 _ rfl; exact Bp.out⟩, ⟨blk_far Bu.out Nup.out _⟩, ⟨below_set HB.out GEp.out⟩⟩
  case rest =>
  clear hcx0_q2 hfx0_q2 hcx1_q2 hfx1_q2 hcx2_q2 hfx2_q2 hcx3_q2 hfx3_q2 hcx4_q2 hfx4_q2 hcp0_q2 hfp0_q2 hcp1_q2 hfp1_q2 hcp2_q2 hfp2_q2 hcp3_q2 hfp3_q2 hcp4_q2 hfp4_q2 hcu0_q2 hfu0_q2 hcu1_q2 hfu1_q2 hcu2_q2 hfu2_q2 hcu3_q2 hfu3_q2 hnx hnu hmx hmu Bx Br Bp Bu HB
  obtain ⟨Bx, Br, Bp, Bu, HB⟩ := hcut
  have hcx0_q3 : wc.cell? ⟨gx, 0, none⟩ = some (.int .i64 op) := (blk_cell Bx.out 0).trans rfl
  have hfx0_q3 := blk_frozen Bx.out 0
  have hcx1_q3 : wc.cell? ⟨gx, 1, none⟩ = some (.string K) := (blk_cell Bx.out 1).trans rfl
  have hfx1_q3 := blk_frozen Bx.out 1
  have hcx2_q3 : wc.cell? ⟨gx, 2, none⟩ = some (.string V) := (blk_cell Bx.out 2).trans rfl
  have hfx2_q3 := blk_frozen Bx.out 2
  have hcx3_q3 : wc.cell? ⟨gx, 3, none⟩ = some (.string O) := (blk_cell Bx.out 3).trans rfl
  have hfx3_q3 := blk_frozen Bx.out 3
  have hcx4_q3 : wc.cell? ⟨gx, 4, none⟩ = some (.int .i64 H) := (blk_cell Bx.out 4).trans rfl
  have hfx4_q3 := blk_frozen Bx.out 4
  have hcp0_q3 : wc.cell? ⟨gp, 0, none⟩ = some (.int .i64 op) := (blk_cell Bp.out 0).trans rfl
  have hfp0_q3 := blk_frozen Bp.out 0
  have hcp1_q3 : wc.cell? ⟨gp, 1, none⟩ = some (.string (if b0 = true then K else (⟨#[]⟩ : ByteArray))) := (blk_cell Bp.out 1).trans rfl
  have hfp1_q3 := blk_frozen Bp.out 1
  have hcp2_q3 : wc.cell? ⟨gp, 2, none⟩ = some (.string (if b1 = true then V else (⟨#[]⟩ : ByteArray))) := (blk_cell Bp.out 2).trans rfl
  have hfp2_q3 := blk_frozen Bp.out 2
  have hcp3_q3 : wc.cell? ⟨gp, 3, none⟩ = some (.string (if b2 = true then O else (⟨#[]⟩ : ByteArray))) := (blk_cell Bp.out 3).trans rfl
  have hfp3_q3 := blk_frozen Bp.out 3
  have hcp4_q3 : wc.cell? ⟨gp, 4, none⟩ = some (.int .i64 0) := (blk_cell Bp.out 4).trans rfl
  have hfp4_q3 := blk_frozen Bp.out 4
  have hcu0_q3 : wc.cell? ⟨gu, 0, none⟩ = some (.bool b0) := (blk_cell Bu.out 0).trans rfl
  have hfu0_q3 := blk_frozen Bu.out 0
  have hcu1_q3 : wc.cell? ⟨gu, 1, none⟩ = some (.bool b1) := (blk_cell Bu.out 1).trans rfl
  have hfu1_q3 := blk_frozen Bu.out 1
  have hcu2_q3 : wc.cell? ⟨gu, 2, none⟩ = some (.bool b2) := (blk_cell Bu.out 2).trans rfl
  have hfu2_q3 := blk_frozen Bu.out 2
  have hcu3_q3 : wc.cell? ⟨gu, 3, none⟩ = some (.bool b3) := (blk_cell Bu.out 3).trans rfl
  have hfu3_q3 := blk_frozen Bu.out 3
  have hnx := Nxp.out; have hnu := Nup.out; have hmx := Npx.out; have hmu := Npu.out
  go_upto_if 33 with (fail)
  (try simp only [Act.put, List.setIfInBounds_toArray, List.set_cons_zero, List.set_cons_succ])
  go_cut [] (fun wc => Aside0 (wc.heap[gx]? = some (.cells #[.int .i64 op, .string K, .string V, .string O, .int .i64 H] 25 (0, 0))) ∧ Aside0 (wc.heap[gr]? = some (.cells #[.int .i64 0, .string (⟨#[]⟩ : ByteArray), .string (⟨#[]⟩ : ByteArray), .string (⟨#[]⟩ : ByteArray), .int .i64 0] 25 (0, 0))) ∧ Aside0 (wc.heap[gp]? = some (.cells #[.int .i64 op, .string (if b0 = true then K else (⟨#[]⟩ : ByteArray)), .string (if b1 = true then V else (⟨#[]⟩ : ByteArray)), .string (if b2 = true then O else (⟨#[]⟩ : ByteArray)), .int .i64 (if b3 = true then H else 0)] 25 (0, 0))) ∧ Aside0 (wc.heap[gu]? = some (.cells #[.bool b0, .bool b1, .bool b2, .bool b3] 51 (0, 0))) ∧ Aside0 (Below w.heap.size w wc))
  case first =>
    cases b3 with
    | false =>
      go_wp2
      go_meet
      case rel => exact ⟨⟨Bx.out⟩, ⟨Br.out⟩, ⟨Bp.out⟩, ⟨Bu.out⟩, ⟨HB.out⟩⟩
    | true =>
      go_wp2
      go_meet
      case rel => exact ⟨⟨blk_far Bx.out Nxp.out _⟩, ⟨blk_far Br.out Nrp.out _⟩, ⟨by refine blk_put (cs := #[.int .i64 op, .string (if b0 = true then K else (⟨#[]⟩ : ByteArray)), .string (if b1 = true then V else (⟨#[]⟩ : ByteArray)), .string (if b2 = true then O else (⟨#[]⟩ : ByteArray)), .int .i64 0]) ?_ 4 _ rfl; exact Bp.out⟩, ⟨blk_far Bu.out Nup.out _⟩, ⟨below_set HB.out GEp.out⟩⟩
  case rest =>
  clear hcx0_q3 hfx0_q3 hcx1_q3 hfx1_q3 hcx2_q3 hfx2_q3 hcx3_q3 hfx3_q3 hcx4_q3 hfx4_q3 hcp0_q3 hfp0_q3 hcp1_q3 hfp1_q3 hcp2_q3 hfp2_q3 hcp3_q3 hfp3_q3 hcp4_q3 hfp4_q3 hcu0_q3 hfu0_q3 hcu1_q3 hfu1_q3 hcu2_q3 hfu2_q3 hcu3_q3 hfu3_q3 hnx hnu hmx hmu Bx Br Bp Bu HB
  obtain ⟨Bx, Br, Bp, Bu, HB⟩ := hcut
  have hcp0_e : wc.cell? ⟨gp, 0, none⟩ = some (.int .i64 op) := (blk_cell Bp.out 0).trans rfl
  have hfp0_e := blk_frozen Bp.out 0
  have hcp1_e : wc.cell? ⟨gp, 1, none⟩ = some (.string (if b0 = true then K else (⟨#[]⟩ : ByteArray))) := (blk_cell Bp.out 1).trans rfl
  have hfp1_e := blk_frozen Bp.out 1
  have hcp2_e : wc.cell? ⟨gp, 2, none⟩ = some (.string (if b1 = true then V else (⟨#[]⟩ : ByteArray))) := (blk_cell Bp.out 2).trans rfl
  have hfp2_e := blk_frozen Bp.out 2
  have hcp3_e : wc.cell? ⟨gp, 3, none⟩ = some (.string (if b2 = true then O else (⟨#[]⟩ : ByteArray))) := (blk_cell Bp.out 3).trans rfl
  have hfp3_e := blk_frozen Bp.out 3
  have hcp4_e : wc.cell? ⟨gp, 4, none⟩ = some (.int .i64 (if b3 = true then H else 0)) := (blk_cell Bp.out 4).trans rfl
  have hfp4_e := blk_frozen Bp.out 4
  have hcr0_e : wc.cell? ⟨gr, 0, none⟩ = some (.int .i64 0) := (blk_cell Br.out 0).trans rfl
  have hfr0_e := blk_frozen Br.out 0
  have hcr1_e : wc.cell? ⟨gr, 1, none⟩ = some (.string (⟨#[]⟩ : ByteArray)) := (blk_cell Br.out 1).trans rfl
  have hfr1_e := blk_frozen Br.out 1
  have hcr2_e : wc.cell? ⟨gr, 2, none⟩ = some (.string (⟨#[]⟩ : ByteArray)) := (blk_cell Br.out 2).trans rfl
  have hfr2_e := blk_frozen Br.out 2
  have hcr3_e : wc.cell? ⟨gr, 3, none⟩ = some (.string (⟨#[]⟩ : ByteArray)) := (blk_cell Br.out 3).trans rfl
  have hfr3_e := blk_frozen Br.out 3
  have hcr4_e : wc.cell? ⟨gr, 4, none⟩ = some (.int .i64 0) := (blk_cell Br.out 4).trans rfl
  have hfr4_e := blk_frozen Br.out 4
  generalize hv0 : (if b0 = true then K else (⟨#[]⟩ : ByteArray)) = v0 at *
  generalize hv1 : (if b1 = true then V else (⟨#[]⟩ : ByteArray)) = v1 at *
  generalize hv2 : (if b2 = true then O else (⟨#[]⟩ : ByteArray)) = v2 at *
  generalize hv3 : (if b3 = true then H else 0) = v3 at *
  have hmr := Nrp.out; have hmp := Npr.out
  go_wp2
  refine bodyPost_ret (results_cell_row rfl _ _ gr 25 #[.int .i64 op, .string v0, .string v1, .string v2, .int .i64 v3] (0, 0) _ rfl (by (with_reducible repeat (first | refine blk_drewN ?_ _ | refine blk_drew ?_ | refine blk_alloc ?_ _)); refine blk_put (cs := #[.int .i64 op, .string v0, .string v1, .string v2, .int .i64 0]) ?_ 4 _ rfl; (with_reducible repeat (first | refine blk_drewN ?_ _ | refine blk_drew ?_ | refine blk_alloc ?_ _)); refine blk_put (cs := #[.int .i64 op, .string v0, .string v1, .string (⟨#[]⟩ : ByteArray), .int .i64 0]) ?_ 3 _ rfl; (with_reducible repeat (first | refine blk_drewN ?_ _ | refine blk_drew ?_ | refine blk_alloc ?_ _)); refine blk_put (cs := #[.int .i64 op, .string v0, .string (⟨#[]⟩ : ByteArray), .string (⟨#[]⟩ : ByteArray), .int .i64 0]) ?_ 2 _ rfl; (with_reducible repeat (first | refine blk_drewN ?_ _ | refine blk_drew ?_ | refine blk_alloc ?_ _)); refine blk_put (cs := #[.int .i64 op, .string (⟨#[]⟩ : ByteArray), .string (⟨#[]⟩ : ByteArray), .string (⟨#[]⟩ : ByteArray), .int .i64 0]) ?_ 1 _ rfl; (with_reducible repeat (first | refine blk_drewN ?_ _ | refine blk_drew ?_ | refine blk_alloc ?_ _)); refine blk_put (cs := #[.int .i64 0, .string (⟨#[]⟩ : ByteArray), .string (⟨#[]⟩ : ByteArray), .string (⟨#[]⟩ : ByteArray), .int .i64 0]) ?_ 0 _ rfl; (with_reducible repeat (first | refine blk_drewN ?_ _ | refine blk_drew ?_ | refine blk_alloc ?_ _)); exact Br.out) Tryd.underlying25 rfl (by kernel_rfl)) rfl ?_
  exact ⟨rfl, by repeat (first | (with_reducible first | exact HB.out | apply below_alloc | apply pw_below_drewN | apply below_drew1 | refine below_set ?_ GEr.out) | exact HB.out)⟩

theorem is_out (op : Int) (w : World) (h : ¬ (1 ≤ op ∧ op ≤ 13)) : Calls Tryd.prog 34 #[.int .i64 op] w fun e w' => e = .returned (.bool false) ∧ Drawn0 w w' := by
  by_cases h1 : 1 ≤ op
  · have d1 : decide (1 ≤ op) = true := decide_eq_true h1
    have d2 : decide (op ≤ 13) = false := decide_eq_false (by omega)
    go_enter Tryd.func34, Tryd.ntmps34
    go_wp2
    go_ret
    exact ⟨rfl, by repeat (first | exact Drawn0.refl _ | apply Drawn0.step)⟩
  · have d1 : decide (1 ≤ op) = false := decide_eq_false h1
    go_enter Tryd.func34, Tryd.ntmps34
    go_wp2
    go_ret
    exact ⟨rfl, by repeat (first | exact Drawn0.refl _ | apply Drawn0.step)⟩

set_option maxHeartbeats 8000000 in
set_option maxRecDepth 100000 in
theorem plain_out (op : Int) (K V O : ByteArray) (H : Int) (w : World) (h : ¬ (1 ≤ op ∧ op ≤ 13)) :
    Calls Tryd.prog 13 #[.agg #[.int .i64 op, .string K, .string V, .string O, .int .i64 H]] w fun e w' => e = .returned (.agg #[.int .i64 op, .string (⟨#[]⟩ : ByteArray), .string (⟨#[]⟩ : ByteArray), .string (⟨#[]⟩ : ByteArray), .int .i64 0]) ∧ Below w.heap.size w w' := by
  have hu25 := Tryd.underlying25
  have HB := Aside0.mk (Below.refl w.heap.size w)
  have HH := Aside0.mk h
  clear h
  go_enter Tryd.func13, Tryd.ntmps13
  go_wp2_with (first | ((with_reducible refine gate_dst (N := 1) rfl ?_); refine box_event ?hg (N := 1) ?hd (cs := #[.int .i64 op, .string K, .string V, .string O, .int .i64 H]) (t := 25) ?hr ?_; (case hd => rfl); (case hg => rfl); (case hr => first | (go_simp; done) | (go_simp; rfl)); intro gx hg wx hbox hb; have n0_ := Aside0.mk (below_step (by repeat (first | (with_reducible first | exact HB.out | apply below_alloc | apply pw_below_drewN | apply below_drew1 | refine below_set ?_ GEx.out | refine below_set ?_ GEr.out | refine below_set ?_ GEp.out) | exact HB.out)) hb); have n1_ := Aside0.mk (hbox); have n2_ := Aside0.mk ((by rw [hg]; exact (below_size (by repeat (first | (with_reducible first | exact HB.out | apply below_alloc | apply pw_below_drewN | apply below_drew1 | refine below_set ?_ GEx.out | refine below_set ?_ GEr.out | refine below_set ?_ GEp.out) | exact HB.out))) : w.heap.size ≤ gx)); clear HB; have HB := n0_; have Bx := n1_; have GEx := n2_; clear n0_ n1_ n2_; clear hb hbox hg; have hcx0_x : wx.cell? ⟨gx, 0, none⟩ = some (.int .i64 op) := (blk_cell Bx.out 0).trans rfl; have hfx0_x := blk_frozen Bx.out 0; have hcx1_x : wx.cell? ⟨gx, 1, none⟩ = some (.string K) := (blk_cell Bx.out 1).trans rfl; have hfx1_x := blk_frozen Bx.out 1; have hcx2_x : wx.cell? ⟨gx, 2, none⟩ = some (.string V) := (blk_cell Bx.out 2).trans rfl; have hfx2_x := blk_frozen Bx.out 2; have hcx3_x : wx.cell? ⟨gx, 3, none⟩ = some (.string O) := (blk_cell Bx.out 3).trans rfl; have hfx3_x := blk_frozen Bx.out 3; have hcx4_x : wx.cell? ⟨gx, 4, none⟩ = some (.int .i64 H) := (blk_cell Bx.out 4).trans rfl; have hfx4_x := blk_frozen Bx.out 4) | ((with_reducible refine gate_dst (N := 2) rfl ?_); refine box_event ?hg (N := 2) ?hd (cs := #[.int .i64 0, .string (⟨#[]⟩ : ByteArray), .string (⟨#[]⟩ : ByteArray), .string (⟨#[]⟩ : ByteArray), .int .i64 0]) (t := 25) ?hr ?_; (case hd => rfl); (case hg => rfl); (case hr => first | (go_simp; done) | (go_simp; rfl)); intro gr hg wr hbox hb; have n0_ := Aside0.mk (below_step (by repeat (first | (with_reducible first | exact HB.out | apply below_alloc | apply pw_below_drewN | apply below_drew1 | refine below_set ?_ GEx.out | refine below_set ?_ GEr.out | refine below_set ?_ GEp.out) | exact HB.out)) hb); have n1_ := Aside0.mk (hbox); have n2_ := Aside0.mk ((by rw [hg]; exact (below_size (by repeat (first | (with_reducible first | exact HB.out | apply below_alloc | apply pw_below_drewN | apply below_drew1 | refine below_set ?_ GEx.out | refine below_set ?_ GEr.out | refine below_set ?_ GEp.out) | exact HB.out))) : w.heap.size ≤ gr)); have n3_ := Aside0.mk (blk_below (g := gx) (o := .cells #[.int .i64 op, .string K, .string V, .string O, .int .i64 H] 25 (0, 0)) (by (with_reducible repeat (first | refine blk_drewN ?_ _ | refine blk_drew ?_ | refine blk_alloc ?_ _)); exact Bx.out) hb); have n4_ := Aside0.mk ((by rw [hg]; exact Nat.ne_of_lt (blk_lt (g := gx) (o := .cells #[.int .i64 op, .string K, .string V, .string O, .int .i64 H] 25 (0, 0)) (by (with_reducible repeat (first | refine blk_drewN ?_ _ | refine blk_drew ?_ | refine blk_alloc ?_ _)); exact Bx.out)) : gx ≠ gr)); have n5_ := Aside0.mk ((by rw [hg]; exact Nat.ne_of_gt (blk_lt (g := gx) (o := .cells #[.int .i64 op, .string K, .string V, .string O, .int .i64 H] 25 (0, 0)) (by (with_reducible repeat (first | refine blk_drewN ?_ _ | refine blk_drew ?_ | refine blk_alloc ?_ _)); exact Bx.out)) : gr ≠ gx)); clear HB; clear Bx; have HB := n0_; have Br := n1_; have GEr := n2_; have Bx := n3_; have Nxr := n4_; have Nrx := n5_; clear n0_ n1_ n2_ n3_ n4_ n5_; clear hb hbox hg; have hcx0_r : wr.cell? ⟨gx, 0, none⟩ = some (.int .i64 op) := (blk_cell Bx.out 0).trans rfl; have hfx0_r := blk_frozen Bx.out 0; have hcx1_r : wr.cell? ⟨gx, 1, none⟩ = some (.string K) := (blk_cell Bx.out 1).trans rfl; have hfx1_r := blk_frozen Bx.out 1; have hcx2_r : wr.cell? ⟨gx, 2, none⟩ = some (.string V) := (blk_cell Bx.out 2).trans rfl; have hfx2_r := blk_frozen Bx.out 2; have hcx3_r : wr.cell? ⟨gx, 3, none⟩ = some (.string O) := (blk_cell Bx.out 3).trans rfl; have hfx3_r := blk_frozen Bx.out 3; have hcx4_r : wr.cell? ⟨gx, 4, none⟩ = some (.int .i64 H) := (blk_cell Bx.out 4).trans rfl; have hfx4_r := blk_frozen Bx.out 4; have hcr0_r : wr.cell? ⟨gr, 0, none⟩ = some (.int .i64 0) := (blk_cell Br.out 0).trans rfl; have hfr0_r := blk_frozen Br.out 0; have hcr1_r : wr.cell? ⟨gr, 1, none⟩ = some (.string (⟨#[]⟩ : ByteArray)) := (blk_cell Br.out 1).trans rfl; have hfr1_r := blk_frozen Br.out 1; have hcr2_r : wr.cell? ⟨gr, 2, none⟩ = some (.string (⟨#[]⟩ : ByteArray)) := (blk_cell Br.out 2).trans rfl; have hfr2_r := blk_frozen Br.out 2; have hcr3_r : wr.cell? ⟨gr, 3, none⟩ = some (.string (⟨#[]⟩ : ByteArray)) := (blk_cell Br.out 3).trans rfl; have hfr3_r := blk_frozen Br.out 3; have hcr4_r : wr.cell? ⟨gr, 4, none⟩ = some (.int .i64 0) := (blk_cell Br.out 4).trans rfl; have hfr4_r := blk_frozen Br.out 4; have hnxr := Nxr.out; have hmxr := Nrx.out) | ((with_reducible refine gate_dst (N := 3) rfl ?_); refine box_event ?hg (N := 3) ?hd (cs := #[.int .i64 0, .string (⟨#[]⟩ : ByteArray), .string (⟨#[]⟩ : ByteArray), .string (⟨#[]⟩ : ByteArray), .int .i64 0]) (t := 25) ?hr ?_; (case hd => rfl); (case hg => rfl); (case hr => first | (go_simp; done) | (go_simp; rfl)); intro gp hg wp hbox hb; have n0_ := Aside0.mk (below_step (by repeat (first | (with_reducible first | exact HB.out | apply below_alloc | apply pw_below_drewN | apply below_drew1 | refine below_set ?_ GEx.out | refine below_set ?_ GEr.out | refine below_set ?_ GEp.out) | exact HB.out)) hb); have n1_ := Aside0.mk (hbox); have n2_ := Aside0.mk ((by rw [hg]; exact (below_size (by repeat (first | (with_reducible first | exact HB.out | apply below_alloc | apply pw_below_drewN | apply below_drew1 | refine below_set ?_ GEx.out | refine below_set ?_ GEr.out | refine below_set ?_ GEp.out) | exact HB.out))) : w.heap.size ≤ gp)); have n3_ := Aside0.mk (blk_below (g := gx) (o := .cells #[.int .i64 op, .string K, .string V, .string O, .int .i64 H] 25 (0, 0)) (by (with_reducible repeat (first | refine blk_drewN ?_ _ | refine blk_drew ?_ | refine blk_alloc ?_ _)); exact Bx.out) hb); have n4_ := Aside0.mk ((by rw [hg]; exact Nat.ne_of_lt (blk_lt (g := gx) (o := .cells #[.int .i64 op, .string K, .string V, .string O, .int .i64 H] 25 (0, 0)) (by (with_reducible repeat (first | refine blk_drewN ?_ _ | refine blk_drew ?_ | refine blk_alloc ?_ _)); exact Bx.out)) : gx ≠ gp)); have n5_ := Aside0.mk ((by rw [hg]; exact Nat.ne_of_gt (blk_lt (g := gx) (o := .cells #[.int .i64 op, .string K, .string V, .string O, .int .i64 H] 25 (0, 0)) (by (with_reducible repeat (first | refine blk_drewN ?_ _ | refine blk_drew ?_ | refine blk_alloc ?_ _)); exact Bx.out)) : gp ≠ gx)); have n6_ := Aside0.mk (blk_below (g := gr) (o := .cells #[.int .i64 0, .string (⟨#[]⟩ : ByteArray), .string (⟨#[]⟩ : ByteArray), .string (⟨#[]⟩ : ByteArray), .int .i64 0] 25 (0, 0)) (by (with_reducible repeat (first | refine blk_drewN ?_ _ | refine blk_drew ?_ | refine blk_alloc ?_ _)); exact Br.out) hb); have n7_ := Aside0.mk ((by rw [hg]; exact Nat.ne_of_lt (blk_lt (g := gr) (o := .cells #[.int .i64 0, .string (⟨#[]⟩ : ByteArray), .string (⟨#[]⟩ : ByteArray), .string (⟨#[]⟩ : ByteArray), .int .i64 0] 25 (0, 0)) (by (with_reducible repeat (first | refine blk_drewN ?_ _ | refine blk_drew ?_ | refine blk_alloc ?_ _)); exact Br.out)) : gr ≠ gp)); have n8_ := Aside0.mk ((by rw [hg]; exact Nat.ne_of_gt (blk_lt (g := gr) (o := .cells #[.int .i64 0, .string (⟨#[]⟩ : ByteArray), .string (⟨#[]⟩ : ByteArray), .string (⟨#[]⟩ : ByteArray), .int .i64 0] 25 (0, 0)) (by (with_reducible repeat (first | refine blk_drewN ?_ _ | refine blk_drew ?_ | refine blk_alloc ?_ _)); exact Br.out)) : gp ≠ gr)); clear HB; clear Bx; clear Br; have HB := n0_; have Bp := n1_; have GEp := n2_; have Bx := n3_; have Nxp := n4_; have Npx := n5_; have Br := n6_; have Nrp := n7_; have Npr := n8_; clear n0_ n1_ n2_ n3_ n4_ n5_ n6_ n7_ n8_; clear hb hbox hg; have hcx0_p : wp.cell? ⟨gx, 0, none⟩ = some (.int .i64 op) := (blk_cell Bx.out 0).trans rfl; have hfx0_p := blk_frozen Bx.out 0; have hcx1_p : wp.cell? ⟨gx, 1, none⟩ = some (.string K) := (blk_cell Bx.out 1).trans rfl; have hfx1_p := blk_frozen Bx.out 1; have hcx2_p : wp.cell? ⟨gx, 2, none⟩ = some (.string V) := (blk_cell Bx.out 2).trans rfl; have hfx2_p := blk_frozen Bx.out 2; have hcx3_p : wp.cell? ⟨gx, 3, none⟩ = some (.string O) := (blk_cell Bx.out 3).trans rfl; have hfx3_p := blk_frozen Bx.out 3; have hcx4_p : wp.cell? ⟨gx, 4, none⟩ = some (.int .i64 H) := (blk_cell Bx.out 4).trans rfl; have hfx4_p := blk_frozen Bx.out 4; have hcr0_p : wp.cell? ⟨gr, 0, none⟩ = some (.int .i64 0) := (blk_cell Br.out 0).trans rfl; have hfr0_p := blk_frozen Br.out 0; have hcr1_p : wp.cell? ⟨gr, 1, none⟩ = some (.string (⟨#[]⟩ : ByteArray)) := (blk_cell Br.out 1).trans rfl; have hfr1_p := blk_frozen Br.out 1; have hcr2_p : wp.cell? ⟨gr, 2, none⟩ = some (.string (⟨#[]⟩ : ByteArray)) := (blk_cell Br.out 2).trans rfl; have hfr2_p := blk_frozen Br.out 2; have hcr3_p : wp.cell? ⟨gr, 3, none⟩ = some (.string (⟨#[]⟩ : ByteArray)) := (blk_cell Br.out 3).trans rfl; have hfr3_p := blk_frozen Br.out 3; have hcr4_p : wp.cell? ⟨gr, 4, none⟩ = some (.int .i64 0) := (blk_cell Br.out 4).trans rfl; have hfr4_p := blk_frozen Br.out 4; have hcp0_p : wp.cell? ⟨gp, 0, none⟩ = some (.int .i64 0) := (blk_cell Bp.out 0).trans rfl; have hfp0_p := blk_frozen Bp.out 0; have hcp1_p : wp.cell? ⟨gp, 1, none⟩ = some (.string (⟨#[]⟩ : ByteArray)) := (blk_cell Bp.out 1).trans rfl; have hfp1_p := blk_frozen Bp.out 1; have hcp2_p : wp.cell? ⟨gp, 2, none⟩ = some (.string (⟨#[]⟩ : ByteArray)) := (blk_cell Bp.out 2).trans rfl; have hfp2_p := blk_frozen Bp.out 2; have hcp3_p : wp.cell? ⟨gp, 3, none⟩ = some (.string (⟨#[]⟩ : ByteArray)) := (blk_cell Bp.out 3).trans rfl; have hfp3_p := blk_frozen Bp.out 3; have hcp4_p : wp.cell? ⟨gp, 4, none⟩ = some (.int .i64 0) := (blk_cell Bp.out 4).trans rfl; have hfp4_p := blk_frozen Bp.out 4; have hnxp := Nxp.out; have hmxp := Npx.out; have hnrp := Nrp.out; have hmrp := Npr.out) | (go_at_call 34; (with_reducible refine (is_out op _ HH.out).mono ?_); rintro e w1 ⟨rfl, ⟨n, rfl⟩⟩))
  refine bodyPost_ret (results_cell_row rfl _ _ gr 25 #[.int .i64 op, .string (⟨#[]⟩ : ByteArray), .string (⟨#[]⟩ : ByteArray), .string (⟨#[]⟩ : ByteArray), .int .i64 0] (0, 0) _ rfl (by (with_reducible repeat (first | refine blk_drewN ?_ _ | refine blk_drew ?_ | refine blk_alloc ?_ _)); refine blk_put (cs := #[.int .i64 op, .string (⟨#[]⟩ : ByteArray), .string (⟨#[]⟩ : ByteArray), .string (⟨#[]⟩ : ByteArray), .int .i64 0]) ?_ 4 _ rfl; (with_reducible repeat (first | refine blk_drewN ?_ _ | refine blk_drew ?_ | refine blk_alloc ?_ _)); refine blk_put (cs := #[.int .i64 op, .string (⟨#[]⟩ : ByteArray), .string (⟨#[]⟩ : ByteArray), .string (⟨#[]⟩ : ByteArray), .int .i64 0]) ?_ 3 _ rfl; (with_reducible repeat (first | refine blk_drewN ?_ _ | refine blk_drew ?_ | refine blk_alloc ?_ _)); refine blk_put (cs := #[.int .i64 op, .string (⟨#[]⟩ : ByteArray), .string (⟨#[]⟩ : ByteArray), .string (⟨#[]⟩ : ByteArray), .int .i64 0]) ?_ 2 _ rfl; (with_reducible repeat (first | refine blk_drewN ?_ _ | refine blk_drew ?_ | refine blk_alloc ?_ _)); refine blk_put (cs := #[.int .i64 op, .string (⟨#[]⟩ : ByteArray), .string (⟨#[]⟩ : ByteArray), .string (⟨#[]⟩ : ByteArray), .int .i64 0]) ?_ 1 _ rfl; (with_reducible repeat (first | refine blk_drewN ?_ _ | refine blk_drew ?_ | refine blk_alloc ?_ _)); refine blk_put (cs := #[.int .i64 0, .string (⟨#[]⟩ : ByteArray), .string (⟨#[]⟩ : ByteArray), .string (⟨#[]⟩ : ByteArray), .int .i64 0]) ?_ 0 _ rfl; (with_reducible repeat (first | refine blk_drewN ?_ _ | refine blk_drew ?_ | refine blk_alloc ?_ _)); refine blk_far ?_ Nrp.out _; (with_reducible repeat (first | refine blk_drewN ?_ _ | refine blk_drew ?_ | refine blk_alloc ?_ _)); refine blk_far ?_ Nrp.out _; (with_reducible repeat (first | refine blk_drewN ?_ _ | refine blk_drew ?_ | refine blk_alloc ?_ _)); refine blk_far ?_ Nrp.out _; (with_reducible repeat (first | refine blk_drewN ?_ _ | refine blk_drew ?_ | refine blk_alloc ?_ _)); refine blk_far ?_ Nrp.out _; (with_reducible repeat (first | refine blk_drewN ?_ _ | refine blk_drew ?_ | refine blk_alloc ?_ _)); refine blk_far ?_ Nrp.out _; (with_reducible repeat (first | refine blk_drewN ?_ _ | refine blk_drew ?_ | refine blk_alloc ?_ _)); exact Br.out) Tryd.underlying25 rfl (by kernel_rfl)) rfl ?_
  exact ⟨rfl, by repeat (first | (with_reducible first | exact HB.out | apply below_alloc | apply pw_below_drewN | apply below_drew1 | refine below_set ?_ GEr.out | refine below_set ?_ GEp.out) | exact HB.out)⟩

theorem usesB_in (op : Int) (what : Nat) (h : 1 ≤ op ∧ op ≤ 13) : usesB op what = tab.getD (op.toNat * 4 + what) false := by
  unfold usesB; rw [if_pos h, Nat.mul_comm]
theorem Used.reads {w : World} (HU : Used w) (op : Int) (h : 1 ≤ op ∧ op ≤ 13) : ∀ W, Below w.heap.size w W → ReadsT W op.toNat (usesB op 0) (usesB op 1) (usesB op 2) (usesB op 3) := by
  intro W hb
  have hU := HU.below hb
  refine ⟨hU.pos, ?_, ?_, ?_, ?_⟩
  all_goals (rw [usesB_in op _ h]; exact hU _ (by omega))

/-- call.Plain. -/
theorem plain_c (op : Int) (K V O : ByteArray) (H : Int) (w : World) (HU : Used w) :
    Calls Tryd.prog 13 #[.agg #[.int .i64 op, .string K, .string V, .string O, .int .i64 H]] w fun e w' => e = .returned (.agg #[.int .i64 op, .string (if usesB op 0 = true then K else ⟨#[]⟩), .string (if usesB op 1 = true then V else ⟨#[]⟩), .string (if usesB op 2 = true then O else ⟨#[]⟩), .int .i64 (if usesB op 3 = true then H else 0)]) ∧ Below w.heap.size w w' := by
  by_cases h : 1 ≤ op ∧ op ≤ 13
  · exact plain_walk op K V O H w (decide_eq_true h.1) (decide_eq_true h.2) _ _ _ _ (HU.reads op h)
  · simp only [usesB_out _ _ h]
    exact plain_out op K V O H w h

set_option maxHeartbeats 8000000 in
set_option maxRecDepth 100000 in
/-- call.Held. -/
theorem held_c (op : Int) (w : World) (HU : Used w) : Calls Tryd.prog 15 #[.int .i64 op] w fun e w' => e = .returned (.bool (usesB op 3)) ∧ Below w.heap.size w w' := by
  by_cases h : 1 ≤ op ∧ op ≤ 13
  · have HR := Aside0.mk (HU.reads op h)
    have HH := Aside0.mk h
    have hop14 : op < 14 := by omega
    have hop0 : ¬ op < 0 := by omega
    have hlo : 1 ≤ op := h.1
    have hu51 := Tryd.underlying51
    have hu52 := Tryd.underlying52
    clear HU
    generalize hb : usesB op 3 = b3 at *
    clear h
    go_enter Tryd.func15, Tryd.ntmps15
    go_wp2_with (go_at_call 34; (with_reducible refine (is_in op _ (decide_eq_true HH.out.1) (decide_eq_true HH.out.2)).mono ?_); rintro e w1 ⟨rfl, ⟨n, rfl⟩⟩; have hT := HR.out (World.drewN _ n) (by repeat (first | exact Below.refl _ _ | apply pw_below_drewN | apply below_drew1)); obtain ⟨ht0, ht1, ht2, ht3, ht4⟩ := hT)
    go_ret
    exact ⟨rfl, by repeat (first | exact Below.refl _ _ | apply pw_below_drewN | apply below_drew1)⟩
  · rw [usesB_out _ _ h]
    have HH := Aside0.mk h
    clear h HU
    go_enter Tryd.func15, Tryd.ntmps15
    go_wp2_with (go_at_call 34; (with_reducible refine (is_out op _ HH.out).mono ?_); rintro e w1 ⟨rfl, ⟨n, rfl⟩⟩)
    go_ret
    exact ⟨rfl, by repeat (first | exact Below.refl _ _ | apply pw_below_drewN | apply below_drew1)⟩


end Go.Proofs.YtfpjfndelkgciaaDoor.Fw
