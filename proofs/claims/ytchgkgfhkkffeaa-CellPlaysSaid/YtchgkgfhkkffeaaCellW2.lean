/- The walks of Peek and Count. -/
import Derived.Test.YtchgkgfhkkffeaaCellW1
namespace Go.Proofs.Ytchgkgfhkkffeaa.Ce
open Go.RowKit Go.Proofs.YtchgkgfhkkffeaaW.PrintWords Go.Proofs.YtchgkgfhkkffeaaW.PrintLast Go.Proofs.YtchgkgfhkkffeaaW.PrintMore
set_option linter.unusedVariables false
set_option linter.unusedSimpArgs false

theorem Empty.below {W w : World} {e : Nat} (h : Empty W e) (hb : Below W.heap.size W w) : Empty w e := blk_below h hb
theorem IsC.lt_p {W : World} {p g : Nat} {ws : List W3} {n : Int} (h : IsC W p g ws n) : p < W.heap.size := blk_lt h.head
theorem IsC.lt_g {W : World} {p g : Nat} {ws : List W3} {n : Int} (h : IsC W p g ws n) : g < W.heap.size := by obtain ⟨cs, hb, _⟩ := h.row; exact blk_lt hb
theorem IsC.below {W w : World} {p g : Nat} {ws : List W3} {n : Int} (h : IsC W p g ws n) (hb : Below W.heap.size W w) : IsC w p g ws n := by
  obtain ⟨cs, hc, hr⟩ := h.row
  exact ⟨h.ne, blk_below h.head hb, cs, blk_below hc hb, hr⟩
theorem lt_of_get {α : Type} {l : List α} {j : Nat} {x : α} (h : l[j]? = some x) : j < l.length := (List.getElem?_eq_some_iff.1 h).1
theorem IsC.get {W : World} {p g : Nat} {ws : List W3} {n : Int} (h : IsC W p g ws n) {j : Nat} {x : W3} (hj : ws[j]? = some x) : W.cell? ⟨g, j * 3, none⟩ = some (.int .i64 x.1) ∧ W.cell? ⟨g, j * 3 + 1, none⟩ = some (.int .i64 x.2.1) ∧ W.cell? ⟨g, j * 3 + 2, none⟩ = some (.int .i64 x.2.2) ∧ W.frozen? ⟨g, j * 3, none⟩ = false ∧ W.frozen? ⟨g, j * 3 + 1, none⟩ = false ∧ W.frozen? ⟨g, j * 3 + 2, none⟩ = false := by
  obtain ⟨hl, hx⟩ := List.getElem?_eq_some_iff.1 hj
  have := h.at_ j hl
  rwa [hx] at this

theorem peek_nil (i : Int) (W : World) : Calls Try.prog 39 #[.pointer none, .int .i64 i] W fun e w' => e = .returned (wv zero) ∧ Below W.heap.size W w' := by
  have hu := Try.underlying47
  have HB := Aside0.mk (Below.refl W.heap.size W)
  go_enter Try.func39, Try.ntmps39
  go_wp2_with (first | ((with_reducible refine gate_dst (N := 4) rfl ?_); refine box_event ?hg (N := 4) ?hd (cs := #[.int .i64 0, .int .i64 0, .int .i64 0]) (t := 47) ?hr ?_; (case hd => rfl); (case hg => rfl); (case hr => first | (go_simp; done) | (go_simp; rfl)); intro gr hg wr hbox hb; have n0_ := Aside0.mk (below_step (by repeat (first | (with_reducible first | exact HB.out | apply below_alloc | apply pw_below_drewN | apply below_drew1) | exact HB.out)) hb); have n1_ := Aside0.mk (hbox); have n2_ := Aside0.mk ((by rw [hg]; exact (below_size (by repeat (first | (with_reducible first | exact HB.out | apply below_alloc | apply pw_below_drewN | apply below_drew1) | exact HB.out))) : W.heap.size ≤ gr)); clear HB; have HB := n0_; have Br := n1_; have GEr := n2_; clear n0_ n1_ n2_; clear hb hbox hg; have hcr0_r : wr.cell? ⟨gr, 0, none⟩ = some (.int .i64 0) := (blk_cell Br.out 0).trans rfl; have hfr0_r := blk_frozen Br.out 0; have hcr1_r : wr.cell? ⟨gr, 1, none⟩ = some (.int .i64 0) := (blk_cell Br.out 1).trans rfl; have hfr1_r := blk_frozen Br.out 1; have hcr2_r : wr.cell? ⟨gr, 2, none⟩ = some (.int .i64 0) := (blk_cell Br.out 2).trans rfl; have hfr2_r := blk_frozen Br.out 2) | (go_at_call 50; (with_reducible refine (has_nil i _).mono ?_); rintro e w1 ⟨rfl, ⟨k, rfl⟩⟩))
  refine bodyPost_ret (results_cell_row rfl _ _ gr 47 #[.int .i64 0, .int .i64 0, .int .i64 0] (0, 0) _ rfl (by (with_reducible repeat (first | refine blk_drewN ?_ _ | refine blk_drew ?_ | refine blk_alloc ?_ _)); refine blk_put (cs := #[.int .i64 0, .int .i64 0, .int .i64 0]) ?_ 2 _ rfl; (with_reducible repeat (first | refine blk_drewN ?_ _ | refine blk_drew ?_ | refine blk_alloc ?_ _)); refine blk_put (cs := #[.int .i64 0, .int .i64 0, .int .i64 0]) ?_ 1 _ rfl; (with_reducible repeat (first | refine blk_drewN ?_ _ | refine blk_drew ?_ | refine blk_alloc ?_ _)); refine blk_put (cs := #[.int .i64 0, .int .i64 0, .int .i64 0]) ?_ 0 _ rfl; (with_reducible repeat (first | refine blk_drewN ?_ _ | refine blk_drew ?_ | refine blk_alloc ?_ _)); exact Br.out) Try.underlying47 rfl (by kernel_rfl)) rfl ?_
  exact ⟨rfl, (by repeat (first | (with_reducible first | exact HB.out | apply below_alloc | apply pw_below_drewN | apply below_drew1 | refine below_set ?_ GEr.out) | exact HB.out))⟩
theorem peek_empty (e : Nat) (i : Int) (W : World) (h : Empty W e) : Calls Try.prog 39 #[.pointer (some ⟨e, 0, none⟩), .int .i64 i] W fun e w' => e = .returned (wv zero) ∧ Below W.heap.size W w' := by
  have hu := Try.underlying47
  have HE := Aside0.mk h
  clear h
  have HB := Aside0.mk (Below.refl W.heap.size W)
  go_enter Try.func39, Try.ntmps39
  go_wp2_with (first | ((with_reducible refine gate_dst (N := 4) rfl ?_); refine box_event ?hg (N := 4) ?hd (cs := #[.int .i64 0, .int .i64 0, .int .i64 0]) (t := 47) ?hr ?_; (case hd => rfl); (case hg => rfl); (case hr => first | (go_simp; done) | (go_simp; rfl)); intro gr hg wr hbox hb; have n0_ := Aside0.mk (below_step (by repeat (first | (with_reducible first | exact HB.out | apply below_alloc | apply pw_below_drewN | apply below_drew1) | exact HB.out)) hb); have n1_ := Aside0.mk (hbox); have n2_ := Aside0.mk ((by rw [hg]; exact (below_size (by repeat (first | (with_reducible first | exact HB.out | apply below_alloc | apply pw_below_drewN | apply below_drew1) | exact HB.out))) : W.heap.size ≤ gr)); clear HB; have HB := n0_; have Br := n1_; have GEr := n2_; clear n0_ n1_ n2_; clear hb hbox hg; have hcr0_r : wr.cell? ⟨gr, 0, none⟩ = some (.int .i64 0) := (blk_cell Br.out 0).trans rfl; have hfr0_r := blk_frozen Br.out 0; have hcr1_r : wr.cell? ⟨gr, 1, none⟩ = some (.int .i64 0) := (blk_cell Br.out 1).trans rfl; have hfr1_r := blk_frozen Br.out 1; have hcr2_r : wr.cell? ⟨gr, 2, none⟩ = some (.int .i64 0) := (blk_cell Br.out 2).trans rfl; have hfr2_r := blk_frozen Br.out 2) | (go_at_call 50; (with_reducible refine (has_empty e i _ (HE.out.below HB.out)).mono ?_); rintro e w1 ⟨rfl, ⟨k, rfl⟩⟩))
  refine bodyPost_ret (results_cell_row rfl _ _ gr 47 #[.int .i64 0, .int .i64 0, .int .i64 0] (0, 0) _ rfl (by (with_reducible repeat (first | refine blk_drewN ?_ _ | refine blk_drew ?_ | refine blk_alloc ?_ _)); refine blk_put (cs := #[.int .i64 0, .int .i64 0, .int .i64 0]) ?_ 2 _ rfl; (with_reducible repeat (first | refine blk_drewN ?_ _ | refine blk_drew ?_ | refine blk_alloc ?_ _)); refine blk_put (cs := #[.int .i64 0, .int .i64 0, .int .i64 0]) ?_ 1 _ rfl; (with_reducible repeat (first | refine blk_drewN ?_ _ | refine blk_drew ?_ | refine blk_alloc ?_ _)); refine blk_put (cs := #[.int .i64 0, .int .i64 0, .int .i64 0]) ?_ 0 _ rfl; (with_reducible repeat (first | refine blk_drewN ?_ _ | refine blk_drew ?_ | refine blk_alloc ?_ _)); exact Br.out) Try.underlying47 rfl (by kernel_rfl)) rfl ?_
  exact ⟨rfl, (by repeat (first | (with_reducible first | exact HB.out | apply below_alloc | apply pw_below_drewN | apply below_drew1 | refine below_set ?_ GEr.out) | exact HB.out))⟩
theorem peek_out (p g : Nat) (ws : List W3) (n i : Int) (W : World) (h : IsC W p g ws n) (hb : decide (0 ≤ i ∧ i < ws.length) = false) : Calls Try.prog 39 #[.pointer (some ⟨p, 0, none⟩), .int .i64 i] W fun e w' => e = .returned (wv zero) ∧ Below W.heap.size W w' := by
  have hu := Try.underlying47
  have HE := Aside0.mk h
  have HH := Aside0.mk hb
  clear h hb
  have HB := Aside0.mk (Below.refl W.heap.size W)
  go_enter Try.func39, Try.ntmps39
  go_wp2_with (first | ((with_reducible refine gate_dst (N := 4) rfl ?_); refine box_event ?hg (N := 4) ?hd (cs := #[.int .i64 0, .int .i64 0, .int .i64 0]) (t := 47) ?hr ?_; (case hd => rfl); (case hg => rfl); (case hr => first | (go_simp; done) | (go_simp; rfl)); intro gr hg wr hbox hb; have n0_ := Aside0.mk (below_step (by repeat (first | (with_reducible first | exact HB.out | apply below_alloc | apply pw_below_drewN | apply below_drew1) | exact HB.out)) hb); have n1_ := Aside0.mk (hbox); have n2_ := Aside0.mk ((by rw [hg]; exact (below_size (by repeat (first | (with_reducible first | exact HB.out | apply below_alloc | apply pw_below_drewN | apply below_drew1) | exact HB.out))) : W.heap.size ≤ gr)); clear HB; have HB := n0_; have Br := n1_; have GEr := n2_; clear n0_ n1_ n2_; clear hb hbox hg; have hcr0_r : wr.cell? ⟨gr, 0, none⟩ = some (.int .i64 0) := (blk_cell Br.out 0).trans rfl; have hfr0_r := blk_frozen Br.out 0; have hcr1_r : wr.cell? ⟨gr, 1, none⟩ = some (.int .i64 0) := (blk_cell Br.out 1).trans rfl; have hfr1_r := blk_frozen Br.out 1; have hcr2_r : wr.cell? ⟨gr, 2, none⟩ = some (.int .i64 0) := (blk_cell Br.out 2).trans rfl; have hfr2_r := blk_frozen Br.out 2) | (go_at_call 50; (with_reducible refine (has_made p g ws n i false _ (HE.out.below HB.out) HH.out).mono ?_); rintro e w1 ⟨rfl, ⟨k, rfl⟩⟩))
  refine bodyPost_ret (results_cell_row rfl _ _ gr 47 #[.int .i64 0, .int .i64 0, .int .i64 0] (0, 0) _ rfl (by (with_reducible repeat (first | refine blk_drewN ?_ _ | refine blk_drew ?_ | refine blk_alloc ?_ _)); refine blk_put (cs := #[.int .i64 0, .int .i64 0, .int .i64 0]) ?_ 2 _ rfl; (with_reducible repeat (first | refine blk_drewN ?_ _ | refine blk_drew ?_ | refine blk_alloc ?_ _)); refine blk_put (cs := #[.int .i64 0, .int .i64 0, .int .i64 0]) ?_ 1 _ rfl; (with_reducible repeat (first | refine blk_drewN ?_ _ | refine blk_drew ?_ | refine blk_alloc ?_ _)); refine blk_put (cs := #[.int .i64 0, .int .i64 0, .int .i64 0]) ?_ 0 _ rfl; (with_reducible repeat (first | refine blk_drewN ?_ _ | refine blk_drew ?_ | refine blk_alloc ?_ _)); exact Br.out) Try.underlying47 rfl (by kernel_rfl)) rfl ?_
  exact ⟨rfl, (by repeat (first | (with_reducible first | exact HB.out | apply below_alloc | apply pw_below_drewN | apply below_drew1 | refine below_set ?_ GEr.out) | exact HB.out))⟩
theorem peek_in (p g : Nat) (ws : List W3) (n : Int) (j : Nat) (x : W3) (W : World) (h : IsC W p g ws n) (hj : ws[j]? = some x) : Calls Try.prog 39 #[.pointer (some ⟨p, 0, none⟩), .int .i64 (j : Int)] W fun e w' => e = .returned (wv x) ∧ Below W.heap.size W w' := by
  have hu := Try.underlying47
  have hu2 := Try.underlying69
  have hlt := lt_of_get hj
  have hltI : (j : Int) < (ws.length : Int) := by omega
  have HH := Aside0.mk (show decide (0 ≤ (j : Int) ∧ (j : Int) < ws.length) = true from decide_eq_true ⟨by omega, hltI⟩)
  have HE := Aside0.mk h
  have HJ := Aside0.mk hj
  clear h hj
  have HB := Aside0.mk (Below.refl W.heap.size W)
  go_enter Try.func39, Try.ntmps39
  go_wp2_with (first | ((with_reducible refine gate_dst (N := 4) rfl ?_); refine box_event ?hg (N := 4) ?hd (cs := #[.int .i64 0, .int .i64 0, .int .i64 0]) (t := 47) ?hr ?_; (case hd => rfl); (case hg => rfl); (case hr => first | (go_simp; done) | (go_simp; rfl)); intro gr hg wr hbox hb; have n0_ := Aside0.mk (below_step (by repeat (first | (with_reducible first | exact HB.out | apply below_alloc | apply pw_below_drewN | apply below_drew1) | exact HB.out)) hb); have n1_ := Aside0.mk (hbox); have n2_ := Aside0.mk ((by rw [hg]; exact (below_size (by repeat (first | (with_reducible first | exact HB.out | apply below_alloc | apply pw_below_drewN | apply below_drew1) | exact HB.out))) : W.heap.size ≤ gr)); clear HB; have HB := n0_; have Br := n1_; have GEr := n2_; clear n0_ n1_ n2_; clear hb hbox hg; have hcr0_r : wr.cell? ⟨gr, 0, none⟩ = some (.int .i64 0) := (blk_cell Br.out 0).trans rfl; have hfr0_r := blk_frozen Br.out 0; have hcr1_r : wr.cell? ⟨gr, 1, none⟩ = some (.int .i64 0) := (blk_cell Br.out 1).trans rfl; have hfr1_r := blk_frozen Br.out 1; have hcr2_r : wr.cell? ⟨gr, 2, none⟩ = some (.int .i64 0) := (blk_cell Br.out 2).trans rfl; have hfr2_r := blk_frozen Br.out 2; obtain ⟨c0, c1, c2, f1⟩ := (HE.out.below HB.out).c; obtain ⟨d0, d1, d2, -, -, -⟩ := (HE.out.below HB.out).get HJ.out; have hgr : g ≠ gr := Nat.ne_of_lt (Nat.lt_of_lt_of_le (HE.out.lt_g) GEr.out); have hgr' : gr ≠ g := hgr.symm; have hpr : p ≠ gr := Nat.ne_of_lt (Nat.lt_of_lt_of_le (HE.out.lt_p) GEr.out); have hpr' : gr ≠ p := hpr.symm) | (go_at_call 50; (with_reducible refine (has_made p g ws n j true _ (HE.out.below HB.out) HH.out).mono ?_); rintro e w1 ⟨rfl, ⟨k, rfl⟩⟩))
  refine bodyPost_ret (results_cell_row rfl _ _ gr 47 #[.int .i64 x.1, .int .i64 x.2.1, .int .i64 x.2.2] (0, 0) _ rfl (by (with_reducible repeat (first | refine blk_drewN ?_ _ | refine blk_drew ?_ | refine blk_alloc ?_ _)); refine blk_put (cs := #[.int .i64 x.1, .int .i64 x.2.1, .int .i64 0]) ?_ 2 _ rfl; (with_reducible repeat (first | refine blk_drewN ?_ _ | refine blk_drew ?_ | refine blk_alloc ?_ _)); refine blk_put (cs := #[.int .i64 x.1, .int .i64 0, .int .i64 0]) ?_ 1 _ rfl; (with_reducible repeat (first | refine blk_drewN ?_ _ | refine blk_drew ?_ | refine blk_alloc ?_ _)); refine blk_put (cs := #[.int .i64 0, .int .i64 0, .int .i64 0]) ?_ 0 _ rfl; (with_reducible repeat (first | refine blk_drewN ?_ _ | refine blk_drew ?_ | refine blk_alloc ?_ _)); exact Br.out) Try.underlying47 rfl (by kernel_rfl)) rfl ?_
  exact ⟨rfl, (by repeat (first | (with_reducible first | exact HB.out | apply below_alloc | apply pw_below_drewN | apply below_drew1 | refine below_set ?_ GEr.out) | exact HB.out))⟩
theorem count_nil (W : World) : Calls Try.prog 43 #[.pointer none] W fun e w' => e = .returned (.int .i64 0) ∧ Drawn0 W w' := by
  go_enter Try.func43, Try.ntmps43
  go_wp2
  go_ret
  exact ⟨rfl, by repeat (first | exact Drawn0.refl _ | apply Drawn0.step)⟩
theorem count_empty (e : Nat) (W : World) (h : Empty W e) : Calls Try.prog 43 #[.pointer (some ⟨e, 0, none⟩)] W fun e w' => e = .returned (.int .i64 0) ∧ Drawn0 W w' := by
  obtain ⟨c0, c1, c2⟩ := h.c
  have hu := Try.underlying69
  clear h
  go_enter Try.func43, Try.ntmps43
  go_wp2
  go_ret
  exact ⟨rfl, by repeat (first | exact Drawn0.refl _ | apply Drawn0.step)⟩
theorem count_made (p g : Nat) (ws : List W3) (n : Int) (W : World) (h : IsC W p g ws n) : Calls Try.prog 43 #[.pointer (some ⟨p, 0, none⟩)] W fun e w' => e = .returned (.int .i64 n) ∧ Drawn0 W w' := by
  obtain ⟨c0, c1, c2, f1⟩ := h.c
  have hu := Try.underlying69
  clear h
  go_enter Try.func43, Try.ntmps43
  go_wp2
  go_ret
  exact ⟨rfl, by repeat (first | exact Drawn0.refl _ | apply Drawn0.step)⟩


end Go.Proofs.Ytchgkgfhkkffeaa.Ce
