/- The walks of New, and of Load, Swap, Store, Cas of a cell that is there. -/
import Derived.Test.YtchgkgfhkkffeaaCellW3
namespace Go.Proofs.Ytchgkgfhkkffeaa.Ce
open Go.RowKit Go.Proofs.YtchgkgfhkkffeaaW.PrintWords Go.Proofs.YtchgkgfhkkffeaaW.PrintLast Go.Proofs.YtchgkgfhkkffeaaW.PrintMore
set_option linter.unusedVariables false
set_option linter.unusedSimpArgs false

/-- All that lay in W still lies in w, but for the blocks p and g. -/
structure Kept (p g : Nat) (W w : World) : Prop where
  os : w.os = W.os
  tape : w.tape = W.tape
  output : w.output = W.output
  size : W.heap.size ≤ w.heap.size
  block : ∀ k, k < W.heap.size → k ≠ p → k ≠ g → w.heap[k]? = W.heap[k]?
theorem Kept.of_below {p g : Nat} {W w : World} (h : Below W.heap.size W w) : Kept p g W w := ⟨h.os, h.tape, h.output, h.size, fun k hk _ _ => h.block k hk⟩
theorem Kept.refl (p g : Nat) (W : World) : Kept p g W W := Kept.of_below (Below.refl _ _)
theorem Kept.trans {p g : Nat} {W w w' : World} (h : Kept p g W w) (k : Kept p g w w') : Kept p g W w' := ⟨k.os.trans h.os, k.tape.trans h.tape, k.output.trans h.output, Nat.le_trans h.size k.size, fun i hi hp hg => (k.block i (Nat.lt_of_lt_of_le hi h.size) hp hg).trans (h.block i hi hp hg)⟩
theorem Kept.of_step {p g : Nat} {W w w' : World} (h : Kept p g W w) (hb : Below w.heap.size w w') : Kept p g W w' := h.trans (Kept.of_below hb)
theorem Kept.drewN {p g : Nat} {W w : World} (h : Kept p g W w) (k : Nat) : Kept p g W (w.drewN k) := ⟨h.os, h.tape, h.output, h.size, h.block⟩
theorem Kept.drew {p g : Nat} {W w : World} (h : Kept p g W w) : Kept p g W w.drew := ⟨h.os, h.tape, h.output, h.size, h.block⟩
theorem Kept.set {p g : Nat} {W w : World} (h : Kept p g W w) (a : Addr) (u : Value) (ha : a.block = p ∨ a.block = g ∨ W.heap.size ≤ a.block) : Kept p g W (w.setCell a u) :=
  ⟨h.os, h.tape, h.output, by simpa [World.setCell] using h.size, fun k hk hp hg => by
    rw [Below.heap_setCell w a u k (by rcases ha with ha | ha | ha <;> omega)]; exact h.block k hk hp hg⟩
theorem Kept.setp {p g : Nat} {W w : World} (h : Kept p g W w) (j : Nat) (u : Value) : Kept p g W (w.setCell ⟨p, j, none⟩ u) := h.set _ _ (.inl rfl)
theorem Kept.setg {p g : Nat} {W w : World} (h : Kept p g W w) (j : Nat) (u : Value) : Kept p g W (w.setCell ⟨g, j, none⟩ u) := h.set _ _ (.inr (.inl rfl))
theorem Kept.setn {p g b : Nat} {W w : World} (h : Kept p g W w) (hb : W.heap.size ≤ b) (j : Nat) (u : Value) : Kept p g W (w.setCell ⟨b, j, none⟩ u) := h.set _ _ (.inr (.inr hb))
theorem Kept.below {p g : Nat} {W0 W w : World} (h : Kept p g W w) (hb : Below W0.heap.size W0 W) (hp : W0.heap.size ≤ p) (hg : W0.heap.size ≤ g) : Below W0.heap.size W0 w :=
  ⟨h.os.trans hb.os, h.tape.trans hb.tape, h.output.trans hb.output, Nat.le_trans hb.size h.size, fun k hk => (h.block k (Nat.lt_of_lt_of_le hk hb.size) (by omega) (by omega)).trans (hb.block k hk)⟩
theorem Kept.blk {p g b : Nat} {W w : World} {o : Obj} (h : Kept p g W w) (hb : W.heap[b]? = some o) (hp : b ≠ p) (hg : b ≠ g) : w.heap[b]? = some o := (h.block b (blk_lt hb) hp hg).trans hb

theorem IsC.drewN {W : World} {p g : Nat} {ws : List W3} {n : Int} (h : IsC W p g ws n) (k : Nat) : IsC (W.drewN k) p g ws n := ⟨h.ne, h.head, h.row⟩
theorem IsC.drew {W : World} {p g : Nat} {ws : List W3} {n : Int} (h : IsC W p g ws n) : IsC W.drew p g ws n := ⟨h.ne, h.head, h.row⟩
theorem IsC.count {W : World} {p g : Nat} {ws : List W3} {n : Int} (h : IsC W p g ws n) (k : Nat) (m : Int) : IsC ((W.drewN k).setCell ⟨p, 1, none⟩ (.int .i64 m)) p g ws m := by
  obtain ⟨cs, hc, hr⟩ := h.row
  exact ⟨h.ne, blk_put (cs := #[.slice (some ⟨g, 0, none⟩) ws.length ws.length, .int .i64 n, .bool true]) h.head 1 _ rfl, cs, blk_far hc h.ne.symm _, hr⟩
theorem IsC.far {W : World} {p g b : Nat} {ws : List W3} {n : Int} (h : IsC W p g ws n) (hp : b ≠ p) (hg : b ≠ g) (j : Nat) (u : Value) : IsC (W.setCell ⟨b, j, none⟩ u) p g ws n := by
  obtain ⟨cs, hc, hr⟩ := h.row
  exact ⟨h.ne, blk_far h.head hp.symm _, cs, blk_far hc hg.symm _, hr⟩
theorem Row.put {cs : Array Value} {ws : List W3} (h : Row cs ws) (j : Nat) (y : W3) : Row (((cs.setIfInBounds (j * 3) (.int .i64 y.1)).setIfInBounds (j * 3 + 1) (.int .i64 y.2.1)).setIfInBounds (j * 3 + 2) (.int .i64 y.2.2)) (ws.set j y) := by
  refine ⟨by simp [h.1], fun i hi => ?_⟩
  rw [List.length_set] at hi
  obtain ⟨h0, h1, h2⟩ := h.2 i hi
  have hs := h.1
  simp only [Array.getElem?_setIfInBounds, List.getElem_set]
  by_cases e : j = i
  · subst e
    simp [hs]
    omega
  · have a0 : ¬ (j * 3 = i * 3) := by omega
    have a1 : ¬ (j * 3 + 1 = i * 3) := by omega
    have a2 : ¬ (j * 3 + 2 = i * 3) := by omega
    have b0 : ¬ (j * 3 = i * 3 + 1) := by omega
    have b1 : ¬ (j * 3 + 1 = i * 3 + 1) := by omega
    have b2 : ¬ (j * 3 + 2 = i * 3 + 1) := by omega
    have d0 : ¬ (j * 3 = i * 3 + 2) := by omega
    have d1 : ¬ (j * 3 + 1 = i * 3 + 2) := by omega
    have d2 : ¬ (j * 3 + 2 = i * 3 + 2) := by omega
    simp only [a0, a1, a2, b0, b1, b2, d0, d1, d2, e, if_false]
    exact ⟨h0, h1, h2⟩
theorem IsC.put {W : World} {p g : Nat} {ws : List W3} {n : Int} (h : IsC W p g ws n) (j : Nat) (y : W3) : IsC (((W.setCell ⟨g, j * 3, none⟩ (.int .i64 y.1)).setCell ⟨g, j * 3 + 1, none⟩ (.int .i64 y.2.1)).setCell ⟨g, j * 3 + 2, none⟩ (.int .i64 y.2.2)) p g (ws.set j y) n := by
  obtain ⟨cs, hc, hr⟩ := h.row
  refine ⟨h.ne, ?_, _, blk_put (blk_put (blk_put hc _ _ rfl) _ _ rfl) _ _ rfl, hr.put j y⟩
  rw [List.length_set]
  exact blk_far (blk_far (blk_far h.head h.ne _) h.ne _) h.ne _

theorem eqI (d : Nat) (t : TypeId) (a b : Int) (h : t = 35 ∨ t = 3) (W : World) : (Op.equalIn (d + 1) t (.int .i64 a) (.int .i64 b)).run Try.prog W = .ok (a == b) W := by
  rcases h with rfl | rfl <;> simp [Op.equalIn, go_sem]
theorem eq47 (a b : W3) (W : World) : (Op.equalIn 10000 47 (wv a) (wv b)).run Try.prog W = .ok (a.1 == b.1 && (a.2.1 == b.2.1 && a.2.2 == b.2.2)) W := by
  refine eqA_of (d := 9999) Try.underlying47 (by kernel_rfl) ?_
  refine eqf_cons (by decide) (a := .int .i64 a.1) (b := .int .i64 b.1) ?_ ?_ (eqI 9998 35 _ _ (.inl rfl) W) ?_
  · kernel_rfl
  · kernel_rfl
  · refine eqf_cons (by decide) (a := .int .i64 a.2.1) (b := .int .i64 b.2.1) ?_ ?_ (eqI 9998 3 _ _ (.inr rfl) W) ?_
    · kernel_rfl
    · kernel_rfl
    · refine eqf_last (by decide) (a := .int .i64 a.2.2) (b := .int .i64 b.2.2) ?_ ?_ (eqI 9998 3 _ _ (.inr rfl) W)
      · kernel_rfl
      · kernel_rfl
theorem neq47 (a b : W3) (r : Bool) (h : (a.1 == b.1 && (a.2.1 == b.2.1 && a.2.2 == b.2.2)) = !r) (W : World) : (binOp .neq 47 (wv a) (wv b)).run Try.prog W = .ok (.bool r) W := by
  rw [run_neq_struct, eq47, h]
  cases r <;> rfl
theorem eql47 (a b : W3) (r : Bool) (h : (a.1 == b.1 && (a.2.1 == b.2.1 && a.2.2 == b.2.2)) = r) (W : World) : (binOp .eql 47 (wv a) (wv b)).run Try.prog W = .ok (.bool r) W := by
  rw [run_eql_struct, eq47, h]
  rfl
theorem same3 (a : W3) : (a.1 == a.1 && (a.2.1 == a.2.1 && a.2.2 == a.2.2)) = true := by simp

/-- New. -/
theorem new_err (n : Int) (W : World) (h : n < 0 ∨ n > 200) : Calls Try.prog 36 #[.int .i64 n] W fun e w' => e = .returned (.tuple #[.pointer none, .int .i64 2]) ∧ Drawn0 W w' := by
  by_cases h0 : n < 0
  · have d0 : decide (n < 0) = true := decide_eq_true h0
    clear h
    go_enter Try.func36, Try.ntmps36
    go_wp2
    go_ret2
    exact ⟨rfl, by repeat (first | exact Drawn0.refl _ | apply Drawn0.step)⟩
  · have d0 : decide (n < 0) = false := decide_eq_false h0
    have d1 : decide (200 < n) = true := decide_eq_true (by omega)
    clear h
    go_enter Try.func36, Try.ntmps36
    go_wp2
    go_ret2
    exact ⟨rfl, by repeat (first | exact Drawn0.refl _ | apply Drawn0.step)⟩
theorem row_made (n : Nat) : Row (madeCells #[.int .i64 0, .int .i64 0, .int .i64 0] (n * 3)) (List.replicate n zero) := by
  refine ⟨by rw [size_madeCells, List.length_replicate, Nat.mul_comm], fun j hj => ?_⟩
  rw [List.length_replicate] at hj
  simp only [List.getElem_replicate]
  unfold madeCells
  have h0 : j * 3 < n * 3 := by omega
  have h1 : j * 3 + 1 < n * 3 := by omega
  have h2 : j * 3 + 2 < n * 3 := by omega
  have m0 : j * 3 % 3 = 0 := by omega
  have m1 : (j * 3 + 1) % 3 = 1 := by omega
  have m2 : (j * 3 + 2) % 3 = 2 := by omega
  refine ⟨?_, ?_, ?_⟩
  · simp [Array.getElem?_map, Array.getElem?_range, h0, m0]
  · simp [Array.getElem?_map, Array.getElem?_range, h1, m1]
  · simp [Array.getElem?_map, Array.getElem?_range, h2, m2]
theorem new_ok (n : Nat) (W : World) (h : n ≤ 200) : Calls Try.prog 36 #[.int .i64 (n : Int)] W fun e w' => ∃ p g, e = .returned (.tuple #[.pointer (some ⟨p, 0, none⟩), .int .i64 0]) ∧ IsC w' p g (List.replicate n zero) 0 ∧ Below W.heap.size W w' ∧ W.heap.size ≤ p ∧ W.heap.size ≤ g := by
  have d0 : decide ((n : Int) < 0) = false := decide_eq_false (by omega)
  have d1 : decide (200 < (n : Int)) = false := decide_eq_false (by omega)
  obtain ⟨i, hi, hz⟩ := Option.map_eq_some_iff.1 (show (Try.prog.info? 47).map (fun i => (i.zero, i.size, i.bytes)) = some (some (.agg #[.int .i64 0, .int .i64 0, .int .i64 0]), 3, 24) by kernel_rfl)
  simp only [Prod.mk.injEq] at hz
  have hmk : ∀ W : World, (Instr.makeSlice 45 (.int .i64 (n : Int)) (.int .i64 (n : Int))).run Try.prog W = .ok (.slice (some ⟨W.heap.size, 0, none⟩) n n) (W.alloc (.cells (madeCells #[.int .i64 0, .int .i64 0, .int .i64 0] (n * 3)) 47)) := by
    intro W
    have := run_make (P := Try.prog) W 45 47 i _ Try.underlying45 hi hz.1 .i64 .i64 (n : Int) (n : Int) (by omega) (Int.le_refl _) (by rw [hz.2.2]; omega) (by omega)
    rw [hz.2.1] at this
    simpa [Value.cells] using this
  have HR := Aside0.mk (row_made n)
  clear h hz
  generalize madeCells #[.int .i64 0, .int .i64 0, .int .i64 0] (n * 3) = cs at hmk HR
  go_enter Try.func36, Try.ntmps36
  go_wp2
  go_ret2
  refine ⟨_, W.heap.size, rfl, ⟨?_, ?_, cs, ?_, HR.out⟩, below_alloc (below_alloc (Below.refl _ _) _) _, by simp, Nat.le_refl _⟩
  · simp
  · rw [List.length_replicate]; exact (show (W.alloc (.cells cs 47)).heap.size = W.heap.size + 1 by simp) ▸ heap_alloc_new _ _
  · exact blk_alloc (heap_alloc_new _ _) _

set_option maxHeartbeats 1000000 in
theorem load_in (p g : Nat) (ws : List W3) (n : Int) (j : Nat) (x : W3) (W : World) (h : IsC W p g ws n) (hj : ws[j]? = some x) : Calls Try.prog 44 #[.pointer (some ⟨p, 0, none⟩), .int .i64 (j : Int)] W fun e w' => e = .returned (.tuple #[wv x, .int .i64 0]) ∧ IsC w' p g ws (wrap64 (n + 1)) ∧ Kept p g W w' := by
  have hu := Try.underlying47
  have hu2 := Try.underlying69
  have hlt := lt_of_get hj
  have hltI : (j : Int) < (ws.length : Int) := by omega
  have HH := Aside0.mk (show decide (0 ≤ (j : Int) ∧ (j : Int) < ws.length) = true from decide_eq_true ⟨by omega, hltI⟩)
  have HE := Aside0.mk h
  have HJ := Aside0.mk hj
  clear h hj
  have HB := Aside0.mk (Below.refl W.heap.size W)
  unfold wv
  go_enter Try.func44, Try.ntmps44
  go_upto_region 2 with (first | ((with_reducible refine gate_dst (N := 4) rfl ?_); refine box_event ?hg (N := 4) ?hd (cs := #[.int .i64 0, .int .i64 0, .int .i64 0]) (t := 47) ?hr ?_; (case hd => rfl); (case hg => rfl); (case hr => first | (go_simp; done) | (go_simp; rfl)); intro gr hg wr hbox hb; have n0_ := Aside0.mk (below_step (by repeat (first | (with_reducible first | exact HB.out | apply below_alloc | apply pw_below_drewN | apply below_drew1) | exact HB.out)) hb); have n1_ := Aside0.mk (hbox); have n2_ := Aside0.mk ((by rw [hg]; exact (below_size (by repeat (first | (with_reducible first | exact HB.out | apply below_alloc | apply pw_below_drewN | apply below_drew1) | exact HB.out))) : W.heap.size ≤ gr)); clear HB; have HB := n0_; have Br := n1_; have GEr := n2_; clear n0_ n1_ n2_; clear hb hbox hg; have hcr0_r : wr.cell? ⟨gr, 0, none⟩ = some (.int .i64 0) := (blk_cell Br.out 0).trans rfl; have hfr0_r := blk_frozen Br.out 0; have hcr1_r : wr.cell? ⟨gr, 1, none⟩ = some (.int .i64 0) := (blk_cell Br.out 1).trans rfl; have hfr1_r := blk_frozen Br.out 1; have hcr2_r : wr.cell? ⟨gr, 2, none⟩ = some (.int .i64 0) := (blk_cell Br.out 2).trans rfl; have hfr2_r := blk_frozen Br.out 2) | (go_at_call 49; (with_reducible refine (access_in p g ws n j _ (HE.out.below HB.out) HH.out).mono ?_); rintro e w1 ⟨rfl, ⟨k, rfl⟩⟩))
  (try simp only [Act.put, List.setIfInBounds_toArray, List.set_cons_zero, List.set_cons_succ])
  have Nrp : gr ≠ p := (Nat.ne_of_lt (Nat.lt_of_lt_of_le HE.out.lt_p GEr.out)).symm; have Nrg : gr ≠ g := (Nat.ne_of_lt (Nat.lt_of_lt_of_le HE.out.lt_g GEr.out)).symm
  obtain ⟨w2, hw⟩ : ∃ w, w = (wr.drewN k).setCell ⟨p, 1, none⟩ (.int .i64 (wrap64 (n + 1))) := ⟨_, rfl⟩
  rw [← hw]
  have nr_ : Aside0 (w2.heap[gr]? = some (.cells #[.int .i64 0, .int .i64 0, .int .i64 0] 47 (0, 0))) := ⟨by rw [hw]; refine blk_far ?_ Nrp _; (with_reducible repeat (first | refine blk_drewN ?_ _ | refine blk_drew ?_ | refine blk_alloc ?_ _)); exact Br.out⟩
  have nI_ : Aside0 (IsC w2 p g ws (wrap64 (n + 1))) := ⟨by rw [hw]; exact IsC.count (HE.out.below HB.out) _ _⟩
  have nK_ : Aside0 (Kept p g W w2) := ⟨by rw [hw]; exact Kept.setp (Kept.drewN (Kept.of_below HB.out) _) _ _⟩
  clear hw Br HB hcr0_r hfr0_r hcr1_r hfr1_r hcr2_r hfr2_r
  have Br := nr_; have HI := nI_; have HK := nK_; clear nr_ nI_ nK_
  go_wp2_with (go_at_call 39; (with_reducible refine (peek_in p g ws _ j x _ HI.out HJ.out).mono ?_); rintro e w3 ⟨rfl, hb⟩; unfold wv; have HB3 := Aside0.mk hb; have Br3 := Aside0.mk (blk_below (g := gr) (o := .cells #[.int .i64 0, .int .i64 0, .int .i64 0] 47 (0, 0)) Br.out hb); clear hb Br; have Br := Br3; clear Br3; have hcr0_3 : w3.cell? ⟨gr, 0, none⟩ = some (.int .i64 0) := (blk_cell Br.out 0).trans rfl; have hfr0_3 := blk_frozen Br.out 0; have hcr1_3 : w3.cell? ⟨gr, 1, none⟩ = some (.int .i64 0) := (blk_cell Br.out 1).trans rfl; have hfr1_3 := blk_frozen Br.out 1; have hcr2_3 : w3.cell? ⟨gr, 2, none⟩ = some (.int .i64 0) := (blk_cell Br.out 2).trans rfl; have hfr2_3 := blk_frozen Br.out 2)
  refine bodyPost_ret (results_ct rfl _ _ gr 47 #[.int .i64 x.1, .int .i64 x.2.1, .int .i64 x.2.2] (0, 0) _ rfl (by (with_reducible repeat (first | refine blk_drewN ?_ _ | refine blk_drew ?_ | refine blk_alloc ?_ _)); refine blk_put (cs := #[.int .i64 x.1, .int .i64 x.2.1, .int .i64 0]) ?_ 2 _ rfl; (with_reducible repeat (first | refine blk_drewN ?_ _ | refine blk_drew ?_ | refine blk_alloc ?_ _)); refine blk_put (cs := #[.int .i64 x.1, .int .i64 0, .int .i64 0]) ?_ 1 _ rfl; (with_reducible repeat (first | refine blk_drewN ?_ _ | refine blk_drew ?_ | refine blk_alloc ?_ _)); refine blk_put (cs := #[.int .i64 0, .int .i64 0, .int .i64 0]) ?_ 0 _ rfl; (with_reducible repeat (first | refine blk_drewN ?_ _ | refine blk_drew ?_ | refine blk_alloc ?_ _)); exact Br.out) Try.underlying47 rfl (by kernel_rfl)) rfl ?_
  exact ⟨rfl, IsC.far (IsC.far (IsC.far (HI.out.below HB3.out) Nrp Nrg _ _) Nrp Nrg _ _) Nrp Nrg _ _, Kept.setn (Kept.setn (Kept.setn (Kept.of_step HK.out HB3.out) GEr.out _ _) GEr.out _ _) GEr.out _ _⟩
set_option maxHeartbeats 2000000 in
theorem swap_in (p g : Nat) (ws : List W3) (n : Int) (j : Nat) (x y : W3) (W : World) (h : IsC W p g ws n) (hj : ws[j]? = some x) : Calls Try.prog 45 #[.pointer (some ⟨p, 0, none⟩), .int .i64 (j : Int), wv y] W fun e w' => e = .returned (.tuple #[wv x, .int .i64 0]) ∧ IsC w' p g (ws.set j y) (wrap64 (n + 1)) ∧ Kept p g W w' := by
  have hu := Try.underlying47
  have hu2 := Try.underlying69
  have hlt := lt_of_get hj
  have hltI : (j : Int) < (ws.length : Int) := by omega
  have HH := Aside0.mk (show decide (0 ≤ (j : Int) ∧ (j : Int) < ws.length) = true from decide_eq_true ⟨by omega, hltI⟩)
  have HE := Aside0.mk h
  have HJ := Aside0.mk hj
  clear h hj
  have HB := Aside0.mk (Below.refl W.heap.size W)
  unfold wv
  go_enter Try.func45, Try.ntmps45
  go_upto_region 2 with (first | ((with_reducible refine gate_dst (N := 5) rfl ?_); refine box_event ?hg (N := 5) ?hd (cs := #[.int .i64 y.1, .int .i64 y.2.1, .int .i64 y.2.2]) (t := 47) ?hr ?_; (case hd => rfl); (case hg => rfl); (case hr => first | (go_simp; done) | (go_simp; rfl)); intro gy hg wy hbox hb; have n0_ := Aside0.mk (below_step (by repeat (first | (with_reducible first | exact HB.out | apply below_alloc | apply pw_below_drewN | apply below_drew1) | exact HB.out)) hb); have n1_ := Aside0.mk (hbox); have n2_ := Aside0.mk ((by rw [hg]; exact (below_size (by repeat (first | (with_reducible first | exact HB.out | apply below_alloc | apply pw_below_drewN | apply below_drew1) | exact HB.out))) : W.heap.size ≤ gy)); clear HB; have HB := n0_; have By := n1_; have GEy := n2_; clear n0_ n1_ n2_; clear hb hbox hg; have hcy0_y : wy.cell? ⟨gy, 0, none⟩ = some (.int .i64 y.1) := (blk_cell By.out 0).trans rfl; have hfy0_y := blk_frozen By.out 0; have hcy1_y : wy.cell? ⟨gy, 1, none⟩ = some (.int .i64 y.2.1) := (blk_cell By.out 1).trans rfl; have hfy1_y := blk_frozen By.out 1; have hcy2_y : wy.cell? ⟨gy, 2, none⟩ = some (.int .i64 y.2.2) := (blk_cell By.out 2).trans rfl; have hfy2_y := blk_frozen By.out 2) | ((with_reducible refine gate_dst (N := 6) rfl ?_); refine box_event ?hg (N := 6) ?hd (cs := #[.int .i64 0, .int .i64 0, .int .i64 0]) (t := 47) ?hr ?_; (case hd => rfl); (case hg => rfl); (case hr => first | (go_simp; done) | (go_simp; rfl)); intro gr hg wr hbox hb; have n0_ := Aside0.mk (below_step (by repeat (first | (with_reducible first | exact HB.out | apply below_alloc | apply pw_below_drewN | apply below_drew1) | exact HB.out)) hb); have n1_ := Aside0.mk (hbox); have n2_ := Aside0.mk ((by rw [hg]; exact (below_size (by repeat (first | (with_reducible first | exact HB.out | apply below_alloc | apply pw_below_drewN | apply below_drew1) | exact HB.out))) : W.heap.size ≤ gr)); have n3_ := Aside0.mk (blk_below (g := gy) (o := .cells #[.int .i64 y.1, .int .i64 y.2.1, .int .i64 y.2.2] 47 (0, 0)) (by (with_reducible repeat (first | refine blk_drewN ?_ _ | refine blk_drew ?_ | refine blk_alloc ?_ _)); exact By.out) hb); have n4_ := Aside0.mk ((by rw [hg]; exact Nat.ne_of_lt (blk_lt (g := gy) (o := .cells #[.int .i64 y.1, .int .i64 y.2.1, .int .i64 y.2.2] 47 (0, 0)) (by (with_reducible repeat (first | refine blk_drewN ?_ _ | refine blk_drew ?_ | refine blk_alloc ?_ _)); exact By.out)) : gy ≠ gr)); have n5_ := Aside0.mk ((by rw [hg]; exact Nat.ne_of_gt (blk_lt (g := gy) (o := .cells #[.int .i64 y.1, .int .i64 y.2.1, .int .i64 y.2.2] 47 (0, 0)) (by (with_reducible repeat (first | refine blk_drewN ?_ _ | refine blk_drew ?_ | refine blk_alloc ?_ _)); exact By.out)) : gr ≠ gy)); clear HB; clear By; have HB := n0_; have Br := n1_; have GEr := n2_; have By := n3_; have Nyr := n4_; have Nry := n5_; clear n0_ n1_ n2_ n3_ n4_ n5_; clear hb hbox hg; have hcr0_r : wr.cell? ⟨gr, 0, none⟩ = some (.int .i64 0) := (blk_cell Br.out 0).trans rfl; have hfr0_r := blk_frozen Br.out 0; have hcr1_r : wr.cell? ⟨gr, 1, none⟩ = some (.int .i64 0) := (blk_cell Br.out 1).trans rfl; have hfr1_r := blk_frozen Br.out 1; have hcr2_r : wr.cell? ⟨gr, 2, none⟩ = some (.int .i64 0) := (blk_cell Br.out 2).trans rfl; have hfr2_r := blk_frozen Br.out 2; have hcy0_r : wr.cell? ⟨gy, 0, none⟩ = some (.int .i64 y.1) := (blk_cell By.out 0).trans rfl; have hfy0_r := blk_frozen By.out 0; have hcy1_r : wr.cell? ⟨gy, 1, none⟩ = some (.int .i64 y.2.1) := (blk_cell By.out 1).trans rfl; have hfy1_r := blk_frozen By.out 1; have hcy2_r : wr.cell? ⟨gy, 2, none⟩ = some (.int .i64 y.2.2) := (blk_cell By.out 2).trans rfl; have hfy2_r := blk_frozen By.out 2; have hnyr := Nyr.out; have hmyr := Nry.out) | (go_at_call 49; (with_reducible refine (access_in p g ws n j _ (HE.out.below HB.out) HH.out).mono ?_); rintro e w1 ⟨rfl, ⟨k, rfl⟩⟩))
  (try simp only [Act.put, List.setIfInBounds_toArray, List.set_cons_zero, List.set_cons_succ])
  have Nrp : gr ≠ p := (Nat.ne_of_lt (Nat.lt_of_lt_of_le HE.out.lt_p GEr.out)).symm; have Nrg : gr ≠ g := (Nat.ne_of_lt (Nat.lt_of_lt_of_le HE.out.lt_g GEr.out)).symm
  have Nyp : gy ≠ p := (Nat.ne_of_lt (Nat.lt_of_lt_of_le HE.out.lt_p GEy.out)).symm; have Nyg : gy ≠ g := (Nat.ne_of_lt (Nat.lt_of_lt_of_le HE.out.lt_g GEy.out)).symm
  obtain ⟨w2, hw⟩ : ∃ w, w = (wr.drewN k).setCell ⟨p, 1, none⟩ (.int .i64 (wrap64 (n + 1))) := ⟨_, rfl⟩
  rw [← hw]
  have nr_ : Aside0 (w2.heap[gr]? = some (.cells #[.int .i64 0, .int .i64 0, .int .i64 0] 47 (0, 0))) := ⟨by rw [hw]; refine blk_far ?_ Nrp _; (with_reducible repeat (first | refine blk_drewN ?_ _ | refine blk_drew ?_ | refine blk_alloc ?_ _)); exact Br.out⟩
  have ny_ : Aside0 (w2.heap[gy]? = some (.cells #[.int .i64 y.1, .int .i64 y.2.1, .int .i64 y.2.2] 47 (0, 0))) := ⟨by rw [hw]; refine blk_far ?_ Nyp _; (with_reducible repeat (first | refine blk_drewN ?_ _ | refine blk_drew ?_ | refine blk_alloc ?_ _)); exact By.out⟩
  have nI_ : Aside0 (IsC w2 p g ws (wrap64 (n + 1))) := ⟨by rw [hw]; exact IsC.count (HE.out.below HB.out) _ _⟩
  have nK_ : Aside0 (Kept p g W w2) := ⟨by rw [hw]; exact Kept.setp (Kept.drewN (Kept.of_below HB.out) _) _ _⟩
  clear hw Br By HB hcr0_r hfr0_r hcy0_y hfy0_y hcy0_r hfy0_r hcr1_r hfr1_r hcy1_y hfy1_y hcy1_r hfy1_r hcr2_r hfr2_r hcy2_y hfy2_y hcy2_r hfy2_r
  have Br := nr_; have By := ny_; have HI := nI_; have HK := nK_; clear nr_ ny_ nI_ nK_
  obtain ⟨c0, c1, c2, f1⟩ := HI.out.c
  obtain ⟨d0, d1, d2, e0, e1, e2⟩ := HI.out.get HJ.out
  have HKsize := Aside0.mk HK.out.size
  go_upto_region 5 with (first | ((with_reducible refine gate_dst (N := 9) rfl ?_); refine box_event ?hg (N := 9) ?hd (cs := #[.int .i64 0, .int .i64 0, .int .i64 0]) (t := 47) ?hr ?_; (case hd => rfl); (case hg => rfl); (case hr => first | (go_simp; done) | (go_simp; rfl)); intro gt hg wt hbox hb; have n0_ := Aside0.mk (hb); have n1_ := Aside0.mk (hbox); have n2_ := Aside0.mk ((by rw [hg]; exact Nat.le_refl _ : w2.heap.size ≤ gt)); have n3_ := Aside0.mk (blk_below (g := gr) (o := .cells #[.int .i64 0, .int .i64 0, .int .i64 0] 47 (0, 0)) (by (with_reducible repeat (first | refine blk_drewN ?_ _ | refine blk_drew ?_ | refine blk_alloc ?_ _)); exact Br.out) hb); have n4_ := Aside0.mk ((by rw [hg]; exact Nat.ne_of_lt (blk_lt (g := gr) (o := .cells #[.int .i64 0, .int .i64 0, .int .i64 0] 47 (0, 0)) (by (with_reducible repeat (first | refine blk_drewN ?_ _ | refine blk_drew ?_ | refine blk_alloc ?_ _)); exact Br.out)) : gr ≠ gt)); have n5_ := Aside0.mk ((by rw [hg]; exact Nat.ne_of_gt (blk_lt (g := gr) (o := .cells #[.int .i64 0, .int .i64 0, .int .i64 0] 47 (0, 0)) (by (with_reducible repeat (first | refine blk_drewN ?_ _ | refine blk_drew ?_ | refine blk_alloc ?_ _)); exact Br.out)) : gt ≠ gr)); have n6_ := Aside0.mk (blk_below (g := gy) (o := .cells #[.int .i64 y.1, .int .i64 y.2.1, .int .i64 y.2.2] 47 (0, 0)) (by (with_reducible repeat (first | refine blk_drewN ?_ _ | refine blk_drew ?_ | refine blk_alloc ?_ _)); exact By.out) hb); have n7_ := Aside0.mk ((by rw [hg]; exact Nat.ne_of_lt (blk_lt (g := gy) (o := .cells #[.int .i64 y.1, .int .i64 y.2.1, .int .i64 y.2.2] 47 (0, 0)) (by (with_reducible repeat (first | refine blk_drewN ?_ _ | refine blk_drew ?_ | refine blk_alloc ?_ _)); exact By.out)) : gy ≠ gt)); have n8_ := Aside0.mk ((by rw [hg]; exact Nat.ne_of_gt (blk_lt (g := gy) (o := .cells #[.int .i64 y.1, .int .i64 y.2.1, .int .i64 y.2.2] 47 (0, 0)) (by (with_reducible repeat (first | refine blk_drewN ?_ _ | refine blk_drew ?_ | refine blk_alloc ?_ _)); exact By.out)) : gt ≠ gy)); clear Br; clear By; have HB := n0_; have Bt := n1_; have GEt := n2_; have Br := n3_; have Nrt := n4_; have Ntr := n5_; have By := n6_; have Nyt := n7_; have Nty := n8_; clear n0_ n1_ n2_ n3_ n4_ n5_ n6_ n7_ n8_; clear hb hbox hg; have HIt := Aside0.mk (HI.out.below HB.out); clear HI; have HI := HIt; clear HIt; have hKt := Aside0.mk (Kept.of_step HK.out HB.out); clear HK; have HK := hKt; clear hKt; have hct0_t : wt.cell? ⟨gt, 0, none⟩ = some (.int .i64 0) := (blk_cell Bt.out 0).trans rfl; have hft0_t := blk_frozen Bt.out 0; have hct1_t : wt.cell? ⟨gt, 1, none⟩ = some (.int .i64 0) := (blk_cell Bt.out 1).trans rfl; have hft1_t := blk_frozen Bt.out 1; have hct2_t : wt.cell? ⟨gt, 2, none⟩ = some (.int .i64 0) := (blk_cell Bt.out 2).trans rfl; have hft2_t := blk_frozen Bt.out 2))
  (try simp only [Act.put, List.setIfInBounds_toArray, List.set_cons_zero, List.set_cons_succ])
  have Ntp : gt ≠ p := (Nat.ne_of_lt (Nat.lt_of_lt_of_le (Nat.lt_of_lt_of_le HE.out.lt_p HKsize.out) GEt.out)).symm; have Ntg : gt ≠ g := (Nat.ne_of_lt (Nat.lt_of_lt_of_le (Nat.lt_of_lt_of_le HE.out.lt_g HKsize.out) GEt.out)).symm; have GWt : W.heap.size ≤ gt := Nat.le_trans HKsize.out GEt.out
  obtain ⟨w5, hw⟩ : ∃ w, w = ((wt.setCell ⟨gt, 0, none⟩ (.int .i64 x.1)).setCell ⟨gt, 1, none⟩ (.int .i64 x.2.1)).setCell ⟨gt, 2, none⟩ (.int .i64 x.2.2) := ⟨_, rfl⟩
  rw [← hw]
  have nr_ : Aside0 (w5.heap[gr]? = some (.cells #[.int .i64 0, .int .i64 0, .int .i64 0] 47 (0, 0))) := ⟨by rw [hw]; refine blk_far ?_ Nrt.out _; (with_reducible repeat (first | refine blk_drewN ?_ _ | refine blk_drew ?_ | refine blk_alloc ?_ _)); refine blk_far ?_ Nrt.out _; (with_reducible repeat (first | refine blk_drewN ?_ _ | refine blk_drew ?_ | refine blk_alloc ?_ _)); refine blk_far ?_ Nrt.out _; (with_reducible repeat (first | refine blk_drewN ?_ _ | refine blk_drew ?_ | refine blk_alloc ?_ _)); exact Br.out⟩
  have ny_ : Aside0 (w5.heap[gy]? = some (.cells #[.int .i64 y.1, .int .i64 y.2.1, .int .i64 y.2.2] 47 (0, 0))) := ⟨by rw [hw]; refine blk_far ?_ Nyt.out _; (with_reducible repeat (first | refine blk_drewN ?_ _ | refine blk_drew ?_ | refine blk_alloc ?_ _)); refine blk_far ?_ Nyt.out _; (with_reducible repeat (first | refine blk_drewN ?_ _ | refine blk_drew ?_ | refine blk_alloc ?_ _)); refine blk_far ?_ Nyt.out _; (with_reducible repeat (first | refine blk_drewN ?_ _ | refine blk_drew ?_ | refine blk_alloc ?_ _)); exact By.out⟩
  have nt_ : Aside0 (w5.heap[gt]? = some (.cells #[.int .i64 x.1, .int .i64 x.2.1, .int .i64 x.2.2] 47 (0, 0))) := ⟨by rw [hw]; refine blk_put (cs := #[.int .i64 x.1, .int .i64 x.2.1, .int .i64 0]) ?_ 2 _ rfl; (with_reducible repeat (first | refine blk_drewN ?_ _ | refine blk_drew ?_ | refine blk_alloc ?_ _)); refine blk_put (cs := #[.int .i64 x.1, .int .i64 0, .int .i64 0]) ?_ 1 _ rfl; (with_reducible repeat (first | refine blk_drewN ?_ _ | refine blk_drew ?_ | refine blk_alloc ?_ _)); refine blk_put (cs := #[.int .i64 0, .int .i64 0, .int .i64 0]) ?_ 0 _ rfl; (with_reducible repeat (first | refine blk_drewN ?_ _ | refine blk_drew ?_ | refine blk_alloc ?_ _)); exact Bt.out⟩
  have nI_ : Aside0 (IsC w5 p g ws (wrap64 (n + 1))) := ⟨by rw [hw]; exact IsC.far (IsC.far (IsC.far HI.out Ntp Ntg _ _) Ntp Ntg _ _) Ntp Ntg _ _⟩
  have nK_ : Aside0 (Kept p g W w5) := ⟨by rw [hw]; exact Kept.setn (Kept.setn (Kept.setn HK.out GWt _ _) GWt _ _) GWt _ _⟩
  clear hw Br By Bt HB HI HK c0 c1 c2 f1 d0 d1 d2 e0 e1 e2 hct0_t hft0_t hct1_t hft1_t hct2_t hft2_t
  have Br := nr_; have By := ny_; have Bt := nt_; have HI := nI_; have HK := nK_; clear nr_ ny_ nt_ nI_ nK_
  have hcy0_w5 : w5.cell? ⟨gy, 0, none⟩ = some (.int .i64 y.1) := (blk_cell By.out 0).trans rfl
  have hfy0_w5 := blk_frozen By.out 0
  have hcy1_w5 : w5.cell? ⟨gy, 1, none⟩ = some (.int .i64 y.2.1) := (blk_cell By.out 1).trans rfl
  have hfy1_w5 := blk_frozen By.out 1
  have hcy2_w5 : w5.cell? ⟨gy, 2, none⟩ = some (.int .i64 y.2.2) := (blk_cell By.out 2).trans rfl
  have hfy2_w5 := blk_frozen By.out 2
  have hct0_w5 : w5.cell? ⟨gt, 0, none⟩ = some (.int .i64 x.1) := (blk_cell Bt.out 0).trans rfl
  have hft0_w5 := blk_frozen Bt.out 0
  have hct1_w5 : w5.cell? ⟨gt, 1, none⟩ = some (.int .i64 x.2.1) := (blk_cell Bt.out 1).trans rfl
  have hft1_w5 := blk_frozen Bt.out 1
  have hct2_w5 : w5.cell? ⟨gt, 2, none⟩ = some (.int .i64 x.2.2) := (blk_cell Bt.out 2).trans rfl
  have hft2_w5 := blk_frozen Bt.out 2
  have hcr0_w5 : w5.cell? ⟨gr, 0, none⟩ = some (.int .i64 0) := (blk_cell Br.out 0).trans rfl
  have hfr0_w5 := blk_frozen Br.out 0
  have hcr1_w5 : w5.cell? ⟨gr, 1, none⟩ = some (.int .i64 0) := (blk_cell Br.out 1).trans rfl
  have hfr1_w5 := blk_frozen Br.out 1
  have hcr2_w5 : w5.cell? ⟨gr, 2, none⟩ = some (.int .i64 0) := (blk_cell Br.out 2).trans rfl
  have hfr2_w5 := blk_frozen Br.out 2
  obtain ⟨c0, c1, c2, f1⟩ := HI.out.c
  obtain ⟨d0, d1, d2, e0, e1, e2⟩ := HI.out.get HJ.out
  have hgy := Nyg; have hgy' := Nyg.symm; have hgt := Ntg; have hgt' := Ntg.symm; have hgr := Nrg; have hgr' := Nrg.symm; have htr := Ntr.out; have hrt := Nrt.out
  go_region
  all_goals go_wp2
  refine bodyPost_ret (results_ct rfl _ _ gr 47 #[.int .i64 x.1, .int .i64 x.2.1, .int .i64 x.2.2] (0, 0) _ rfl (by (with_reducible repeat (first | refine blk_drewN ?_ _ | refine blk_drew ?_ | refine blk_alloc ?_ _)); refine blk_put (cs := #[.int .i64 x.1, .int .i64 x.2.1, .int .i64 0]) ?_ 2 _ rfl; (with_reducible repeat (first | refine blk_drewN ?_ _ | refine blk_drew ?_ | refine blk_alloc ?_ _)); refine blk_put (cs := #[.int .i64 x.1, .int .i64 0, .int .i64 0]) ?_ 1 _ rfl; (with_reducible repeat (first | refine blk_drewN ?_ _ | refine blk_drew ?_ | refine blk_alloc ?_ _)); refine blk_put (cs := #[.int .i64 0, .int .i64 0, .int .i64 0]) ?_ 0 _ rfl; (with_reducible repeat (first | refine blk_drewN ?_ _ | refine blk_drew ?_ | refine blk_alloc ?_ _)); refine blk_far ?_ Nrg _; (with_reducible repeat (first | refine blk_drewN ?_ _ | refine blk_drew ?_ | refine blk_alloc ?_ _)); refine blk_far ?_ Nrg _; (with_reducible repeat (first | refine blk_drewN ?_ _ | refine blk_drew ?_ | refine blk_alloc ?_ _)); refine blk_far ?_ Nrg _; (with_reducible repeat (first | refine blk_drewN ?_ _ | refine blk_drew ?_ | refine blk_alloc ?_ _)); exact Br.out) Try.underlying47 rfl (by kernel_rfl)) rfl ?_
  exact ⟨rfl, IsC.drew (IsC.far (IsC.far (IsC.far (IsC.put HI.out j y) Nrp Nrg _ _) Nrp Nrg _ _) Nrp Nrg _ _), Kept.drew (Kept.setn (Kept.setn (Kept.setn (Kept.setg (Kept.setg (Kept.setg (HK.out) _ _) _ _) _ _) GEr.out _ _) GEr.out _ _) GEr.out _ _)⟩
set_option maxHeartbeats 1000000 in
theorem store_in (p g : Nat) (ws : List W3) (n : Int) (j : Nat) (x y : W3) (W : World) (h : IsC W p g ws n) (hj : ws[j]? = some x) : Calls Try.prog 37 #[.pointer (some ⟨p, 0, none⟩), .int .i64 (j : Int), wv y] W fun e w' => e = .returned (.int .i64 0) ∧ IsC w' p g (ws.set j y) (wrap64 (n + 1)) ∧ Kept p g W w' := by
  have hu := Try.underlying47
  have hu2 := Try.underlying69
  have hlt := lt_of_get hj
  have hltI : (j : Int) < (ws.length : Int) := by omega
  have HH := Aside0.mk (show decide (0 ≤ (j : Int) ∧ (j : Int) < ws.length) = true from decide_eq_true ⟨by omega, hltI⟩)
  have HE := Aside0.mk h
  have HJ := Aside0.mk hj
  clear h hj
  have HB := Aside0.mk (Below.refl W.heap.size W)
  unfold wv
  go_enter Try.func37, Try.ntmps37
  go_wp2_with (first | ((with_reducible refine gate_dst (N := 5) rfl ?_); refine box_event ?hg (N := 5) ?hd (cs := #[.int .i64 y.1, .int .i64 y.2.1, .int .i64 y.2.2]) (t := 47) ?hr ?_; (case hd => rfl); (case hg => rfl); (case hr => first | (go_simp; done) | (go_simp; rfl)); intro gy hg wy hbox hb; have n0_ := Aside0.mk (below_step (by repeat (first | (with_reducible first | exact HB.out | apply below_alloc | apply pw_below_drewN | apply below_drew1) | exact HB.out)) hb); have n1_ := Aside0.mk (hbox); have n2_ := Aside0.mk ((by rw [hg]; exact (below_size (by repeat (first | (with_reducible first | exact HB.out | apply below_alloc | apply pw_below_drewN | apply below_drew1) | exact HB.out))) : W.heap.size ≤ gy)); clear HB; have HB := n0_; have By := n1_; have GEy := n2_; clear n0_ n1_ n2_; clear hb hbox hg; have hcy0_y : wy.cell? ⟨gy, 0, none⟩ = some (.int .i64 y.1) := (blk_cell By.out 0).trans rfl; have hfy0_y := blk_frozen By.out 0; have hcy1_y : wy.cell? ⟨gy, 1, none⟩ = some (.int .i64 y.2.1) := (blk_cell By.out 1).trans rfl; have hfy1_y := blk_frozen By.out 1; have hcy2_y : wy.cell? ⟨gy, 2, none⟩ = some (.int .i64 y.2.2) := (blk_cell By.out 2).trans rfl; have hfy2_y := blk_frozen By.out 2) | (go_at_call 45; (with_reducible refine (swap_in p g ws n j x y _ (HE.out.below HB.out) HJ.out).mono ?_); rintro e w2 ⟨rfl, hi, hk⟩; have HI := Aside0.mk hi; have HK := Aside0.mk (Kept.trans (Kept.of_below HB.out) hk); clear hi hk HB) | ((with_reducible refine gate_dst (N := 7) rfl ?_); refine box_event ?hg (N := 7) ?hd (cs := #[.int .i64 0, .int .i64 0, .int .i64 0]) (t := 47) ?hr ?_; (case hd => rfl); (case hg => rfl); (case hr => first | (go_simp; done) | (go_simp; rfl)); intro gq hg wq hbox hb; have n0_ := Aside0.mk (hb); have n1_ := Aside0.mk (hbox); have n2_ := Aside0.mk ((by rw [hg]; exact Nat.le_refl _ : w2.heap.size ≤ gq)); have HB := n0_; have Bq := n1_; have GEq := n2_; clear n0_ n1_ n2_; clear hb hbox hg; have HIt := Aside0.mk (HI.out.below HB.out); have Nqp : gq ≠ p := (Nat.ne_of_lt (Nat.lt_of_lt_of_le HI.out.lt_p GEq.out)).symm; have Nqg : gq ≠ g := (Nat.ne_of_lt (Nat.lt_of_lt_of_le HI.out.lt_g GEq.out)).symm; have GWq : W.heap.size ≤ gq := Nat.le_trans HK.out.size GEq.out; have hKt := Aside0.mk (Kept.of_step HK.out HB.out); have hcq0_q : wq.cell? ⟨gq, 0, none⟩ = some (.int .i64 0) := (blk_cell Bq.out 0).trans rfl; have hfq0_q := blk_frozen Bq.out 0; have hcq1_q : wq.cell? ⟨gq, 1, none⟩ = some (.int .i64 0) := (blk_cell Bq.out 1).trans rfl; have hfq1_q := blk_frozen Bq.out 1; have hcq2_q : wq.cell? ⟨gq, 2, none⟩ = some (.int .i64 0) := (blk_cell Bq.out 2).trans rfl; have hfq2_q := blk_frozen Bq.out 2))
  go_ret
  exact ⟨rfl, IsC.far (IsC.far (IsC.far (HIt.out) Nqp Nqg _ _) Nqp Nqg _ _) Nqp Nqg _ _, Kept.setn (Kept.setn (Kept.setn (hKt.out) GWq _ _) GWq _ _) GWq _ _⟩
set_option maxHeartbeats 2000000 in
theorem cas_eq (p g : Nat) (ws : List W3) (n : Int) (j : Nat) (x y : W3) (W : World) (h : IsC W p g ws n) (hj : ws[j]? = some x) : Calls Try.prog 38 #[.pointer (some ⟨p, 0, none⟩), .int .i64 (j : Int), wv x, wv y] W fun e w' => e = .returned (.tuple #[.bool true, .int .i64 0]) ∧ IsC w' p g (ws.set j y) (wrap64 (n + 1)) ∧ Kept p g W w' := by
  have hu := Try.underlying47
  have hu2 := Try.underlying69
  have hlt := lt_of_get hj
  have hltI : (j : Int) < (ws.length : Int) := by omega
  have HH := Aside0.mk (show decide (0 ≤ (j : Int) ∧ (j : Int) < ws.length) = true from decide_eq_true ⟨by omega, hltI⟩)
  have HE := Aside0.mk h
  have HJ := Aside0.mk hj
  clear h hj
  have HB := Aside0.mk (Below.refl W.heap.size W)
  have hneq := neq47 x x false (same3 x)
  unfold wv
  go_enter Try.func38, Try.ntmps38
  go_upto_region 2 with (first | ((with_reducible refine gate_dst (N := 6) rfl ?_); refine box_event ?hg (N := 6) ?hd (cs := #[.int .i64 x.1, .int .i64 x.2.1, .int .i64 x.2.2]) (t := 47) ?hr ?_; (case hd => rfl); (case hg => rfl); (case hr => first | (go_simp; done) | (go_simp; rfl)); intro go hg wo hbox hb; have n0_ := Aside0.mk (below_step (by repeat (first | (with_reducible first | exact HB.out | apply below_alloc | apply pw_below_drewN | apply below_drew1) | exact HB.out)) hb); have n1_ := Aside0.mk (hbox); have n2_ := Aside0.mk ((by rw [hg]; exact (below_size (by repeat (first | (with_reducible first | exact HB.out | apply below_alloc | apply pw_below_drewN | apply below_drew1) | exact HB.out))) : W.heap.size ≤ go)); clear HB; have HB := n0_; have Bo := n1_; have GEo := n2_; clear n0_ n1_ n2_; clear hb hbox hg; have hco0_o : wo.cell? ⟨go, 0, none⟩ = some (.int .i64 x.1) := (blk_cell Bo.out 0).trans rfl; have hfo0_o := blk_frozen Bo.out 0; have hco1_o : wo.cell? ⟨go, 1, none⟩ = some (.int .i64 x.2.1) := (blk_cell Bo.out 1).trans rfl; have hfo1_o := blk_frozen Bo.out 1; have hco2_o : wo.cell? ⟨go, 2, none⟩ = some (.int .i64 x.2.2) := (blk_cell Bo.out 2).trans rfl; have hfo2_o := blk_frozen Bo.out 2) | ((with_reducible refine gate_dst (N := 7) rfl ?_); refine box_event ?hg (N := 7) ?hd (cs := #[.int .i64 y.1, .int .i64 y.2.1, .int .i64 y.2.2]) (t := 47) ?hr ?_; (case hd => rfl); (case hg => rfl); (case hr => first | (go_simp; done) | (go_simp; rfl)); intro gy hg wy hbox hb; have n0_ := Aside0.mk (below_step (by repeat (first | (with_reducible first | exact HB.out | apply below_alloc | apply pw_below_drewN | apply below_drew1) | exact HB.out)) hb); have n1_ := Aside0.mk (hbox); have n2_ := Aside0.mk ((by rw [hg]; exact (below_size (by repeat (first | (with_reducible first | exact HB.out | apply below_alloc | apply pw_below_drewN | apply below_drew1) | exact HB.out))) : W.heap.size ≤ gy)); have n3_ := Aside0.mk (blk_below (g := go) (o := .cells #[.int .i64 x.1, .int .i64 x.2.1, .int .i64 x.2.2] 47 (0, 0)) (by (with_reducible repeat (first | refine blk_drewN ?_ _ | refine blk_drew ?_ | refine blk_alloc ?_ _)); exact Bo.out) hb); have n4_ := Aside0.mk ((by rw [hg]; exact Nat.ne_of_lt (blk_lt (g := go) (o := .cells #[.int .i64 x.1, .int .i64 x.2.1, .int .i64 x.2.2] 47 (0, 0)) (by (with_reducible repeat (first | refine blk_drewN ?_ _ | refine blk_drew ?_ | refine blk_alloc ?_ _)); exact Bo.out)) : go ≠ gy)); have n5_ := Aside0.mk ((by rw [hg]; exact Nat.ne_of_gt (blk_lt (g := go) (o := .cells #[.int .i64 x.1, .int .i64 x.2.1, .int .i64 x.2.2] 47 (0, 0)) (by (with_reducible repeat (first | refine blk_drewN ?_ _ | refine blk_drew ?_ | refine blk_alloc ?_ _)); exact Bo.out)) : gy ≠ go)); clear HB; clear Bo; have HB := n0_; have By := n1_; have GEy := n2_; have Bo := n3_; have Noy := n4_; have Nyo := n5_; clear n0_ n1_ n2_ n3_ n4_ n5_; clear hb hbox hg; have hcy0_y : wy.cell? ⟨gy, 0, none⟩ = some (.int .i64 y.1) := (blk_cell By.out 0).trans rfl; have hfy0_y := blk_frozen By.out 0; have hcy1_y : wy.cell? ⟨gy, 1, none⟩ = some (.int .i64 y.2.1) := (blk_cell By.out 1).trans rfl; have hfy1_y := blk_frozen By.out 1; have hcy2_y : wy.cell? ⟨gy, 2, none⟩ = some (.int .i64 y.2.2) := (blk_cell By.out 2).trans rfl; have hfy2_y := blk_frozen By.out 2; have hco0_y : wy.cell? ⟨go, 0, none⟩ = some (.int .i64 x.1) := (blk_cell Bo.out 0).trans rfl; have hfo0_y := blk_frozen Bo.out 0; have hco1_y : wy.cell? ⟨go, 1, none⟩ = some (.int .i64 x.2.1) := (blk_cell Bo.out 1).trans rfl; have hfo1_y := blk_frozen Bo.out 1; have hco2_y : wy.cell? ⟨go, 2, none⟩ = some (.int .i64 x.2.2) := (blk_cell Bo.out 2).trans rfl; have hfo2_y := blk_frozen Bo.out 2; have hnoy := Noy.out; have hmoy := Nyo.out) | (go_at_call 49; (with_reducible refine (access_in p g ws n j _ (HE.out.below HB.out) HH.out).mono ?_); rintro e w1 ⟨rfl, ⟨k, rfl⟩⟩))
  (try simp only [Act.put, List.setIfInBounds_toArray, List.set_cons_zero, List.set_cons_succ])
  have Nop : go ≠ p := (Nat.ne_of_lt (Nat.lt_of_lt_of_le HE.out.lt_p GEo.out)).symm; have Nog : go ≠ g := (Nat.ne_of_lt (Nat.lt_of_lt_of_le HE.out.lt_g GEo.out)).symm
  have Nyp : gy ≠ p := (Nat.ne_of_lt (Nat.lt_of_lt_of_le HE.out.lt_p GEy.out)).symm; have Nyg : gy ≠ g := (Nat.ne_of_lt (Nat.lt_of_lt_of_le HE.out.lt_g GEy.out)).symm
  obtain ⟨w2, hw⟩ : ∃ w, w = (wy.drewN k).setCell ⟨p, 1, none⟩ (.int .i64 (wrap64 (n + 1))) := ⟨_, rfl⟩
  rw [← hw]
  have no_ : Aside0 (w2.heap[go]? = some (.cells #[.int .i64 x.1, .int .i64 x.2.1, .int .i64 x.2.2] 47 (0, 0))) := ⟨by rw [hw]; refine blk_far ?_ Nop _; (with_reducible repeat (first | refine blk_drewN ?_ _ | refine blk_drew ?_ | refine blk_alloc ?_ _)); exact Bo.out⟩
  have ny_ : Aside0 (w2.heap[gy]? = some (.cells #[.int .i64 y.1, .int .i64 y.2.1, .int .i64 y.2.2] 47 (0, 0))) := ⟨by rw [hw]; refine blk_far ?_ Nyp _; (with_reducible repeat (first | refine blk_drewN ?_ _ | refine blk_drew ?_ | refine blk_alloc ?_ _)); exact By.out⟩
  have nI_ : Aside0 (IsC w2 p g ws (wrap64 (n + 1))) := ⟨by rw [hw]; exact IsC.count (HE.out.below HB.out) _ _⟩
  have nK_ : Aside0 (Kept p g W w2) := ⟨by rw [hw]; exact Kept.setp (Kept.drewN (Kept.of_below HB.out) _) _ _⟩
  clear hw Bo By HB hco0_o hfo0_o hcy0_y hfy0_y hco0_y hfo0_y hco1_o hfo1_o hcy1_y hfy1_y hco1_y hfo1_y hco2_o hfo2_o hcy2_y hfy2_y hco2_y hfo2_y
  have Bo := no_; have By := ny_; have HI := nI_; have HK := nK_; clear no_ ny_ nI_ nK_
  have hco0_w2 : w2.cell? ⟨go, 0, none⟩ = some (.int .i64 x.1) := (blk_cell Bo.out 0).trans rfl
  have hfo0_w2 := blk_frozen Bo.out 0
  have hco1_w2 : w2.cell? ⟨go, 1, none⟩ = some (.int .i64 x.2.1) := (blk_cell Bo.out 1).trans rfl
  have hfo1_w2 := blk_frozen Bo.out 1
  have hco2_w2 : w2.cell? ⟨go, 2, none⟩ = some (.int .i64 x.2.2) := (blk_cell Bo.out 2).trans rfl
  have hfo2_w2 := blk_frozen Bo.out 2
  have hcy0_w2 : w2.cell? ⟨gy, 0, none⟩ = some (.int .i64 y.1) := (blk_cell By.out 0).trans rfl
  have hfy0_w2 := blk_frozen By.out 0
  have hcy1_w2 : w2.cell? ⟨gy, 1, none⟩ = some (.int .i64 y.2.1) := (blk_cell By.out 1).trans rfl
  have hfy1_w2 := blk_frozen By.out 1
  have hcy2_w2 : w2.cell? ⟨gy, 2, none⟩ = some (.int .i64 y.2.2) := (blk_cell By.out 2).trans rfl
  have hfy2_w2 := blk_frozen By.out 2
  obtain ⟨c0, c1, c2, f1⟩ := HI.out.c
  obtain ⟨d0, d1, d2, e0, e1, e2⟩ := HI.out.get HJ.out
  go_quiet (fail)
  have hgy := Nyg; have hgy' := Nyg.symm
  go_wp2
  go_region
  all_goals go_wp2
  all_goals go_ret2
  all_goals exact ⟨rfl, by first | exact IsC.drew (IsC.put (HI.out.drewN _) j y) | exact IsC.put (HI.out.drewN _) j y | exact IsC.drewN (IsC.put (HI.out.drewN _) j y) _ | exact IsC.drewN (IsC.put HI.out j y) _, by repeat (first | exact HK.out | apply Kept.drew | apply Kept.drewN | apply Kept.setg)⟩
set_option maxHeartbeats 2000000 in
theorem cas_ne (p g : Nat) (ws : List W3) (n : Int) (j : Nat) (x o y : W3) (W : World) (h : IsC W p g ws n) (hj : ws[j]? = some x) (hne : (x.1 == o.1 && (x.2.1 == o.2.1 && x.2.2 == o.2.2)) = false) : Calls Try.prog 38 #[.pointer (some ⟨p, 0, none⟩), .int .i64 (j : Int), wv o, wv y] W fun e w' => e = .returned (.tuple #[.bool false, .int .i64 0]) ∧ IsC w' p g ws (wrap64 (n + 1)) ∧ Kept p g W w' := by
  have hu := Try.underlying47
  have hu2 := Try.underlying69
  have hlt := lt_of_get hj
  have hltI : (j : Int) < (ws.length : Int) := by omega
  have HH := Aside0.mk (show decide (0 ≤ (j : Int) ∧ (j : Int) < ws.length) = true from decide_eq_true ⟨by omega, hltI⟩)
  have HE := Aside0.mk h
  have HJ := Aside0.mk hj
  clear h hj
  have HB := Aside0.mk (Below.refl W.heap.size W)
  have hneq := neq47 x o true hne
  clear hne
  unfold wv
  go_enter Try.func38, Try.ntmps38
  go_upto_region 2 with (first | ((with_reducible refine gate_dst (N := 6) rfl ?_); refine box_event ?hg (N := 6) ?hd (cs := #[.int .i64 o.1, .int .i64 o.2.1, .int .i64 o.2.2]) (t := 47) ?hr ?_; (case hd => rfl); (case hg => rfl); (case hr => first | (go_simp; done) | (go_simp; rfl)); intro go hg wo hbox hb; have n0_ := Aside0.mk (below_step (by repeat (first | (with_reducible first | exact HB.out | apply below_alloc | apply pw_below_drewN | apply below_drew1) | exact HB.out)) hb); have n1_ := Aside0.mk (hbox); have n2_ := Aside0.mk ((by rw [hg]; exact (below_size (by repeat (first | (with_reducible first | exact HB.out | apply below_alloc | apply pw_below_drewN | apply below_drew1) | exact HB.out))) : W.heap.size ≤ go)); clear HB; have HB := n0_; have Bo := n1_; have GEo := n2_; clear n0_ n1_ n2_; clear hb hbox hg; have hco0_o : wo.cell? ⟨go, 0, none⟩ = some (.int .i64 o.1) := (blk_cell Bo.out 0).trans rfl; have hfo0_o := blk_frozen Bo.out 0; have hco1_o : wo.cell? ⟨go, 1, none⟩ = some (.int .i64 o.2.1) := (blk_cell Bo.out 1).trans rfl; have hfo1_o := blk_frozen Bo.out 1; have hco2_o : wo.cell? ⟨go, 2, none⟩ = some (.int .i64 o.2.2) := (blk_cell Bo.out 2).trans rfl; have hfo2_o := blk_frozen Bo.out 2) | ((with_reducible refine gate_dst (N := 7) rfl ?_); refine box_event ?hg (N := 7) ?hd (cs := #[.int .i64 y.1, .int .i64 y.2.1, .int .i64 y.2.2]) (t := 47) ?hr ?_; (case hd => rfl); (case hg => rfl); (case hr => first | (go_simp; done) | (go_simp; rfl)); intro gy hg wy hbox hb; have n0_ := Aside0.mk (below_step (by repeat (first | (with_reducible first | exact HB.out | apply below_alloc | apply pw_below_drewN | apply below_drew1) | exact HB.out)) hb); have n1_ := Aside0.mk (hbox); have n2_ := Aside0.mk ((by rw [hg]; exact (below_size (by repeat (first | (with_reducible first | exact HB.out | apply below_alloc | apply pw_below_drewN | apply below_drew1) | exact HB.out))) : W.heap.size ≤ gy)); have n3_ := Aside0.mk (blk_below (g := go) (o := .cells #[.int .i64 o.1, .int .i64 o.2.1, .int .i64 o.2.2] 47 (0, 0)) (by (with_reducible repeat (first | refine blk_drewN ?_ _ | refine blk_drew ?_ | refine blk_alloc ?_ _)); exact Bo.out) hb); have n4_ := Aside0.mk ((by rw [hg]; exact Nat.ne_of_lt (blk_lt (g := go) (o := .cells #[.int .i64 o.1, .int .i64 o.2.1, .int .i64 o.2.2] 47 (0, 0)) (by (with_reducible repeat (first | refine blk_drewN ?_ _ | refine blk_drew ?_ | refine blk_alloc ?_ _)); exact Bo.out)) : go ≠ gy)); have n5_ := Aside0.mk ((by rw [hg]; exact Nat.ne_of_gt (blk_lt (g := go) (o := .cells #[.int .i64 o.1, .int .i64 o.2.1, .int .i64 o.2.2] 47 (0, 0)) (by (with_reducible repeat (first | refine blk_drewN ?_ _ | refine blk_drew ?_ | refine blk_alloc ?_ _)); exact Bo.out)) : gy ≠ go)); clear HB; clear Bo; have HB := n0_; have By := n1_; have GEy := n2_; have Bo := n3_; have Noy := n4_; have Nyo := n5_; clear n0_ n1_ n2_ n3_ n4_ n5_; clear hb hbox hg; have hcy0_y : wy.cell? ⟨gy, 0, none⟩ = some (.int .i64 y.1) := (blk_cell By.out 0).trans rfl; have hfy0_y := blk_frozen By.out 0; have hcy1_y : wy.cell? ⟨gy, 1, none⟩ = some (.int .i64 y.2.1) := (blk_cell By.out 1).trans rfl; have hfy1_y := blk_frozen By.out 1; have hcy2_y : wy.cell? ⟨gy, 2, none⟩ = some (.int .i64 y.2.2) := (blk_cell By.out 2).trans rfl; have hfy2_y := blk_frozen By.out 2; have hco0_y : wy.cell? ⟨go, 0, none⟩ = some (.int .i64 o.1) := (blk_cell Bo.out 0).trans rfl; have hfo0_y := blk_frozen Bo.out 0; have hco1_y : wy.cell? ⟨go, 1, none⟩ = some (.int .i64 o.2.1) := (blk_cell Bo.out 1).trans rfl; have hfo1_y := blk_frozen Bo.out 1; have hco2_y : wy.cell? ⟨go, 2, none⟩ = some (.int .i64 o.2.2) := (blk_cell Bo.out 2).trans rfl; have hfo2_y := blk_frozen Bo.out 2; have hnoy := Noy.out; have hmoy := Nyo.out) | (go_at_call 49; (with_reducible refine (access_in p g ws n j _ (HE.out.below HB.out) HH.out).mono ?_); rintro e w1 ⟨rfl, ⟨k, rfl⟩⟩))
  (try simp only [Act.put, List.setIfInBounds_toArray, List.set_cons_zero, List.set_cons_succ])
  have Nop : go ≠ p := (Nat.ne_of_lt (Nat.lt_of_lt_of_le HE.out.lt_p GEo.out)).symm; have Nog : go ≠ g := (Nat.ne_of_lt (Nat.lt_of_lt_of_le HE.out.lt_g GEo.out)).symm
  have Nyp : gy ≠ p := (Nat.ne_of_lt (Nat.lt_of_lt_of_le HE.out.lt_p GEy.out)).symm; have Nyg : gy ≠ g := (Nat.ne_of_lt (Nat.lt_of_lt_of_le HE.out.lt_g GEy.out)).symm
  obtain ⟨w2, hw⟩ : ∃ w, w = (wy.drewN k).setCell ⟨p, 1, none⟩ (.int .i64 (wrap64 (n + 1))) := ⟨_, rfl⟩
  rw [← hw]
  have no_ : Aside0 (w2.heap[go]? = some (.cells #[.int .i64 o.1, .int .i64 o.2.1, .int .i64 o.2.2] 47 (0, 0))) := ⟨by rw [hw]; refine blk_far ?_ Nop _; (with_reducible repeat (first | refine blk_drewN ?_ _ | refine blk_drew ?_ | refine blk_alloc ?_ _)); exact Bo.out⟩
  have ny_ : Aside0 (w2.heap[gy]? = some (.cells #[.int .i64 y.1, .int .i64 y.2.1, .int .i64 y.2.2] 47 (0, 0))) := ⟨by rw [hw]; refine blk_far ?_ Nyp _; (with_reducible repeat (first | refine blk_drewN ?_ _ | refine blk_drew ?_ | refine blk_alloc ?_ _)); exact By.out⟩
  have nI_ : Aside0 (IsC w2 p g ws (wrap64 (n + 1))) := ⟨by rw [hw]; exact IsC.count (HE.out.below HB.out) _ _⟩
  have nK_ : Aside0 (Kept p g W w2) := ⟨by rw [hw]; exact Kept.setp (Kept.drewN (Kept.of_below HB.out) _) _ _⟩
  clear hw Bo By HB hco0_o hfo0_o hcy0_y hfy0_y hco0_y hfo0_y hco1_o hfo1_o hcy1_y hfy1_y hco1_y hfo1_y hco2_o hfo2_o hcy2_y hfy2_y hco2_y hfo2_y
  have Bo := no_; have By := ny_; have HI := nI_; have HK := nK_; clear no_ ny_ nI_ nK_
  have hco0_w2 : w2.cell? ⟨go, 0, none⟩ = some (.int .i64 o.1) := (blk_cell Bo.out 0).trans rfl
  have hfo0_w2 := blk_frozen Bo.out 0
  have hco1_w2 : w2.cell? ⟨go, 1, none⟩ = some (.int .i64 o.2.1) := (blk_cell Bo.out 1).trans rfl
  have hfo1_w2 := blk_frozen Bo.out 1
  have hco2_w2 : w2.cell? ⟨go, 2, none⟩ = some (.int .i64 o.2.2) := (blk_cell Bo.out 2).trans rfl
  have hfo2_w2 := blk_frozen Bo.out 2
  have hcy0_w2 : w2.cell? ⟨gy, 0, none⟩ = some (.int .i64 y.1) := (blk_cell By.out 0).trans rfl
  have hfy0_w2 := blk_frozen By.out 0
  have hcy1_w2 : w2.cell? ⟨gy, 1, none⟩ = some (.int .i64 y.2.1) := (blk_cell By.out 1).trans rfl
  have hfy1_w2 := blk_frozen By.out 1
  have hcy2_w2 : w2.cell? ⟨gy, 2, none⟩ = some (.int .i64 y.2.2) := (blk_cell By.out 2).trans rfl
  have hfy2_w2 := blk_frozen By.out 2
  obtain ⟨c0, c1, c2, f1⟩ := HI.out.c
  obtain ⟨d0, d1, d2, e0, e1, e2⟩ := HI.out.get HJ.out
  go_quiet (fail)
  go_wp2
  go_ret2
  exact ⟨rfl, HI.out.drewN _, HK.out.drewN _⟩

end Go.Proofs.Ytchgkgfhkkffeaa.Ce
