/- The walk of the law CellPlays. -/
import Derived.Test.YtchgkgfhkkffeaaCellW8
namespace Go.Proofs.Ytchgkgfhkkffeaa.Ce
open Go.RowKit Go.Proofs.YtchgkgfhkkffeaaW.PrintWords Go.Proofs.YtchgkgfhkkffeaaW.PrintLast Go.Proofs.YtchgkgfhkkffeaaW.PrintMore
attribute [local go_sem] max2_int min2_int max_two min_two
set_option linter.unusedVariables false
set_option linter.unusedSimpArgs false

theorem act_far {w : World} {b c : Nat} {a : Act4} (h : Act8 w b a) (hc : c ≠ b) (j : Nat) (u : Value) : Act8 (w.setCell ⟨c, j, none⟩ u) b a := blk_far h hc.symm _
theorem IsR.drewN {W : World} {p g : Nat} {ws : List W3} {n : Int} (h : IsR W p g ws n) (k : Nat) : IsR (W.drewN k) p g ws n := ⟨h.ne, h.head, h.row⟩
theorem stepF_len (k : Nat) (ws : List W3) (n i : Int) (o y : W3) : (stepF k ws n i o y).2.2.2.1.length = ws.length := by
  unfold stepF
  split
  · simp only
    split
    · rfl
    · rw [List.length_set]
  · rfl
theorem make_words (m : Nat) (hm : m ≤ 200) (W : World) : (Instr.makeSlice 45 (.int .i64 (m : Int)) (.int .i64 (m : Int))).run Try.prog W = .ok (.slice (some ⟨W.heap.size, 0, none⟩) m m) (W.alloc (.cells (madeCells #[.int .i64 0, .int .i64 0, .int .i64 0] (m * 3)) 47)) := by
  obtain ⟨i, hi, hz⟩ := Option.map_eq_some_iff.1 (show (Try.prog.info? 47).map (fun i => (i.zero, i.size, i.bytes)) = some (some (.agg #[.int .i64 0, .int .i64 0, .int .i64 0]), 3, 24) by kernel_rfl)
  simp only [Prod.mk.injEq] at hz
  have := run_make (P := Try.prog) W 45 47 i _ Try.underlying45 hi hz.1 .i64 .i64 (m : Int) (m : Int) (by omega) (Int.le_refl _) (by rw [hz.2.2]; omega) (by omega)
  rw [hz.2.1] at this
  simpa [Value.cells] using this

theorem RA8.at_ {W : World} {A : Option Addr} {xs : List Act4} (h : RA 8 actCells W A xs) {j : Nat} {a : Act4} (hj : xs[j]? = some a) : ∃ b off, A = some ⟨b, off, none⟩ ∧ W.cell? ⟨b, off + j * 8, none⟩ = some (.int .i64 a.1) ∧ W.cell? ⟨b, off + j * 8 + 1, none⟩ = some (.int .i64 a.2.1) ∧ W.cell? ⟨b, off + j * 8 + 2, none⟩ = some (.int .i64 a.2.2.1.1) ∧ W.cell? ⟨b, off + j * 8 + 3, none⟩ = some (.int .i64 a.2.2.1.2.1) ∧ W.cell? ⟨b, off + j * 8 + 4, none⟩ = some (.int .i64 a.2.2.1.2.2) ∧ W.cell? ⟨b, off + j * 8 + 5, none⟩ = some (.int .i64 a.2.2.2.1) ∧ W.cell? ⟨b, off + j * 8 + 6, none⟩ = some (.int .i64 a.2.2.2.2.1) ∧ W.cell? ⟨b, off + j * 8 + 7, none⟩ = some (.int .i64 a.2.2.2.2.2) := by
  rcases h with rfl | ⟨b, off, hA, -, hc⟩
  · simp at hj
  · exact ⟨b, off, hA, hc j a hj 0 (by decide), hc j a hj 1 (by decide), hc j a hj 2 (by decide), hc j a hj 3 (by decide), hc j a hj 4 (by decide), hc j a hj 5 (by decide), hc j a hj 6 (by decide), hc j a hj 7 (by decide)⟩
theorem Act8.c8 {W : World} {b : Nat} {a : Act4} (h : Act8 W b a) : W.cell? ⟨b, 0, none⟩ = some (.int .i64 a.1) ∧ W.cell? ⟨b, 1, none⟩ = some (.int .i64 a.2.1) ∧ W.cell? ⟨b, 2, none⟩ = some (.int .i64 a.2.2.1.1) ∧ W.cell? ⟨b, 3, none⟩ = some (.int .i64 a.2.2.1.2.1) ∧ W.cell? ⟨b, 4, none⟩ = some (.int .i64 a.2.2.1.2.2) ∧ W.cell? ⟨b, 5, none⟩ = some (.int .i64 a.2.2.2.1) ∧ W.cell? ⟨b, 6, none⟩ = some (.int .i64 a.2.2.2.2.1) ∧ W.cell? ⟨b, 7, none⟩ = some (.int .i64 a.2.2.2.2.2) :=
  ⟨(blk_cell h 0).trans rfl, h.c.1, h.c.2.1, h.c.2.2.1, h.c.2.2.2.1, h.c.2.2.2.2.1, h.c.2.2.2.2.2.1, h.c.2.2.2.2.2.2⟩

set_option maxHeartbeats 2000000 in
set_option maxRecDepth 100000 in
theorem plays_walk (n : Int) (A : Option Addr) (cap : Nat) (acts : List Act4) (W : World) (h0 : 0 ≤ n) (h1 : n ≤ 255) (hr : RA 8 actCells W A acts) (m : Nat) (hm : (m : Int) = n % 7) (hm6 : m ≤ 6) :
    Calls Try.prog 10 #[.int .u8 n, .slice A acts.length cap] W fun e w' => e = .returned (.bool true) ∧ Below W.heap.size W w' := by
  have hu47 := Try.underlying47
  have hu49 := Try.underlying49
  have hu62 := Try.underlying62
  have HR := Aside0.mk hr
  have hmk := make_words m (by omega)
  have HCS := Aside0.mk (row_made m)
  generalize madeCells #[.int .i64 0, .int .i64 0, .int .i64 0] (m * 3) = cs at hmk HCS
  have hmi := hm.symm
  clear hr hm
  go_enter Try.func10, Try.ntmps10
  go_upto_region 2 with (fail)
  go_wp2_with (fail)
  refine (new_ok m _ (by omega)).mono ?_
  rintro x w2 ⟨p, g, rfl, hi, hb, hp, hg⟩
  have HI := Aside0.mk hi
  have HB := Aside0.mk hb
  have HP := Aside0.mk hp
  have HG := Aside0.mk hg
  clear hi hb hp hg
  go_upto_region 4 with (fail)
  obtain ⟨h, hh⟩ : ∃ h, h = w2.heap.size := ⟨_, rfl⟩
  obtain ⟨q, hq⟩ : ∃ q, q = w2.heap.size + 1 := ⟨_, rfl⟩
  obtain ⟨w3, hw3⟩ : ∃ w3, w3 = (w2.alloc (.cells cs 47)).alloc (.cells #[.slice (some ⟨w2.heap.size, 0, none⟩) m m, .int .i64 0] 62) := ⟨_, rfl⟩
  rw [← hw3, ← hq]
  try rw [← hh]
  have HIR : Aside0 (IsR w3 q h (List.replicate m zero) 0) := ⟨by
    refine ⟨by omega, ?_, cs, ?_, HCS.out⟩
    · rw [hw3, hq, hh, List.length_replicate]
      exact (show (w2.alloc (.cells cs 47)).heap.size = w2.heap.size + 1 by simp) ▸ heap_alloc_new _ _
    · rw [hw3, hh]
      exact blk_alloc (heap_alloc_new _ _) _⟩
  have HI3 := Aside0.mk (HI.out.below (show Below w2.heap.size w2 w3 by rw [hw3]; exact below_alloc (below_alloc (Below.refl _ _) _) _))
  have HB3 := Aside0.mk (show Below W.heap.size W w3 by rw [hw3]; exact below_alloc (below_alloc HB.out _) _)
  have HQ0 := Aside0.mk (show W.heap.size ≤ q by have := HB.out.size; omega)
  have HH0 := Aside0.mk (show W.heap.size ≤ h by have := HB.out.size; omega)
  have Npq := Aside0.mk (show p ≠ q by have := HI.out.lt_p; omega)
  have Nph := Aside0.mk (show p ≠ h by have := HI.out.lt_p; omega)
  have Ngq := Aside0.mk (show g ≠ q by have := HI.out.lt_g; omega)
  have Ngh := Aside0.mk (show g ≠ h by have := HI.out.lt_g; omega)
  clear hw3 hq hh HI HB hmk HCS
  go_wp2
  go_loopg [9] (acts.length + 1) (fun gg s9 wr => ∃ kk : Nat, ∃ (ws : List W3) (cnt : Int), kk ≤ acts.length ∧ acts.length + 1 - kk ≤ gg ∧ s9 = .int .i64 kk ∧ Aside0 (ws.length = m) ∧ Aside0 (IsC wr p g ws cnt) ∧ Aside0 (IsR wr q h ws cnt) ∧ Aside0 (Below W.heap.size W wr))
  case atStart => exact ⟨0, _, 0, Nat.zero_le _, by omega, rfl, ⟨by simp⟩, HI3, HIR, HB3⟩
  case round =>
    clear HI3 HIR HB3
    obtain ⟨kk, ws, cnt, hkk, hgg, rfl, HWL, HI, HIR, HB0⟩ := hrel
    by_cases hk : kk < acts.length
    · have hlt : (kk : Int) < (acts.length : Int) := by omega
      by_cases hk60 : kk < 60
      · have hlt60 : (kk : Int) < 60 := by omega
        obtain ⟨a, hx⟩ : ∃ a, acts[kk]? = some a := ⟨acts[kk], List.getElem?_eq_getElem hk⟩
        obtain ⟨b, off, e, c0, c1, c2, c3, c4, c5, c6, c7⟩ := RA8.at_ (HR.out.below HB0.out) hx
        cases e
        clear hx
        have HB := HB0
        go_upto_region 10 with (first | ((with_reducible refine gate_dst (N := 10) rfl ?_); refine box_event ?hg (N := 10) ?hd (cs := #[.int .i64 0, .int .i64 0, .int .i64 0, .int .i64 0, .int .i64 0, .int .i64 0, .int .i64 0, .int .i64 0]) (t := 49) ?hr ?_; (case hd => rfl); (case hg => rfl); (case hr => first | (go_simp; done) | (go_simp; rfl)); intro ga hg wa hbox hb; have n0_ := Aside0.mk (below_step (by repeat (first | (with_reducible first | exact HB.out | apply below_alloc | apply pw_below_drewN | apply below_drew1) | exact HB.out)) hb); have n1_ := Aside0.mk (hbox); have n2_ := Aside0.mk ((by rw [hg]; exact (below_size (by repeat (first | (with_reducible first | exact HB.out | apply below_alloc | apply pw_below_drewN | apply below_drew1) | exact HB.out))) : W.heap.size ≤ ga)); clear HB; have HB := n0_; have Ba := n1_; have GEa := n2_; clear n0_ n1_ n2_; have HQ := Aside0.mk hb; have HGQ := Aside0.mk (Nat.le_of_eq hg.symm); clear hb hbox hg; have hca0_a : wa.cell? ⟨ga, 0, none⟩ = some (.int .i64 0) := (blk_cell Ba.out 0).trans rfl; have hfa0_a := blk_frozen Ba.out 0; have hca1_a : wa.cell? ⟨ga, 1, none⟩ = some (.int .i64 0) := (blk_cell Ba.out 1).trans rfl; have hfa1_a := blk_frozen Ba.out 1; have hca2_a : wa.cell? ⟨ga, 2, none⟩ = some (.int .i64 0) := (blk_cell Ba.out 2).trans rfl; have hfa2_a := blk_frozen Ba.out 2; have hca3_a : wa.cell? ⟨ga, 3, none⟩ = some (.int .i64 0) := (blk_cell Ba.out 3).trans rfl; have hfa3_a := blk_frozen Ba.out 3; have hca4_a : wa.cell? ⟨ga, 4, none⟩ = some (.int .i64 0) := (blk_cell Ba.out 4).trans rfl; have hfa4_a := blk_frozen Ba.out 4; have hca5_a : wa.cell? ⟨ga, 5, none⟩ = some (.int .i64 0) := (blk_cell Ba.out 5).trans rfl; have hfa5_a := blk_frozen Ba.out 5; have hca6_a : wa.cell? ⟨ga, 6, none⟩ = some (.int .i64 0) := (blk_cell Ba.out 6).trans rfl; have hfa6_a := blk_frozen Ba.out 6; have hca7_a : wa.cell? ⟨ga, 7, none⟩ = some (.int .i64 0) := (blk_cell Ba.out 7).trans rfl; have hfa7_a := blk_frozen Ba.out 7))
        obtain ⟨w4, hw⟩ : ∃ w, w = ((((((((wa.setCell ⟨ga, 0, none⟩ (.int .i64 a.1)).setCell ⟨ga, 1, none⟩ (.int .i64 a.2.1)).setCell ⟨ga, 2, none⟩ (.int .i64 a.2.2.1.1)).setCell ⟨ga, 3, none⟩ (.int .i64 a.2.2.1.2.1)).setCell ⟨ga, 4, none⟩ (.int .i64 a.2.2.1.2.2)).setCell ⟨ga, 5, none⟩ (.int .i64 a.2.2.2.1)).setCell ⟨ga, 6, none⟩ (.int .i64 a.2.2.2.2.1)).setCell ⟨ga, 7, none⟩ (.int .i64 a.2.2.2.2.2)) := ⟨_, rfl⟩
        rw [← hw]
        have HQ4 : Aside0 (Below wr.heap.size wr w4) := ⟨by rw [hw]; exact (below_set (below_set (below_set (below_set (below_set (below_set (below_set (below_set HQ.out HGQ.out) HGQ.out) HGQ.out) HGQ.out) HGQ.out) HGQ.out) HGQ.out) HGQ.out)⟩
        have HA4 : Aside0 (Act8 w4 ga a) := ⟨by rw [hw]; unfold Act8; refine blk_put (cs := #[.int .i64 a.1, .int .i64 a.2.1, .int .i64 a.2.2.1.1, .int .i64 a.2.2.1.2.1, .int .i64 a.2.2.1.2.2, .int .i64 a.2.2.2.1, .int .i64 a.2.2.2.2.1, .int .i64 0]) ?_ 7 _ rfl; skip; refine blk_put (cs := #[.int .i64 a.1, .int .i64 a.2.1, .int .i64 a.2.2.1.1, .int .i64 a.2.2.1.2.1, .int .i64 a.2.2.1.2.2, .int .i64 a.2.2.2.1, .int .i64 0, .int .i64 0]) ?_ 6 _ rfl; skip; refine blk_put (cs := #[.int .i64 a.1, .int .i64 a.2.1, .int .i64 a.2.2.1.1, .int .i64 a.2.2.1.2.1, .int .i64 a.2.2.1.2.2, .int .i64 0, .int .i64 0, .int .i64 0]) ?_ 5 _ rfl; skip; refine blk_put (cs := #[.int .i64 a.1, .int .i64 a.2.1, .int .i64 a.2.2.1.1, .int .i64 a.2.2.1.2.1, .int .i64 0, .int .i64 0, .int .i64 0, .int .i64 0]) ?_ 4 _ rfl; skip; refine blk_put (cs := #[.int .i64 a.1, .int .i64 a.2.1, .int .i64 a.2.2.1.1, .int .i64 0, .int .i64 0, .int .i64 0, .int .i64 0, .int .i64 0]) ?_ 3 _ rfl; skip; refine blk_put (cs := #[.int .i64 a.1, .int .i64 a.2.1, .int .i64 0, .int .i64 0, .int .i64 0, .int .i64 0, .int .i64 0, .int .i64 0]) ?_ 2 _ rfl; skip; refine blk_put (cs := #[.int .i64 a.1, .int .i64 0, .int .i64 0, .int .i64 0, .int .i64 0, .int .i64 0, .int .i64 0, .int .i64 0]) ?_ 1 _ rfl; skip; refine blk_put (cs := #[.int .i64 0, .int .i64 0, .int .i64 0, .int .i64 0, .int .i64 0, .int .i64 0, .int .i64 0, .int .i64 0]) ?_ 0 _ rfl; skip; exact Ba.out⟩
        clear hw Ba HQ HB c0 c1 c2 c3 c4 c5 c6 c7
        clear hca0_a hfa0_a hca1_a hfa1_a hca2_a hfa2_a hca3_a hfa3_a hca4_a hfa4_a hca5_a hfa5_a hca6_a hfa6_a hca7_a hfa7_a
        have HB4 := Aside0.mk (below_step HB0.out HQ4.out)
        have HI4 := Aside0.mk (HI.out.below HQ4.out)
        have HIR4 := Aside0.mk (HIR.out.below HQ4.out)
        have Nap := Aside0.mk (show ga ≠ p from (Nat.ne_of_lt (Nat.lt_of_lt_of_le HI.out.lt_p HGQ.out)).symm)
        have Nag := Aside0.mk (show ga ≠ g from (Nat.ne_of_lt (Nat.lt_of_lt_of_le HI.out.lt_g HGQ.out)).symm)
        have Naq := Aside0.mk (show ga ≠ q from (Nat.ne_of_lt (Nat.lt_of_lt_of_le HIR.out.lt_p HGQ.out)).symm)
        have Nah := Aside0.mk (show ga ≠ h from (Nat.ne_of_lt (Nat.lt_of_lt_of_le HIR.out.lt_g HGQ.out)).symm)
        clear HI HIR HB0 HQ4 HGQ GEa
        obtain ⟨a0, a1, a2, a3, a4, a5, a6, a7⟩ := HA4.out.c8
        go_upto_region 11 with (first | (go_at_call 41; (with_reducible refine (do_c p g ws cnt a _ HI4.out).mono ?_); rintro y w5 ⟨x, is, f, ws2, n2, rfl, hi, hk5, hs⟩; have HI5 := Aside0.mk hi; have HK5 := Aside0.mk hk5; have HS := Aside0.mk hs; clear hi hk5 hs))
        have HIR5 := Aside0.mk (HIR4.out.kept HK5.out Npq.out.symm Ngq.out.symm Nph.out.symm Ngh.out.symm)
        have HA5 := Aside0.mk (show Act8 w5 ga a from Kept.blk HK5.out HA4.out Nap.out Nag.out)
        have HB5 := Aside0.mk (Kept.below HK5.out HB4.out HP.out HG.out)
        clear a0 a1 a2 a3 a4 a5 a6 a7 HK5 HIR4 HA4 HB4 HI4
        obtain ⟨gx, hgx⟩ : ∃ gx, gx = w5.heap.size := ⟨_, rfl⟩
        obtain ⟨w6, hw⟩ : ∃ w, w = w5.alloc (.cells #[.int .i64 x.1, .int .i64 x.2.1, .int .i64 x.2.2] 47) := ⟨_, rfl⟩
        rw [← hw, ← hgx]
        have BX : Aside0 (w6.heap[gx]? = some (.cells #[.int .i64 x.1, .int .i64 x.2.1, .int .i64 x.2.2] 47 (0, 0))) := ⟨by rw [hw, hgx]; exact heap_alloc_new _ _⟩
        have hb56 : Below w5.heap.size w5 w6 := by rw [hw]; exact below_alloc (Below.refl _ _) _
        have HI := Aside0.mk (HI5.out.below hb56)
        have HIR := Aside0.mk (HIR5.out.below hb56)
        have HA := Aside0.mk (show Act8 w6 ga a from blk_below HA5.out hb56)
        have HB := Aside0.mk (below_step HB5.out hb56)
        have Nxq := Aside0.mk (show gx ≠ q by rw [hgx]; exact (Nat.ne_of_lt HIR5.out.lt_p).symm)
        have Nxh := Aside0.mk (show gx ≠ h by rw [hgx]; exact (Nat.ne_of_lt HIR5.out.lt_g).symm)
        clear hw hgx hb56 HI5 HIR5 HA5 HB5
        obtain ⟨kq, hkq⟩ : ∃ kq, among4 a.1 = kq := ⟨_, rfl⟩
        have HKQ := Aside0.mk hkq
        have HKL := Aside0.mk (show kq < 4 by rw [← hkq]; exact among4_lt _)
        have HS2 : Aside0 (stepF kq ws cnt a.2.1 a.2.2.1 a.2.2.2 = (x, is, f, ws2, n2)) := ⟨by rw [← hkq]; exact HS.out⟩
        clear hkq HS
        have HS := HS2
        clear HS2
        go_cut [14, 15, 16] (fun s14 s15 s16 wc => ∃ gz : Nat, s14 = .pointer (some ⟨gz, 0, none⟩) ∧ s15 = .bool is ∧ s16 = .int .i64 f ∧ Aside0 (wc.heap[gz]? = some (.cells #[.int .i64 x.1, .int .i64 x.2.1, .int .i64 x.2.2] 47 (0, 0))) ∧ Aside0 (wc.heap[gx]? = some (.cells #[.int .i64 x.1, .int .i64 x.2.1, .int .i64 x.2.2] 47 (0, 0))) ∧ Aside0 (IsC wc p g ws2 n2) ∧ Aside0 (IsR wc q h ws2 n2) ∧ Aside0 (Below W.heap.size W wc))
        case first =>
          refine start_ (n := 19) (S := fun w' => w'.cell? ⟨ga, 0, none⟩ = some (.int .i64 a.1) ∧ w'.cell? ⟨ga, 1, none⟩ = some (.int .i64 a.2.1) ∧ w'.cell? ⟨ga, 2, none⟩ = some (.int .i64 a.2.2.1.1) ∧ w'.cell? ⟨ga, 3, none⟩ = some (.int .i64 a.2.2.1.2.1) ∧ w'.cell? ⟨ga, 4, none⟩ = some (.int .i64 a.2.2.1.2.2) ∧ w'.cell? ⟨ga, 5, none⟩ = some (.int .i64 a.2.2.2.1) ∧ w'.cell? ⟨ga, 6, none⟩ = some (.int .i64 a.2.2.2.2.1) ∧ w'.cell? ⟨ga, 7, none⟩ = some (.int .i64 a.2.2.2.2.2)) (ds := []) #[false, false, false, false, false, false, false, false, false, false, false, false, false, false, false, false, false, false, false] (by kernel_rfl) rfl rfl HA.out.c8 (fun hHeld => ?_)
          replace HI := Aside0.mk HI.out.drew
          replace HIR := Aside0.mk HIR.out.drew
          replace HA := Aside0.mk (show Act8 w6.drew ga a from HA.out)
          replace BX := Aside0.mk (blk_drew BX.out)
          replace HB := Aside0.mk (below_drew1 HB.out)
          generalize w6.drew = w7 at HI HIR HA BX HB hHeld ⊢
          refine pure_ (i := 0) (N := some 59) (v := ?_) (a' := ?_) #[true, false, false, false, false, false, false, false, false, false, false, false, false, false, false, false, false, false, false] rfl rfl (by kernel_rfl) (fun _ _ _ h => h) (Or.inl ⟨by rfl, ?_⟩) ?_ ?_
          rotate_left
          · intro w'
            go_simp
            with_reducible rfl
          rotate_left
          · (simp only [Act.put, List.setIfInBounds_toArray, List.set_cons_zero, List.set_cons_succ, i64_w, i32_w])
            rfl
          refine pure_ (i := 1) (N := some 60) (v := ?_) (a' := ?_) #[true, true, false, false, false, false, false, false, false, false, false, false, false, false, false, false, false, false, false] rfl rfl (by kernel_rfl) (fun _ _ _ h => h) (Or.inl ⟨by rfl, ?_⟩) ?_ ?_
          rotate_left
          · intro w'
            go_simp
            with_reducible rfl
          rotate_left
          · (simp only [Act.put, List.setIfInBounds_toArray, List.set_cons_zero, List.set_cons_succ, i64_w, i32_w])
            rfl
          refine pure_ (i := 4) (N := some 63) (v := ?_) (a' := ?_) #[true, true, false, false, true, false, false, false, false, false, false, false, false, false, false, false, false, false, false] rfl rfl (by kernel_rfl) (fun _ _ _ h => h) (Or.inl ⟨by rfl, ?_⟩) ?_ ?_
          rotate_left
          · intro w'
            go_simp
            with_reducible rfl
          rotate_left
          · (simp only [Act.put, List.setIfInBounds_toArray, List.set_cons_zero, List.set_cons_succ, i64_w, i32_w])
            rfl
          refine pure_ (i := 6) (N := some 65) (v := ?_) (a' := ?_) #[true, true, false, false, true, false, true, false, false, false, false, false, false, false, false, false, false, false, false] rfl rfl (by kernel_rfl) (fun _ _ _ h => h) (Or.inl ⟨by rfl, ?_⟩) ?_ ?_
          rotate_left
          · intro w'
            go_simp
            with_reducible rfl
          rotate_left
          · (simp only [Act.put, List.setIfInBounds_toArray, List.set_cons_zero, List.set_cons_succ, i64_w, i32_w])
            rfl
          refine pure_ (i := 8) (N := some 67) (v := ?_) (a' := ?_) #[true, true, false, false, true, false, true, false, true, false, false, false, false, false, false, false, false, false, false] rfl rfl (by kernel_rfl) (fun _ _ _ h => h) (Or.inl ⟨by rfl, ?_⟩) ?_ ?_
          rotate_left
          · intro w'
            go_simp
            with_reducible rfl
          rotate_left
          · (simp only [Act.put, List.setIfInBounds_toArray, List.set_cons_zero, List.set_cons_succ, i64_w, i32_w])
            rfl
          refine take_ (i := 2) (N := some 61) (v := ?_) (a' := ?_) #[true, true, true, false, true, false, true, false, true, false, false, false, false, false, false, false, false, false, false] rfl rfl (by kernel_rfl) (fun _ _ _ h => h) (Or.inl ⟨by rfl, ?_⟩) hHeld ?_ ?_
          rotate_left
          · rintro w' ⟨s0, s1, s2, s3, s4, s5, s6, s7⟩
            go_simp
            with_reducible rfl
          rotate_left
          · (simp only [Act.put, List.setIfInBounds_toArray, List.set_cons_zero, List.set_cons_succ, i64_w, i32_w])
            rfl
          refine take_ (i := 5) (N := some 64) (v := ?_) (a' := ?_) #[true, true, true, false, true, true, true, false, true, false, false, false, false, false, false, false, false, false, false] rfl rfl (by kernel_rfl) (fun _ _ _ h => h) (Or.inl ⟨by rfl, ?_⟩) hHeld ?_ ?_
          rotate_left
          · rintro w' ⟨s0, s1, s2, s3, s4, s5, s6, s7⟩
            go_simp
            with_reducible rfl
          rotate_left
          · (simp only [Act.put, List.setIfInBounds_toArray, List.set_cons_zero, List.set_cons_succ, i64_w, i32_w])
            rfl
          refine take_ (i := 7) (N := some 66) (v := ?_) (a' := ?_) #[true, true, true, false, true, true, true, true, true, false, false, false, false, false, false, false, false, false, false] rfl rfl (by kernel_rfl) (fun _ _ _ h => h) (Or.inl ⟨by rfl, ?_⟩) hHeld ?_ ?_
          rotate_left
          · rintro w' ⟨s0, s1, s2, s3, s4, s5, s6, s7⟩
            go_simp
            with_reducible rfl
          rotate_left
          · (simp only [Act.put, List.setIfInBounds_toArray, List.set_cons_zero, List.set_cons_succ, i64_w, i32_w])
            rfl
          refine take_ (i := 9) (N := some 68) (v := ?_) (a' := ?_) #[true, true, true, false, true, true, true, true, true, true, false, false, false, false, false, false, false, false, false] rfl rfl (by kernel_rfl) (fun _ _ _ h => h) (Or.inl ⟨by rfl, ?_⟩) hHeld ?_ ?_
          rotate_left
          · rintro w' ⟨s0, s1, s2, s3, s4, s5, s6, s7⟩
            go_simp
            with_reducible rfl
          rotate_left
          · (simp only [Act.put, List.setIfInBounds_toArray, List.set_cons_zero, List.set_cons_succ, i64_w, i32_w])
            rfl
          refine two_ (i := 3) (j := 15) (Ni := some 62) (Nj := some 14) #[true, true, true, true, true, true, true, true, true, true, false, false, false, false, false, false, false, false, false] #[true, true, true, false, true, true, true, true, true, true, false, false, false, false, false, true, false, false, false] rfl rfl rfl rfl (by kernel_rfl) (by decide) (by decide) (fun K hK => ?_) (fun K hK => ?_)
          · skip
            refine goes_ Try.func40 (by kernel_rfl) rfl #[.int .i64 a.1, .int .i64 4] (by rfl) rfl rfl (by (try simp only [List.map_toArray, List.map_cons, List.map_nil]); first | done | rfl | (simp only [List.length_drop, List.length_take]; rfl)) ?_
            refine (among4_c a.1 kq HKQ.out _).mono ?_
            rintro e w8 ⟨rfl, ⟨j1, rfl⟩⟩
            refine ⟨_, rfl, ?_⟩
            replace HI := Aside0.mk (HI.out.drewN j1)
            replace HIR := Aside0.mk (HIR.out.drewN j1)
            replace HA := Aside0.mk (show Act8 (World.drewN _ j1) ga a from HA.out)
            replace BX := Aside0.mk (blk_drewN BX.out j1)
            replace HB := Aside0.mk (pw_below_drewN HB.out j1)
            generalize World.drewN _ j1 = w9 at HI HIR HA BX HB ⊢
            refine hK.out _ _ HA.out.c8 (fun hHeld => ?_)
            clear hK K
            refine norm_ (a' := ?_) ?_ ?_
            rotate_left
            · show Act.put _ (some 62) _ = _
              (simp only [Act.put, List.setIfInBounds_toArray, List.set_cons_zero, List.set_cons_succ, i64_w, i32_w])
              rfl
            refine two_ (i := 10) (j := 15) (Ni := some 69) (Nj := some 14) #[true, true, true, true, true, true, true, true, true, true, true, false, false, false, false, false, false, false, false] #[true, true, true, true, true, true, true, true, true, true, false, false, false, false, false, true, false, false, false] rfl rfl rfl rfl (by kernel_rfl) (by decide) (by decide) (fun K hK => ?_) (fun K hK => ?_)
            · skip
              refine goes_ Try.func42 (by kernel_rfl) rfl #[.pointer (some ⟨q, 0, none⟩), .int .i64 (kq : Int), .int .i64 a.2.1, wv a.2.2.1, wv a.2.2.2] (by rfl) rfl rfl (by (try simp only [List.map_toArray, List.map_cons, List.map_nil]); first | done | rfl | (simp only [List.length_drop, List.length_take]; rfl)) ?_
              refine (ref_c q h ws cnt a.2.1 kq HKL.out a.2.2.1 a.2.2.2 _ HIR.out).mono ?_
              rintro e w10 ⟨x', is', f', ws2', n2', rfl, hi, hk, hs⟩
              rw [HS.out] at hs
              simp only [Prod.mk.injEq] at hs
              obtain ⟨rfl, rfl, rfl, rfl, rfl⟩ := hs
              refine ⟨_, rfl, ?_⟩
              replace HI := Aside0.mk (HI.out.kept hk Npq.out Nph.out Ngq.out Ngh.out)
              replace HA := Aside0.mk (show Act8 w10 ga a from Kept.blk hk HA.out Naq.out Nah.out)
              replace BX := Aside0.mk (Kept.blk hk BX.out Nxq.out Nxh.out)
              replace HB := Aside0.mk (Kept.below hk HB.out HQ0.out HH0.out)
              replace HIR := Aside0.mk hi
              clear hi hk
              refine hK.out _ _ HA.out.c8 (fun hHeld => ?_)
              clear hK K
              refine norm_ (a' := ?_) ?_ ?_
              rotate_left
              · show Act.put _ (some 69) _ = _
                (simp only [Act.put, List.setIfInBounds_toArray, List.set_cons_zero, List.set_cons_succ, i64_w, i32_w])
                rfl
              refine pure_ (i := 11) (N := some 58) (v := ?_) (a' := ?_) #[true, true, true, true, true, true, true, true, true, true, true, true, false, false, false, false, false, false, false] rfl rfl (by kernel_rfl) (fun _ _ _ h => h) (Or.inl ⟨by rfl, ?_⟩) ?_ ?_
              rotate_left
              · intro w'
                go_simp
                with_reducible rfl
              rotate_left
              · (simp only [Act.put, List.setIfInBounds_toArray, List.set_cons_zero, List.set_cons_succ, i64_w, i32_w])
                rfl
              refine pure_ (i := 12) (N := some 70) (v := ?_) (a' := ?_) #[true, true, true, true, true, true, true, true, true, true, true, true, true, false, false, false, false, false, false] rfl rfl (by kernel_rfl) (fun _ _ _ h => h) (Or.inl ⟨by rfl, ?_⟩) ?_ ?_
              rotate_left
              · intro w'
                go_simp
                with_reducible rfl
              rotate_left
              · (simp only [Act.put, List.setIfInBounds_toArray, List.set_cons_zero, List.set_cons_succ, i64_w, i32_w])
                rfl
              refine pure_ (i := 13) (N := some 71) (v := ?_) (a' := ?_) #[true, true, true, true, true, true, true, true, true, true, true, true, true, true, false, false, false, false, false] rfl rfl (by kernel_rfl) (fun _ _ _ h => h) (Or.inl ⟨by rfl, ?_⟩) ?_ ?_
              rotate_left
              · intro w'
                go_simp
                with_reducible rfl
              rotate_left
              · (simp only [Act.put, List.setIfInBounds_toArray, List.set_cons_zero, List.set_cons_succ, i64_w, i32_w])
                rfl
              refine pure_ (i := 14) (N := some 72) (v := ?_) (a' := ?_) #[true, true, true, true, true, true, true, true, true, true, true, true, true, true, true, false, false, false, false] rfl rfl (by kernel_rfl) (fun _ _ _ h => h) (Or.inl ⟨by rfl, ?_⟩) ?_ ?_
              rotate_left
              · intro w'
                go_simp
                with_reducible rfl
              rotate_left
              · (simp only [Act.put, List.setIfInBounds_toArray, List.set_cons_zero, List.set_cons_succ, i64_w, i32_w])
                rfl
              refine one_ (i := 15) (N := some 14) #[true, true, true, true, true, true, true, true, true, true, true, true, true, true, true, true, false, false, false] rfl rfl (by kernel_rfl) (by decide) (fun K hK => ?_)
              refine box_step (by rfl) (N := 14) rfl (cs := #[.int .i64 0, .int .i64 0, .int .i64 0]) (t := 47) ?hr0 ?_
              case hr0 => first | (go_simp; done) | (go_simp; rfl)
              intro gz hg w11 hbox hb
              have BZ := Aside0.mk hbox
              have Nzp : gz ≠ p := by rw [hg]; exact (Nat.ne_of_lt HI.out.lt_p).symm
              have Nzg : gz ≠ g := by rw [hg]; exact (Nat.ne_of_lt HI.out.lt_g).symm
              have Nzq : gz ≠ q := by rw [hg]; exact (Nat.ne_of_lt HIR.out.lt_p).symm
              have Nzh : gz ≠ h := by rw [hg]; exact (Nat.ne_of_lt HIR.out.lt_g).symm
              have Nza : gz ≠ ga := by rw [hg]; exact (Nat.ne_of_lt (blk_lt HA.out)).symm
              have Nzx : gz ≠ gx := by rw [hg]; exact (Nat.ne_of_lt (blk_lt BX.out)).symm
              have GEz : W.heap.size ≤ gz := by rw [hg]; exact HB.out.size
              replace HI := Aside0.mk (HI.out.below hb)
              replace HIR := Aside0.mk (HIR.out.below hb)
              replace HA := Aside0.mk (show Act8 w11 ga a from blk_below HA.out hb)
              replace BX := Aside0.mk (blk_below BX.out hb)
              replace HB := Aside0.mk (below_step HB.out hb)
              clear hbox hb hg
              refine hK.out _ _ HA.out.c8 (fun hHeld => ?_)
              clear hK K
              refine norm_ (a' := ?_) ?_ ?_
              rotate_left
              · show Act.put _ (some 14) _ = _
                (simp only [Act.put, List.setIfInBounds_toArray, List.set_cons_zero, List.set_cons_succ, i64_w, i32_w])
                rfl
              refine one_ (i := 16) (N := none) #[true, true, true, true, true, true, true, true, true, true, true, true, true, true, true, true, true, false, false] rfl rfl (by kernel_rfl) (by decide) (fun K hK => ?_)
              have zc0 := (blk_cell BZ.out 0).trans (show _ = some (Value.int .i64 0) from rfl)
              have zc1 := (blk_cell BZ.out 1).trans (show _ = some (Value.int .i64 0) from rfl)
              have zc2 := (blk_cell BZ.out 2).trans (show _ = some (Value.int .i64 0) from rfl)
              have zf0 := blk_frozen BZ.out 0; have zf1 := blk_frozen BZ.out 1; have zf2 := blk_frozen BZ.out 2
              refine skip_ (by rfl) rfl (w1 := ((World.setCell w11 ⟨gz, 0, none⟩ (.int .i64 x.1)).setCell ⟨gz, 1, none⟩ (.int .i64 x.2.1)).setCell ⟨gz, 2, none⟩ (.int .i64 x.2.2)) ?hr1 ?_
              case hr1 => first | (go_simp; done) | (go_simp; rfl)
              clear zc0 zc1 zc2 zf0 zf1 zf2
              replace BZ := Aside0.mk (blk_put (cs := #[.int .i64 x.1, .int .i64 x.2.1, .int .i64 0]) (blk_put (cs := #[.int .i64 x.1, .int .i64 0, .int .i64 0]) (blk_put (cs := #[.int .i64 0, .int .i64 0, .int .i64 0]) BZ.out 0 (.int .i64 x.1) rfl) 1 (.int .i64 x.2.1) rfl) 2 (.int .i64 x.2.2) rfl)
              replace HI := Aside0.mk (IsC.far (IsC.far (IsC.far HI.out Nzp Nzg 0 (.int .i64 x.1)) Nzp Nzg 1 (.int .i64 x.2.1)) Nzp Nzg 2 (.int .i64 x.2.2))
              replace HIR := Aside0.mk (IsR.far (IsR.far (IsR.far HIR.out Nzq Nzh 0 (.int .i64 x.1)) Nzq Nzh 1 (.int .i64 x.2.1)) Nzq Nzh 2 (.int .i64 x.2.2))
              replace HA := Aside0.mk (act_far (act_far (act_far HA.out Nza 0 (.int .i64 x.1)) Nza 1 (.int .i64 x.2.1)) Nza 2 (.int .i64 x.2.2))
              replace BX := Aside0.mk (blk_far (p := ⟨gz, 2, none⟩) (blk_far (p := ⟨gz, 1, none⟩) (blk_far (p := ⟨gz, 0, none⟩) BX.out Nzx.symm (.int .i64 x.1)) Nzx.symm (.int .i64 x.2.1)) Nzx.symm (.int .i64 x.2.2))
              replace HB := Aside0.mk (below_set (j := 2) (v := .int .i64 x.2.2) (below_set (j := 1) (v := .int .i64 x.2.1) (below_set (j := 0) (v := .int .i64 x.1) HB.out GEz) GEz) GEz)
              refine hK.out _ _ HA.out.c8 (fun hHeld => ?_)
              clear hK K
              refine pure_ (i := 17) (N := some 15) (v := ?_) (a' := ?_) #[true, true, true, true, true, true, true, true, true, true, true, true, true, true, true, true, true, true, false] rfl rfl (by kernel_rfl) (fun _ _ _ h => h) (Or.inl ⟨by rfl, ?_⟩) ?_ ?_
              rotate_left
              · intro w'
                go_simp
                with_reducible rfl
              rotate_left
              · (simp only [Act.put, List.setIfInBounds_toArray, List.set_cons_zero, List.set_cons_succ, i64_w, i32_w])
                rfl
              refine pure_ (i := 18) (N := some 16) (v := ?_) (a' := ?_) #[true, true, true, true, true, true, true, true, true, true, true, true, true, true, true, true, true, true, true] rfl rfl (by kernel_rfl) (fun _ _ _ h => h) (Or.inl ⟨by rfl, ?_⟩) ?_ ?_
              rotate_left
              · intro w'
                go_simp
                with_reducible rfl
              rotate_left
              · (simp only [Act.put, List.setIfInBounds_toArray, List.set_cons_zero, List.set_cons_succ, i64_w, i32_w])
                rfl
              refine done_ (by kernel_rfl) ?_
              try go_wp2
              go_meet
              case rel => exact ⟨gz, rfl, rfl, rfl, BZ, BX, HI, HIR, HB⟩
            · skip
              refine box_step (by rfl) (N := 14) rfl (cs := #[.int .i64 0, .int .i64 0, .int .i64 0]) (t := 47) ?hr2 ?_
              case hr2 => first | (go_simp; done) | (go_simp; rfl)
              intro gz hg w11 hbox hb
              have BZ := Aside0.mk hbox
              have Nzp : gz ≠ p := by rw [hg]; exact (Nat.ne_of_lt HI.out.lt_p).symm
              have Nzg : gz ≠ g := by rw [hg]; exact (Nat.ne_of_lt HI.out.lt_g).symm
              have Nzq : gz ≠ q := by rw [hg]; exact (Nat.ne_of_lt HIR.out.lt_p).symm
              have Nzh : gz ≠ h := by rw [hg]; exact (Nat.ne_of_lt HIR.out.lt_g).symm
              have Nza : gz ≠ ga := by rw [hg]; exact (Nat.ne_of_lt (blk_lt HA.out)).symm
              have Nzx : gz ≠ gx := by rw [hg]; exact (Nat.ne_of_lt (blk_lt BX.out)).symm
              have GEz : W.heap.size ≤ gz := by rw [hg]; exact HB.out.size
              replace HI := Aside0.mk (HI.out.below hb)
              replace HIR := Aside0.mk (HIR.out.below hb)
              replace HA := Aside0.mk (show Act8 w11 ga a from blk_below HA.out hb)
              replace BX := Aside0.mk (blk_below BX.out hb)
              replace HB := Aside0.mk (below_step HB.out hb)
              clear hbox hb hg
              refine hK.out _ _ HA.out.c8 (fun hHeld => ?_)
              clear hK K
              refine norm_ (a' := ?_) ?_ ?_
              rotate_left
              · show Act.put _ (some 14) _ = _
                (simp only [Act.put, List.setIfInBounds_toArray, List.set_cons_zero, List.set_cons_succ, i64_w, i32_w])
                rfl
              refine one_ (i := 10) (N := some 69) #[true, true, true, true, true, true, true, true, true, true, true, false, false, false, false, true, false, false, false] rfl rfl (by kernel_rfl) (by decide) (fun K hK => ?_)
              refine goes_ Try.func42 (by kernel_rfl) rfl #[.pointer (some ⟨q, 0, none⟩), .int .i64 (kq : Int), .int .i64 a.2.1, wv a.2.2.1, wv a.2.2.2] (by rfl) rfl rfl (by (try simp only [List.map_toArray, List.map_cons, List.map_nil]); first | done | rfl | (simp only [List.length_drop, List.length_take]; rfl)) ?_
              refine (ref_c q h ws cnt a.2.1 kq HKL.out a.2.2.1 a.2.2.2 _ HIR.out).mono ?_
              rintro e w10 ⟨x', is', f', ws2', n2', rfl, hi, hk, hs⟩
              rw [HS.out] at hs
              simp only [Prod.mk.injEq] at hs
              obtain ⟨rfl, rfl, rfl, rfl, rfl⟩ := hs
              refine ⟨_, rfl, ?_⟩
              replace HI := Aside0.mk (HI.out.kept hk Npq.out Nph.out Ngq.out Ngh.out)
              replace HA := Aside0.mk (show Act8 w10 ga a from Kept.blk hk HA.out Naq.out Nah.out)
              replace BX := Aside0.mk (Kept.blk hk BX.out Nxq.out Nxh.out)
              replace BZ := Aside0.mk (Kept.blk hk BZ.out Nzq Nzh)
              replace HB := Aside0.mk (Kept.below hk HB.out HQ0.out HH0.out)
              replace HIR := Aside0.mk hi
              clear hi hk
              refine hK.out _ _ HA.out.c8 (fun hHeld => ?_)
              clear hK K
              refine norm_ (a' := ?_) ?_ ?_
              rotate_left
              · show Act.put _ (some 69) _ = _
                (simp only [Act.put, List.setIfInBounds_toArray, List.set_cons_zero, List.set_cons_succ, i64_w, i32_w])
                rfl
              refine pure_ (i := 11) (N := some 58) (v := ?_) (a' := ?_) #[true, true, true, true, true, true, true, true, true, true, true, true, false, false, false, true, false, false, false] rfl rfl (by kernel_rfl) (fun _ _ _ h => h) (Or.inl ⟨by rfl, ?_⟩) ?_ ?_
              rotate_left
              · intro w'
                go_simp
                with_reducible rfl
              rotate_left
              · (simp only [Act.put, List.setIfInBounds_toArray, List.set_cons_zero, List.set_cons_succ, i64_w, i32_w])
                rfl
              refine pure_ (i := 12) (N := some 70) (v := ?_) (a' := ?_) #[true, true, true, true, true, true, true, true, true, true, true, true, true, false, false, true, false, false, false] rfl rfl (by kernel_rfl) (fun _ _ _ h => h) (Or.inl ⟨by rfl, ?_⟩) ?_ ?_
              rotate_left
              · intro w'
                go_simp
                with_reducible rfl
              rotate_left
              · (simp only [Act.put, List.setIfInBounds_toArray, List.set_cons_zero, List.set_cons_succ, i64_w, i32_w])
                rfl
              refine pure_ (i := 13) (N := some 71) (v := ?_) (a' := ?_) #[true, true, true, true, true, true, true, true, true, true, true, true, true, true, false, true, false, false, false] rfl rfl (by kernel_rfl) (fun _ _ _ h => h) (Or.inl ⟨by rfl, ?_⟩) ?_ ?_
              rotate_left
              · intro w'
                go_simp
                with_reducible rfl
              rotate_left
              · (simp only [Act.put, List.setIfInBounds_toArray, List.set_cons_zero, List.set_cons_succ, i64_w, i32_w])
                rfl
              refine pure_ (i := 14) (N := some 72) (v := ?_) (a' := ?_) #[true, true, true, true, true, true, true, true, true, true, true, true, true, true, true, true, false, false, false] rfl rfl (by kernel_rfl) (fun _ _ _ h => h) (Or.inl ⟨by rfl, ?_⟩) ?_ ?_
              rotate_left
              · intro w'
                go_simp
                with_reducible rfl
              rotate_left
              · (simp only [Act.put, List.setIfInBounds_toArray, List.set_cons_zero, List.set_cons_succ, i64_w, i32_w])
                rfl
              refine one_ (i := 16) (N := none) #[true, true, true, true, true, true, true, true, true, true, true, true, true, true, true, true, true, false, false] rfl rfl (by kernel_rfl) (by decide) (fun K hK => ?_)
              have zc0 := (blk_cell BZ.out 0).trans (show _ = some (Value.int .i64 0) from rfl)
              have zc1 := (blk_cell BZ.out 1).trans (show _ = some (Value.int .i64 0) from rfl)
              have zc2 := (blk_cell BZ.out 2).trans (show _ = some (Value.int .i64 0) from rfl)
              have zf0 := blk_frozen BZ.out 0; have zf1 := blk_frozen BZ.out 1; have zf2 := blk_frozen BZ.out 2
              refine skip_ (by rfl) rfl (w1 := ((World.setCell w10 ⟨gz, 0, none⟩ (.int .i64 x.1)).setCell ⟨gz, 1, none⟩ (.int .i64 x.2.1)).setCell ⟨gz, 2, none⟩ (.int .i64 x.2.2)) ?hr3 ?_
              case hr3 => first | (go_simp; done) | (go_simp; rfl)
              clear zc0 zc1 zc2 zf0 zf1 zf2
              replace BZ := Aside0.mk (blk_put (cs := #[.int .i64 x.1, .int .i64 x.2.1, .int .i64 0]) (blk_put (cs := #[.int .i64 x.1, .int .i64 0, .int .i64 0]) (blk_put (cs := #[.int .i64 0, .int .i64 0, .int .i64 0]) BZ.out 0 (.int .i64 x.1) rfl) 1 (.int .i64 x.2.1) rfl) 2 (.int .i64 x.2.2) rfl)
              replace HI := Aside0.mk (IsC.far (IsC.far (IsC.far HI.out Nzp Nzg 0 (.int .i64 x.1)) Nzp Nzg 1 (.int .i64 x.2.1)) Nzp Nzg 2 (.int .i64 x.2.2))
              replace HIR := Aside0.mk (IsR.far (IsR.far (IsR.far HIR.out Nzq Nzh 0 (.int .i64 x.1)) Nzq Nzh 1 (.int .i64 x.2.1)) Nzq Nzh 2 (.int .i64 x.2.2))
              replace HA := Aside0.mk (act_far (act_far (act_far HA.out Nza 0 (.int .i64 x.1)) Nza 1 (.int .i64 x.2.1)) Nza 2 (.int .i64 x.2.2))
              replace BX := Aside0.mk (blk_far (p := ⟨gz, 2, none⟩) (blk_far (p := ⟨gz, 1, none⟩) (blk_far (p := ⟨gz, 0, none⟩) BX.out Nzx.symm (.int .i64 x.1)) Nzx.symm (.int .i64 x.2.1)) Nzx.symm (.int .i64 x.2.2))
              replace HB := Aside0.mk (below_set (j := 2) (v := .int .i64 x.2.2) (below_set (j := 1) (v := .int .i64 x.2.1) (below_set (j := 0) (v := .int .i64 x.1) HB.out GEz) GEz) GEz)
              refine hK.out _ _ HA.out.c8 (fun hHeld => ?_)
              clear hK K
              refine pure_ (i := 17) (N := some 15) (v := ?_) (a' := ?_) #[true, true, true, true, true, true, true, true, true, true, true, true, true, true, true, true, true, true, false] rfl rfl (by kernel_rfl) (fun _ _ _ h => h) (Or.inl ⟨by rfl, ?_⟩) ?_ ?_
              rotate_left
              · intro w'
                go_simp
                with_reducible rfl
              rotate_left
              · (simp only [Act.put, List.setIfInBounds_toArray, List.set_cons_zero, List.set_cons_succ, i64_w, i32_w])
                rfl
              refine pure_ (i := 18) (N := some 16) (v := ?_) (a' := ?_) #[true, true, true, true, true, true, true, true, true, true, true, true, true, true, true, true, true, true, true] rfl rfl (by kernel_rfl) (fun _ _ _ h => h) (Or.inl ⟨by rfl, ?_⟩) ?_ ?_
              rotate_left
              · intro w'
                go_simp
                with_reducible rfl
              rotate_left
              · (simp only [Act.put, List.setIfInBounds_toArray, List.set_cons_zero, List.set_cons_succ, i64_w, i32_w])
                rfl
              refine done_ (by kernel_rfl) ?_
              try go_wp2
              go_meet
              case rel => exact ⟨gz, rfl, rfl, rfl, BZ, BX, HI, HIR, HB⟩
          · skip
            refine box_step (by rfl) (N := 14) rfl (cs := #[.int .i64 0, .int .i64 0, .int .i64 0]) (t := 47) ?hr4 ?_
            case hr4 => first | (go_simp; done) | (go_simp; rfl)
            intro gz hg w11 hbox hb
            have BZ := Aside0.mk hbox
            have Nzp : gz ≠ p := by rw [hg]; exact (Nat.ne_of_lt HI.out.lt_p).symm
            have Nzg : gz ≠ g := by rw [hg]; exact (Nat.ne_of_lt HI.out.lt_g).symm
            have Nzq : gz ≠ q := by rw [hg]; exact (Nat.ne_of_lt HIR.out.lt_p).symm
            have Nzh : gz ≠ h := by rw [hg]; exact (Nat.ne_of_lt HIR.out.lt_g).symm
            have Nza : gz ≠ ga := by rw [hg]; exact (Nat.ne_of_lt (blk_lt HA.out)).symm
            have Nzx : gz ≠ gx := by rw [hg]; exact (Nat.ne_of_lt (blk_lt BX.out)).symm
            have GEz : W.heap.size ≤ gz := by rw [hg]; exact HB.out.size
            replace HI := Aside0.mk (HI.out.below hb)
            replace HIR := Aside0.mk (HIR.out.below hb)
            replace HA := Aside0.mk (show Act8 w11 ga a from blk_below HA.out hb)
            replace BX := Aside0.mk (blk_below BX.out hb)
            replace HB := Aside0.mk (below_step HB.out hb)
            clear hbox hb hg
            refine hK.out _ _ HA.out.c8 (fun hHeld => ?_)
            clear hK K
            refine norm_ (a' := ?_) ?_ ?_
            rotate_left
            · show Act.put _ (some 14) _ = _
              (simp only [Act.put, List.setIfInBounds_toArray, List.set_cons_zero, List.set_cons_succ, i64_w, i32_w])
              rfl
            refine one_ (i := 3) (N := some 62) #[true, true, true, true, true, true, true, true, true, true, false, false, false, false, false, true, false, false, false] rfl rfl (by kernel_rfl) (by decide) (fun K hK => ?_)
            refine goes_ Try.func40 (by kernel_rfl) rfl #[.int .i64 a.1, .int .i64 4] (by rfl) rfl rfl (by (try simp only [List.map_toArray, List.map_cons, List.map_nil]); first | done | rfl | (simp only [List.length_drop, List.length_take]; rfl)) ?_
            refine (among4_c a.1 kq HKQ.out _).mono ?_
            rintro e w8 ⟨rfl, ⟨j1, rfl⟩⟩
            refine ⟨_, rfl, ?_⟩
            replace HI := Aside0.mk (HI.out.drewN j1)
            replace HIR := Aside0.mk (HIR.out.drewN j1)
            replace HA := Aside0.mk (show Act8 (World.drewN _ j1) ga a from HA.out)
            replace BX := Aside0.mk (blk_drewN BX.out j1)
            replace HB := Aside0.mk (pw_below_drewN HB.out j1)
            replace BZ := Aside0.mk (blk_drewN BZ.out j1)
            generalize World.drewN _ j1 = w9 at HI HIR HA BX HB BZ ⊢
            refine hK.out _ _ HA.out.c8 (fun hHeld => ?_)
            clear hK K
            refine norm_ (a' := ?_) ?_ ?_
            rotate_left
            · show Act.put _ (some 62) _ = _
              (simp only [Act.put, List.setIfInBounds_toArray, List.set_cons_zero, List.set_cons_succ, i64_w, i32_w])
              rfl
            refine one_ (i := 10) (N := some 69) #[true, true, true, true, true, true, true, true, true, true, true, false, false, false, false, true, false, false, false] rfl rfl (by kernel_rfl) (by decide) (fun K hK => ?_)
            refine goes_ Try.func42 (by kernel_rfl) rfl #[.pointer (some ⟨q, 0, none⟩), .int .i64 (kq : Int), .int .i64 a.2.1, wv a.2.2.1, wv a.2.2.2] (by rfl) rfl rfl (by (try simp only [List.map_toArray, List.map_cons, List.map_nil]); first | done | rfl | (simp only [List.length_drop, List.length_take]; rfl)) ?_
            refine (ref_c q h ws cnt a.2.1 kq HKL.out a.2.2.1 a.2.2.2 _ HIR.out).mono ?_
            rintro e w10 ⟨x', is', f', ws2', n2', rfl, hi, hk, hs⟩
            rw [HS.out] at hs
            simp only [Prod.mk.injEq] at hs
            obtain ⟨rfl, rfl, rfl, rfl, rfl⟩ := hs
            refine ⟨_, rfl, ?_⟩
            replace HI := Aside0.mk (HI.out.kept hk Npq.out Nph.out Ngq.out Ngh.out)
            replace HA := Aside0.mk (show Act8 w10 ga a from Kept.blk hk HA.out Naq.out Nah.out)
            replace BX := Aside0.mk (Kept.blk hk BX.out Nxq.out Nxh.out)
            replace BZ := Aside0.mk (Kept.blk hk BZ.out Nzq Nzh)
            replace HB := Aside0.mk (Kept.below hk HB.out HQ0.out HH0.out)
            replace HIR := Aside0.mk hi
            clear hi hk
            refine hK.out _ _ HA.out.c8 (fun hHeld => ?_)
            clear hK K
            refine norm_ (a' := ?_) ?_ ?_
            rotate_left
            · show Act.put _ (some 69) _ = _
              (simp only [Act.put, List.setIfInBounds_toArray, List.set_cons_zero, List.set_cons_succ, i64_w, i32_w])
              rfl
            refine pure_ (i := 11) (N := some 58) (v := ?_) (a' := ?_) #[true, true, true, true, true, true, true, true, true, true, true, true, false, false, false, true, false, false, false] rfl rfl (by kernel_rfl) (fun _ _ _ h => h) (Or.inl ⟨by rfl, ?_⟩) ?_ ?_
            rotate_left
            · intro w'
              go_simp
              with_reducible rfl
            rotate_left
            · (simp only [Act.put, List.setIfInBounds_toArray, List.set_cons_zero, List.set_cons_succ, i64_w, i32_w])
              rfl
            refine pure_ (i := 12) (N := some 70) (v := ?_) (a' := ?_) #[true, true, true, true, true, true, true, true, true, true, true, true, true, false, false, true, false, false, false] rfl rfl (by kernel_rfl) (fun _ _ _ h => h) (Or.inl ⟨by rfl, ?_⟩) ?_ ?_
            rotate_left
            · intro w'
              go_simp
              with_reducible rfl
            rotate_left
            · (simp only [Act.put, List.setIfInBounds_toArray, List.set_cons_zero, List.set_cons_succ, i64_w, i32_w])
              rfl
            refine pure_ (i := 13) (N := some 71) (v := ?_) (a' := ?_) #[true, true, true, true, true, true, true, true, true, true, true, true, true, true, false, true, false, false, false] rfl rfl (by kernel_rfl) (fun _ _ _ h => h) (Or.inl ⟨by rfl, ?_⟩) ?_ ?_
            rotate_left
            · intro w'
              go_simp
              with_reducible rfl
            rotate_left
            · (simp only [Act.put, List.setIfInBounds_toArray, List.set_cons_zero, List.set_cons_succ, i64_w, i32_w])
              rfl
            refine pure_ (i := 14) (N := some 72) (v := ?_) (a' := ?_) #[true, true, true, true, true, true, true, true, true, true, true, true, true, true, true, true, false, false, false] rfl rfl (by kernel_rfl) (fun _ _ _ h => h) (Or.inl ⟨by rfl, ?_⟩) ?_ ?_
            rotate_left
            · intro w'
              go_simp
              with_reducible rfl
            rotate_left
            · (simp only [Act.put, List.setIfInBounds_toArray, List.set_cons_zero, List.set_cons_succ, i64_w, i32_w])
              rfl
            refine one_ (i := 16) (N := none) #[true, true, true, true, true, true, true, true, true, true, true, true, true, true, true, true, true, false, false] rfl rfl (by kernel_rfl) (by decide) (fun K hK => ?_)
            have zc0 := (blk_cell BZ.out 0).trans (show _ = some (Value.int .i64 0) from rfl)
            have zc1 := (blk_cell BZ.out 1).trans (show _ = some (Value.int .i64 0) from rfl)
            have zc2 := (blk_cell BZ.out 2).trans (show _ = some (Value.int .i64 0) from rfl)
            have zf0 := blk_frozen BZ.out 0; have zf1 := blk_frozen BZ.out 1; have zf2 := blk_frozen BZ.out 2
            refine skip_ (by rfl) rfl (w1 := ((World.setCell w10 ⟨gz, 0, none⟩ (.int .i64 x.1)).setCell ⟨gz, 1, none⟩ (.int .i64 x.2.1)).setCell ⟨gz, 2, none⟩ (.int .i64 x.2.2)) ?hr5 ?_
            case hr5 => first | (go_simp; done) | (go_simp; rfl)
            clear zc0 zc1 zc2 zf0 zf1 zf2
            replace BZ := Aside0.mk (blk_put (cs := #[.int .i64 x.1, .int .i64 x.2.1, .int .i64 0]) (blk_put (cs := #[.int .i64 x.1, .int .i64 0, .int .i64 0]) (blk_put (cs := #[.int .i64 0, .int .i64 0, .int .i64 0]) BZ.out 0 (.int .i64 x.1) rfl) 1 (.int .i64 x.2.1) rfl) 2 (.int .i64 x.2.2) rfl)
            replace HI := Aside0.mk (IsC.far (IsC.far (IsC.far HI.out Nzp Nzg 0 (.int .i64 x.1)) Nzp Nzg 1 (.int .i64 x.2.1)) Nzp Nzg 2 (.int .i64 x.2.2))
            replace HIR := Aside0.mk (IsR.far (IsR.far (IsR.far HIR.out Nzq Nzh 0 (.int .i64 x.1)) Nzq Nzh 1 (.int .i64 x.2.1)) Nzq Nzh 2 (.int .i64 x.2.2))
            replace HA := Aside0.mk (act_far (act_far (act_far HA.out Nza 0 (.int .i64 x.1)) Nza 1 (.int .i64 x.2.1)) Nza 2 (.int .i64 x.2.2))
            replace BX := Aside0.mk (blk_far (p := ⟨gz, 2, none⟩) (blk_far (p := ⟨gz, 1, none⟩) (blk_far (p := ⟨gz, 0, none⟩) BX.out Nzx.symm (.int .i64 x.1)) Nzx.symm (.int .i64 x.2.1)) Nzx.symm (.int .i64 x.2.2))
            replace HB := Aside0.mk (below_set (j := 2) (v := .int .i64 x.2.2) (below_set (j := 1) (v := .int .i64 x.2.1) (below_set (j := 0) (v := .int .i64 x.1) HB.out GEz) GEz) GEz)
            refine hK.out _ _ HA.out.c8 (fun hHeld => ?_)
            clear hK K
            refine pure_ (i := 17) (N := some 15) (v := ?_) (a' := ?_) #[true, true, true, true, true, true, true, true, true, true, true, true, true, true, true, true, true, true, false] rfl rfl (by kernel_rfl) (fun _ _ _ h => h) (Or.inl ⟨by rfl, ?_⟩) ?_ ?_
            rotate_left
            · intro w'
              go_simp
              with_reducible rfl
            rotate_left
            · (simp only [Act.put, List.setIfInBounds_toArray, List.set_cons_zero, List.set_cons_succ, i64_w, i32_w])
              rfl
            refine pure_ (i := 18) (N := some 16) (v := ?_) (a' := ?_) #[true, true, true, true, true, true, true, true, true, true, true, true, true, true, true, true, true, true, true] rfl rfl (by kernel_rfl) (fun _ _ _ h => h) (Or.inl ⟨by rfl, ?_⟩) ?_ ?_
            rotate_left
            · intro w'
              go_simp
              with_reducible rfl
            rotate_left
            · (simp only [Act.put, List.setIfInBounds_toArray, List.set_cons_zero, List.set_cons_succ, i64_w, i32_w])
              rfl
            refine done_ (by kernel_rfl) ?_
            try go_wp2
            go_meet
            case rel => exact ⟨gz, rfl, rfl, rfl, BZ, BX, HI, HIR, HB⟩
        case rest =>
          clear HI HIR HA BX HB
          obtain ⟨gz, rfl, rfl, rfl, BZ, BX, HI, HIR, HB⟩ := hcut
          have x0 : wc.cell? ⟨gx, 0, none⟩ = some (.int .i64 x.1) := (blk_cell BX.out 0).trans rfl
          have x1 : wc.cell? ⟨gx, 1, none⟩ = some (.int .i64 x.2.1) := (blk_cell BX.out 1).trans rfl
          have x2 : wc.cell? ⟨gx, 2, none⟩ = some (.int .i64 x.2.2) := (blk_cell BX.out 2).trans rfl
          have z0 : wc.cell? ⟨gz, 0, none⟩ = some (.int .i64 x.1) := (blk_cell BZ.out 0).trans rfl
          have z1 : wc.cell? ⟨gz, 1, none⟩ = some (.int .i64 x.2.1) := (blk_cell BZ.out 1).trans rfl
          have z2 : wc.cell? ⟨gz, 2, none⟩ = some (.int .i64 x.2.2) := (blk_cell BZ.out 2).trans rfl
          have hneq := neq47 x x false (same3 _)
          obtain ⟨r0, r1, r2⟩ := HIR.out.c
          have HWL2 : Aside0 (ws2.length = m) := ⟨by have := stepF_len kq ws cnt a.2.1 a.2.2.1 a.2.2.2; rw [HS.out] at this; exact this.trans HWL.out⟩
          clear HS HKQ HKL HWL
          go_wp2
          go_quiet (with_reducible exact quiet1 (count_made p g ws2 n2 _ (HI.out.drewN _)))
          go_wp2
          go_loopg [17] (m + 3) (fun gg s17 wr => ∃ t : Nat, t ≤ m + 2 ∧ m + 3 - t ≤ gg ∧ s17 = .int .i64 ((t : Int) - 1) ∧ Aside0 (IsC wr p g ws2 n2) ∧ Aside0 (IsR wr q h ws2 n2) ∧ Aside0 (Below W.heap.size W wr))
          case atStart => exact ⟨0, Nat.zero_le _, by omega, rfl, ⟨HI.out.drewN _⟩, ⟨HIR.out.drewN _⟩, ⟨pw_below_drewN HB.out _⟩⟩
          case round =>
            clear HI HIR HB x0 x1 x2 z0 z1 z2 r0 r1 r2 BX BZ hneq
            obtain ⟨t, ht, hgg2, rfl, HI, HIR, HB0⟩ := hrel
            by_cases hk2 : (t : Int) - 1 ≤ (m : Int)
            · have hle : decide ((t : Int) - 1 ≤ (m : Int)) = true := decide_eq_true hk2
              have HB := HB0
              have HK2 := Aside0.mk hk2
              by_cases hin : 0 ≤ (t : Int) - 1 ∧ (t : Int) - 1 < (m : Int)
              · have e0 : decide (0 ≤ (t : Int) - 1) = true := decide_eq_true hin.1
                have e1 : decide ((t : Int) - 1 < (m : Int)) = true := decide_eq_true hin.2
                obtain ⟨j, hj⟩ : ∃ j : Nat, (t : Int) - 1 = j := ⟨((t : Int) - 1).toNat, by omega⟩
                have hjl : j < ws2.length := by have := HWL2.out; omega
                obtain ⟨z, hz⟩ : ∃ z, ws2[j]? = some z := ⟨ws2[j], List.getElem?_eq_getElem hjl⟩
                have HZ := Aside0.mk hz
                have hjI : (j : Int) < (ws2.length : Int) := by omega
                rw [hj] at e0 e1 hle
                rw [hj]
                have hjm : j < m := by omega
                have HJK := Aside0.mk hj
                have hwk : IntKind.i64.wrap ((j : Int) + 1) = (j : Int) + 1 := by rw [IntKind.wrap_i64]; omega
                clear hz hin hk2 hj
                go_upto_region 20 with (first | ((with_reducible refine gate_dst (N := 18) rfl ?_); refine box_event ?hg (N := 18) ?hd (cs := #[.int .i64 0, .int .i64 0, .int .i64 0]) (t := 47) ?hr ?_; (case hd => rfl); (case hg => rfl); (case hr => first | (go_simp; done) | (go_simp; rfl)); intro gq hg wq hbox hb; have n0_ := Aside0.mk (below_step (by repeat (first | (with_reducible first | exact HB.out | apply below_alloc | apply pw_below_drewN | apply below_drew1) | exact HB.out)) hb); have n1_ := Aside0.mk (hbox); have n2_ := Aside0.mk ((by rw [hg]; exact (below_size (by repeat (first | (with_reducible first | exact HB.out | apply below_alloc | apply pw_below_drewN | apply below_drew1) | exact HB.out))) : W.heap.size ≤ gq)); clear HB; have HB := n0_; have Bq := n1_; have GEq := n2_; clear n0_ n1_ n2_; have HQ := Aside0.mk hb; have HGQ := Aside0.mk (Nat.le_of_eq hg.symm); clear hb hbox hg; have hcq0_q : wq.cell? ⟨gq, 0, none⟩ = some (.int .i64 0) := (blk_cell Bq.out 0).trans rfl; have hfq0_q := blk_frozen Bq.out 0; have hcq1_q : wq.cell? ⟨gq, 1, none⟩ = some (.int .i64 0) := (blk_cell Bq.out 1).trans rfl; have hfq1_q := blk_frozen Bq.out 1; have hcq2_q : wq.cell? ⟨gq, 2, none⟩ = some (.int .i64 0) := (blk_cell Bq.out 2).trans rfl; have hfq2_q := blk_frozen Bq.out 2; obtain ⟨r0, r1, r2⟩ := (HIR.out.below HQ.out).c; obtain ⟨d0, d1, d2, -, -, -⟩ := (HIR.out.below HQ.out).get HZ.out; have hq1 : q ≠ gq := Nat.ne_of_lt (Nat.lt_of_lt_of_le HIR.out.lt_p HGQ.out); have hq2 : gq ≠ q := hq1.symm; have hh1 : h ≠ gq := Nat.ne_of_lt (Nat.lt_of_lt_of_le HIR.out.lt_g HGQ.out); have hh2 : gq ≠ h := hh1.symm))
                obtain ⟨w8, hw⟩ : ∃ w, w = ((((((wq.setCell ⟨gq, 0, none⟩ (.int .i64 0)).setCell ⟨gq, 1, none⟩ (.int .i64 0)).setCell ⟨gq, 2, none⟩ (.int .i64 0)).setCell ⟨gq, 0, none⟩ (.int .i64 z.1)).setCell ⟨gq, 1, none⟩ (.int .i64 z.2.1)).setCell ⟨gq, 2, none⟩ (.int .i64 z.2.2)) := ⟨_, rfl⟩
                rw [← hw]
                have HQ8 : Aside0 (Below wr.heap.size wr w8) := ⟨by rw [hw]; exact (below_set (below_set (below_set (below_set (below_set (below_set HQ.out HGQ.out) HGQ.out) HGQ.out) HGQ.out) HGQ.out) HGQ.out)⟩
                have Bw : Aside0 (w8.heap[gq]? = some (.cells #[.int .i64 z.1, .int .i64 z.2.1, .int .i64 z.2.2] 47 (0, 0))) := ⟨by rw [hw]; refine blk_put (cs := #[.int .i64 z.1, .int .i64 z.2.1, .int .i64 0]) ?_ 2 _ rfl; skip; refine blk_put (cs := #[.int .i64 z.1, .int .i64 0, .int .i64 0]) ?_ 1 _ rfl; skip; refine blk_put (cs := #[.int .i64 0, .int .i64 0, .int .i64 0]) ?_ 0 _ rfl; skip; refine blk_put (cs := #[.int .i64 0, .int .i64 0, .int .i64 0]) ?_ 2 _ rfl; skip; refine blk_put (cs := #[.int .i64 0, .int .i64 0, .int .i64 0]) ?_ 1 _ rfl; skip; refine blk_put (cs := #[.int .i64 0, .int .i64 0, .int .i64 0]) ?_ 0 _ rfl; skip; exact Bq.out⟩
                clear hw Bq HQ HB
                clear hcq0_q hfq0_q hcq1_q hfq1_q hcq2_q hfq2_q
                have HB8 := Aside0.mk (below_step HB0.out HQ8.out)
                have HI8 := Aside0.mk (HI.out.below HQ8.out)
                have HIR8 := Aside0.mk (HIR.out.below HQ8.out)
                have hneq := neq47 z z false (same3 _)
                have Hall := Aside0.mk (want_all w8 gq z Bw.out)
                obtain ⟨q0, q1, q2, hheld⟩ := Hall.out w8 (Held.refl w8)
                go_region_held3 (fun w' => w'.cell? ⟨gq, 0, none⟩ = some (.int .i64 z.1) ∧ w'.cell? ⟨gq, 1, none⟩ = some (.int .i64 z.2.1) ∧ w'.cell? ⟨gq, 2, none⟩ = some (.int .i64 z.2.2) ∧ Held w8 w')
                  ((go_split_ands; first | exact Hall.out _ (by assumption) | exact Hall.out _ (Held.drewN (by assumption) _) | exact Hall.out _ (Held.drew (by assumption)) | exact Hall.out _ (Held.below (by assumption) (by assumption))))
                  ((go_at_call 39; go_split_ands; (with_reducible refine (peek_in p g ws2 n2 j z _ (HI8.out.below (Held.out (by assumption))) HZ.out).mono ?_); rintro y w5 ⟨rfl, hb⟩))
                go_wp2
                go_split_ands
                go_roundg (m + 3 - (t + 1))
                case measure => omega
                case rel => exact ⟨t + 1, by have := HJK.out; have := HK2.out; omega, by omega, by have hjk := HJK.out; first | (congr 1; omega) | go_num, ⟨HI8.out.below (Held.out (by assumption))⟩, ⟨HIR8.out.below (Held.out (by assumption))⟩, ⟨below_step HB8.out (Held.out (by assumption))⟩⟩
              · have hoo := HWL2.out
                obtain ⟨k, hkt⟩ : ∃ k, (t : Int) - 1 = k := ⟨_, rfl⟩
                rw [hkt] at hin hk2 hle
                rw [hkt]
                have HO := Aside0.mk (show decide (0 ≤ k ∧ k < (ws2.length : Int)) = false from decide_eq_false (by omega))
                have hwk : IntKind.i64.wrap (k + 1) = k + 1 := by rw [IntKind.wrap_i64]; omega
                have HJK := Aside0.mk hkt
                obtain ⟨b0, e0⟩ : ∃ b0, decide (0 ≤ k) = b0 := ⟨_, rfl⟩
                have e1 : b0 = true → decide (k < (m : Int)) = false := fun hh => by subst hh; exact decide_eq_false (by have := of_decide_eq_true e0; omega)
                clear hoo hkt hk2
                cases b0 with
                | true =>
                  have e2 := e1 rfl
                  clear e1 hin
                  go_upto_region 20 with (first | ((with_reducible refine gate_dst (N := 18) rfl ?_); refine box_event ?hg (N := 18) ?hd (cs := #[.int .i64 0, .int .i64 0, .int .i64 0]) (t := 47) ?hr ?_; (case hd => rfl); (case hg => rfl); (case hr => first | (go_simp; done) | (go_simp; rfl)); intro gq hg wq hbox hb; have n0_ := Aside0.mk (below_step (by repeat (first | (with_reducible first | exact HB.out | apply below_alloc | apply pw_below_drewN | apply below_drew1) | exact HB.out)) hb); have n1_ := Aside0.mk (hbox); have n2_ := Aside0.mk ((by rw [hg]; exact (below_size (by repeat (first | (with_reducible first | exact HB.out | apply below_alloc | apply pw_below_drewN | apply below_drew1) | exact HB.out))) : W.heap.size ≤ gq)); clear HB; have HB := n0_; have Bq := n1_; have GEq := n2_; clear n0_ n1_ n2_; have HQ := Aside0.mk hb; have HGQ := Aside0.mk (Nat.le_of_eq hg.symm); clear hb hbox hg; have hcq0_q : wq.cell? ⟨gq, 0, none⟩ = some (.int .i64 0) := (blk_cell Bq.out 0).trans rfl; have hfq0_q := blk_frozen Bq.out 0; have hcq1_q : wq.cell? ⟨gq, 1, none⟩ = some (.int .i64 0) := (blk_cell Bq.out 1).trans rfl; have hfq1_q := blk_frozen Bq.out 1; have hcq2_q : wq.cell? ⟨gq, 2, none⟩ = some (.int .i64 0) := (blk_cell Bq.out 2).trans rfl; have hfq2_q := blk_frozen Bq.out 2))
                  obtain ⟨w8, hw⟩ : ∃ w, w = (((wq.setCell ⟨gq, 0, none⟩ (.int .i64 0)).setCell ⟨gq, 1, none⟩ (.int .i64 0)).setCell ⟨gq, 2, none⟩ (.int .i64 0)) := ⟨_, rfl⟩
                  rw [← hw]
                  have HQ8 : Aside0 (Below wr.heap.size wr w8) := ⟨by rw [hw]; exact (below_set (below_set (below_set HQ.out HGQ.out) HGQ.out) HGQ.out)⟩
                  have Bw : Aside0 (w8.heap[gq]? = some (.cells #[.int .i64 zero.1, .int .i64 zero.2.1, .int .i64 zero.2.2] 47 (0, 0))) := ⟨by rw [hw]; refine blk_put (cs := #[.int .i64 0, .int .i64 0, .int .i64 0]) ?_ 2 _ rfl; skip; refine blk_put (cs := #[.int .i64 0, .int .i64 0, .int .i64 0]) ?_ 1 _ rfl; skip; refine blk_put (cs := #[.int .i64 0, .int .i64 0, .int .i64 0]) ?_ 0 _ rfl; skip; exact Bq.out⟩
                  clear hw Bq HQ HB
                  clear hcq0_q hfq0_q hcq1_q hfq1_q hcq2_q hfq2_q
                  have HB8 := Aside0.mk (below_step HB0.out HQ8.out)
                  have HI8 := Aside0.mk (HI.out.below HQ8.out)
                  have HIR8 := Aside0.mk (HIR.out.below HQ8.out)
                  have hneq := neq47 zero zero false (same3 _)
                  have Hall := Aside0.mk (want_all w8 gq zero Bw.out)
                  obtain ⟨q0, q1, q2, hheld⟩ := Hall.out w8 (Held.refl w8)
                  go_region_held3 (fun w' => w'.cell? ⟨gq, 0, none⟩ = some (.int .i64 zero.1) ∧ w'.cell? ⟨gq, 1, none⟩ = some (.int .i64 zero.2.1) ∧ w'.cell? ⟨gq, 2, none⟩ = some (.int .i64 zero.2.2) ∧ Held w8 w')
                    ((go_split_ands; first | exact Hall.out _ (by assumption) | exact Hall.out _ (Held.drewN (by assumption) _) | exact Hall.out _ (Held.drew (by assumption)) | exact Hall.out _ (Held.below (by assumption) (by assumption))))
                    ((go_at_call 39; go_split_ands; (with_reducible refine (peek_out p g ws2 n2 _ _ (HI8.out.below (Held.out (by assumption))) HO.out).mono ?_); rintro y w5 ⟨rfl, hb⟩))
                  go_wp2
                  go_split_ands
                  go_roundg (m + 3 - (t + 1))
                  case measure => omega
                  case rel => exact ⟨t + 1, by have := HJK.out; have := HK2.out; omega, by omega, by have hjk := HJK.out; first | (congr 1; omega) | go_num, ⟨HI8.out.below (Held.out (by assumption))⟩, ⟨HIR8.out.below (Held.out (by assumption))⟩, ⟨below_step HB8.out (Held.out (by assumption))⟩⟩
                | false =>
                  clear e1 hin
                  go_upto_region 20 with (first | ((with_reducible refine gate_dst (N := 18) rfl ?_); refine box_event ?hg (N := 18) ?hd (cs := #[.int .i64 0, .int .i64 0, .int .i64 0]) (t := 47) ?hr ?_; (case hd => rfl); (case hg => rfl); (case hr => first | (go_simp; done) | (go_simp; rfl)); intro gq hg wq hbox hb; have n0_ := Aside0.mk (below_step (by repeat (first | (with_reducible first | exact HB.out | apply below_alloc | apply pw_below_drewN | apply below_drew1) | exact HB.out)) hb); have n1_ := Aside0.mk (hbox); have n2_ := Aside0.mk ((by rw [hg]; exact (below_size (by repeat (first | (with_reducible first | exact HB.out | apply below_alloc | apply pw_below_drewN | apply below_drew1) | exact HB.out))) : W.heap.size ≤ gq)); clear HB; have HB := n0_; have Bq := n1_; have GEq := n2_; clear n0_ n1_ n2_; have HQ := Aside0.mk hb; have HGQ := Aside0.mk (Nat.le_of_eq hg.symm); clear hb hbox hg; have hcq0_q : wq.cell? ⟨gq, 0, none⟩ = some (.int .i64 0) := (blk_cell Bq.out 0).trans rfl; have hfq0_q := blk_frozen Bq.out 0; have hcq1_q : wq.cell? ⟨gq, 1, none⟩ = some (.int .i64 0) := (blk_cell Bq.out 1).trans rfl; have hfq1_q := blk_frozen Bq.out 1; have hcq2_q : wq.cell? ⟨gq, 2, none⟩ = some (.int .i64 0) := (blk_cell Bq.out 2).trans rfl; have hfq2_q := blk_frozen Bq.out 2))
                  obtain ⟨w8, hw⟩ : ∃ w, w = (((wq.setCell ⟨gq, 0, none⟩ (.int .i64 0)).setCell ⟨gq, 1, none⟩ (.int .i64 0)).setCell ⟨gq, 2, none⟩ (.int .i64 0)) := ⟨_, rfl⟩
                  rw [← hw]
                  have HQ8 : Aside0 (Below wr.heap.size wr w8) := ⟨by rw [hw]; exact (below_set (below_set (below_set HQ.out HGQ.out) HGQ.out) HGQ.out)⟩
                  have Bw : Aside0 (w8.heap[gq]? = some (.cells #[.int .i64 zero.1, .int .i64 zero.2.1, .int .i64 zero.2.2] 47 (0, 0))) := ⟨by rw [hw]; refine blk_put (cs := #[.int .i64 0, .int .i64 0, .int .i64 0]) ?_ 2 _ rfl; skip; refine blk_put (cs := #[.int .i64 0, .int .i64 0, .int .i64 0]) ?_ 1 _ rfl; skip; refine blk_put (cs := #[.int .i64 0, .int .i64 0, .int .i64 0]) ?_ 0 _ rfl; skip; exact Bq.out⟩
                  clear hw Bq HQ HB
                  clear hcq0_q hfq0_q hcq1_q hfq1_q hcq2_q hfq2_q
                  have HB8 := Aside0.mk (below_step HB0.out HQ8.out)
                  have HI8 := Aside0.mk (HI.out.below HQ8.out)
                  have HIR8 := Aside0.mk (HIR.out.below HQ8.out)
                  have hneq := neq47 zero zero false (same3 _)
                  have Hall := Aside0.mk (want_all w8 gq zero Bw.out)
                  obtain ⟨q0, q1, q2, hheld⟩ := Hall.out w8 (Held.refl w8)
                  go_region_held3 (fun w' => w'.cell? ⟨gq, 0, none⟩ = some (.int .i64 zero.1) ∧ w'.cell? ⟨gq, 1, none⟩ = some (.int .i64 zero.2.1) ∧ w'.cell? ⟨gq, 2, none⟩ = some (.int .i64 zero.2.2) ∧ Held w8 w')
                    ((go_split_ands; first | exact Hall.out _ (by assumption) | exact Hall.out _ (Held.drewN (by assumption) _) | exact Hall.out _ (Held.drew (by assumption)) | exact Hall.out _ (Held.below (by assumption) (by assumption))))
                    ((go_at_call 39; go_split_ands; (with_reducible refine (peek_out p g ws2 n2 _ _ (HI8.out.below (Held.out (by assumption))) HO.out).mono ?_); rintro y w5 ⟨rfl, hb⟩))
                  go_wp2
                  go_split_ands
                  go_roundg (m + 3 - (t + 1))
                  case measure => omega
                  case rel => exact ⟨t + 1, by have := HJK.out; have := HK2.out; omega, by omega, by have hjk := HJK.out; first | (congr 1; omega) | go_num, ⟨HI8.out.below (Held.out (by assumption))⟩, ⟨HIR8.out.below (Held.out (by assumption))⟩, ⟨below_step HB8.out (Held.out (by assumption))⟩⟩
            · have hle : decide ((t : Int) - 1 ≤ (m : Int)) = false := decide_eq_false hk2
              go_wp2
              go_roundg (acts.length + 1 - (kk + 1))
              case measure => omega
              case rel => exact ⟨kk + 1, ws2, n2, by omega, by omega, by go_num, HWL2, HI, HIR, HB0⟩
      · have hlt60 : ¬ (kk : Int) < 60 := by omega
        go_wp2_with (go_at_call 35; (with_reducible refine (works_c _).mono ?_); rintro x w9 ⟨rfl, hb⟩; have HW := Aside0.mk hb; clear hb)
        go_ret
        exact ⟨rfl, below_step (by repeat (with_reducible first | exact HB0.out | apply pw_below_drewN | apply below_drew1)) HW.out⟩
    · have hlt : ¬ (kk : Int) < (acts.length : Int) := by omega
      go_wp2_with (go_at_call 35; (with_reducible refine (works_c _).mono ?_); rintro x w9 ⟨rfl, hb⟩; have HW := Aside0.mk hb; clear hb)
      go_ret
      exact ⟨rfl, below_step (by repeat (with_reducible first | exact HB0.out | apply pw_below_drewN | apply below_drew1)) HW.out⟩

theorem CellPlays (n : Int) (A : Option Addr) (cap : Nat) (acts : List Act4) (W : World) (hn : (Lit.int .u8 n).wf = true) (hr : RA 8 actCells W A acts) :
    Calls Try.prog 10 #[.int .u8 n, .slice A acts.length cap] W fun e w' => e = .returned (.bool true) ∧ Below W.heap.size W w' := by
  have hb := bounds_u8 hn
  exact plays_walk n A cap acts W hb.1 hb.2 hr (n % 7).toNat (by omega) (by omega)

end Go.Proofs.Ytchgkgfhkkffeaa.Ce
