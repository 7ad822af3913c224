/- boscagelaw16's whole that must work: three calls of limbo.Split, as the chapter has them. -/
import Derived.Test.YtjfogghpiclooaaHSplitx2
namespace Go.Proofs.Ytjfogghpiclooaa.HSplit
open Go.RowKit Go.Proofs.YtjfogghpiclooaaW.PrintWords Go.Proofs.YtjfogghpiclooaaW.PrintLast Go.Proofs.YtjfogghpiclooaaW.PrintMore
set_option linter.unusedVariables false
set_option linter.unusedSimpArgs false

/-- A row of one element. -/
theorem C_row1 {α : Type} (d : Kd α) {w : World} {b t : Nat} {x : α} {cs : List Value} (hk : d.K w x cs) (h : w.heap[b]? = some (.cells cs.toArray t (0, 0))) : d.C w (some ⟨b, 0, none⟩) 1 [x] := by
  refine ⟨rfl, by decide, fun _ => ⟨_, rfl, fun j p hj => ?_⟩⟩
  cases j with
  | zero =>
    obtain rfl : x = p := by simpa using hj
    refine ⟨cs, d.K_len hk, hk, fun i u hu => ?_⟩
    have := blk_cell h i
    rw [show (⟨b, 0, none⟩ : Addr).add (0 * d.sz + i) = ⟨b, i, none⟩ by cases i <;> simp [Addr.add]]
    rw [this]
    simpa using hu
  | succ j => simp at hj

/-- A literal's row. -/
theorem lit_event {P : Program} {ops : Array Oper} {rest : List Oper} {o : Oper} {a : Act} {Q : Exit → Act → World → Prop} {W : World} (hgd : o.guard = none) {N : Tmp} (_hd : o.dst = some N) {cs : Array Value} {t : TypeId}
    (hrun : (execOp a.eval o).run P W = .ok (.value (.slice (some ⟨W.heap.size, 0, none⟩) 1 1)) (W.alloc (.cells cs t (0, 0))))
    (h : ∀ g, g = W.heap.size → ∀ w1, w1.heap[g]? = some (.cells cs t (0, 0)) → Below W.heap.size W w1 → wpList P ops Q rest (a.put o.dst (.slice (some ⟨g, 0, none⟩) 1 1)) w1) : wpList P ops Q (o :: rest) a W :=
  Kd.event_run hgd hrun (h _ rfl _ (blk_new W _) (below_alloc (Below.refl _ _) _))

/-- The call of Split with one group (stamp 3, death 5) of one item (1025, born 2). -/
theorem split_one (k : Nat) (gi gg : Nat) (A1 : Option Addr) (l1 : List Int) (A2 : Option Addr) (l2 : List Int) (r1 : List Int) (r2 : List S35) (w : World)
    (hi : w.heap[gi]? = some (.cells #[.int .i64 1025, .int .i64 2] 43 (0, 0))) (hg : w.heap[gg]? = some (.cells #[.int .i64 3, .int .i64 5, .slice (some ⟨gi, 0, none⟩) 1 1] 35 (0, 0)))
    (h1 : Kd.C (Kd.int .i64) w A1 l1.length l1) (h2 : Kd.C (Kd.int .i64) w A2 l2.length l2) (h : limbo_Split.f k [⟨3, 5, [⟨1025, 2⟩]⟩] l1 l2 = some (r1, r2)) :
    Calls Try.prog 8 #[.slice (some ⟨gg, 0, none⟩) 1 1, .slice A1 l1.length l1.length, .slice A2 l2.length l2.length] w fun e w' => (∃ A c A' c', e = .returned (.tuple #[.slice A r1.length c, .slice A' r2.length c'])) ∧ Below w.heap.size w w' := by
  have hI : Kd.C k43 w (some ⟨gi, 0, none⟩) 1 [⟨1025, 2⟩] := C_row1 k43 (cs := [.int .i64 1025, .int .i64 2]) (k43_mk w ⟨1025, 2⟩) hi
  have hG : Kd.C k35 w (some ⟨gg, 0, none⟩) 1 [⟨3, 5, [⟨1025, 2⟩]⟩] := C_row1 k35 (cs := [.int .i64 3, .int .i64 5, .slice (some ⟨gi, 0, none⟩) 1 1]) (k35_mk w ⟨3, 5, [⟨1025, 2⟩]⟩ (A2 := some ⟨gi, 0, none⟩) (c2 := 1) (by decide) hI) hg
  refine (limbo_Split.calls k _ 1 [⟨3, 5, [⟨1025, 2⟩]⟩] A1 l1.length l1 A2 l2.length l2 r1 r2 w hG (by decide) h1 (Nat.le_refl _) h2 (Nat.le_refl _) h).mono ?_
  rintro e w' ⟨v0, v1, rfl, hr, hs, hb⟩
  obtain ⟨A, c, rfl⟩ := Kd.R_slice hr
  obtain ⟨A', c', rfl⟩ := Kd.S_slice hs
  exact ⟨⟨A, c, A', c', rfl⟩, hb⟩

theorem f_one : limbo_Split.f 5 [⟨3, 5, [⟨1025, 2⟩]⟩] [5] [4] = some ([1025], []) := by
  simp [limbo_Split.f, limbo_Split.l0, limbo_part.f, limbo_part.l0, slices_ContainsFunc_int_int.f, span_Has.f, goes, inSpan, rd_T35, rd_T43, wrap64]
theorem f_two : limbo_Split.f 5 [⟨3, 5, [⟨1025, 2⟩]⟩] [4] [] = some ([], [⟨3, 5, [⟨1025, 2⟩]⟩]) := by
  simp [limbo_Split.f, limbo_Split.l0, limbo_part.f, limbo_part.l0, slices_ContainsFunc_int_int.f, span_Has.f, goes, inSpan, rd_T35, rd_T43, wrap64]
theorem f_three : limbo_Split.f 5 [⟨3, 5, [⟨1025, 2⟩]⟩] [] [3] = some ([], [⟨3, 5, [⟨1025, 2⟩]⟩]) := by
  simp [limbo_Split.f, limbo_Split.l0, limbo_part.f, limbo_part.l0, slices_ContainsFunc_int_int.f, span_Has.f, goes, inSpan, rd_T35, rd_T43, wrap64]

theorem works_true (w : World) : Calls Try.prog 15 #[] w fun e w' => e = .returned (.bool true) ∧ Below w.heap.size w w' := by
  have hu35 := Try.underlying35
  have HB := Aside0.mk (Below.refl w.heap.size w)
  go_enter Try.func15, Try.ntmps15
  go_wp2_with (first
    | ((with_reducible refine gate_dst (N := 9) rfl ?_); refine lit_event ?hg (N := 9) ?hd (cs := #[.int .i64 1025, .int .i64 2]) (t := 43) ?hr ?_; (case hd => rfl); (case hg => rfl); (case hr => first | (go_simp; done) | (go_simp; rfl)); intro gi hg w1 hbox hb; have n0_ := Aside0.mk (below_step HB.out hb); have BI := Aside0.mk hbox; clear HB; have HB := n0_; clear n0_ hb hbox hg)
    | ((with_reducible refine gate_dst (N := 1) rfl ?_); refine box_event ?hg (N := 1) ?hd (cs := #[.int .i64 0, .int .i64 0, .slice none 0 0]) (t := 35) ?hr ?_; (case hd => rfl); (case hg => rfl); (case hr => first | (go_simp; done) | (go_simp; rfl)); intro gb hg w2 hbox hb; have n0_ := Aside0.mk (below_step HB.out hb); have n1_ := Aside0.mk (blk_below BI.out hb); have BG := Aside0.mk hbox; have NG := Aside0.mk (show gi ≠ gb by rw [hg]; exact Nat.ne_of_lt (blk_lt BI.out)); have GE := Aside0.mk (show w.heap.size ≤ gb by rw [hg]; exact below_size HB.out); clear HB BI; have HB := n0_; have BI := n1_; clear n0_ n1_ hb hbox hg; have hca_0 := (blk_cell BG.out 0).trans rfl; have hca_1 := (blk_cell BG.out 1).trans rfl; have hca_2 := (blk_cell BG.out 2).trans rfl; have hfa_0 := blk_frozen BG.out 0; have hfa_1 := blk_frozen BG.out 1; have hfa_2 := blk_frozen BG.out 2)
    | ((with_reducible refine gate_dst (N := 13) rfl ?_); refine lit_event ?hg (N := 13) ?hd (cs := #[.int .i64 3, .int .i64 5, .slice (some ⟨gi, 0, none⟩) 1 1]) (t := 35) ?hr ?_; (case hd => rfl); (case hg => rfl); (case hr => first | (go_simp; done) | (go_simp; rfl)); intro g13 hg w13 hbox hb; have n_HB := Aside0.mk (below_step (below_set (below_set (below_set HB.out GE.out) GE.out) GE.out) hb); have n_BI := Aside0.mk (blk_below (blk_far (blk_far (blk_far BI.out NG.out _) NG.out _) NG.out _) hb); have n_BG := Aside0.mk (blk_below (o := .cells #[.int .i64 3, .int .i64 5, .slice (some ⟨gi, 0, none⟩) 1 1] 35 (0, 0)) (blk_put (cs := #[.int .i64 3, .int .i64 5, .slice none 0 0]) (blk_put (cs := #[.int .i64 3, .int .i64 0, .slice none 0 0]) (blk_put (cs := #[.int .i64 0, .int .i64 0, .slice none 0 0]) BG.out 0 _ rfl) 1 _ rfl) 2 _ rfl) hb); have Bg13 := Aside0.mk hbox; clear HB BI BG; have HB := n_HB; have BI := n_BI; have BG := n_BG; clear n_HB n_BI n_BG hb hbox hg)
    | ((with_reducible refine gate_dst (N := 14) rfl ?_); refine lit_event ?hg (N := 14) ?hd (cs := #[.int .i64 5]) (t := 3) ?hr ?_; (case hd => rfl); (case hg => rfl); (case hr => first | (go_simp; done) | (go_simp; rfl)); intro g14 hg w14 hbox hb; have n_HB := Aside0.mk (below_step HB.out hb); have n_BI := Aside0.mk (blk_below BI.out hb); have n_BG := Aside0.mk (blk_below (o := .cells #[.int .i64 3, .int .i64 5, .slice (some ⟨gi, 0, none⟩) 1 1] 35 (0, 0)) BG.out hb); have n_Bg13 := Aside0.mk (blk_below Bg13.out hb); have Bg14 := Aside0.mk hbox; clear HB BI BG Bg13; have HB := n_HB; have BI := n_BI; have BG := n_BG; have Bg13 := n_Bg13; clear n_HB n_BI n_BG n_Bg13 hb hbox hg)
    | ((with_reducible refine gate_dst (N := 15) rfl ?_); refine lit_event ?hg (N := 15) ?hd (cs := #[.int .i64 4]) (t := 3) ?hr ?_; (case hd => rfl); (case hg => rfl); (case hr => first | (go_simp; done) | (go_simp; rfl)); intro g15 hg w15 hbox hb; have n_HB := Aside0.mk (below_step HB.out hb); have n_BI := Aside0.mk (blk_below BI.out hb); have n_BG := Aside0.mk (blk_below (o := .cells #[.int .i64 3, .int .i64 5, .slice (some ⟨gi, 0, none⟩) 1 1] 35 (0, 0)) BG.out hb); have n_Bg13 := Aside0.mk (blk_below Bg13.out hb); have n_Bg14 := Aside0.mk (blk_below Bg14.out hb); have Bg15 := Aside0.mk hbox; clear HB BI BG Bg13 Bg14; have HB := n_HB; have BI := n_BI; have BG := n_BG; have Bg13 := n_Bg13; have Bg14 := n_Bg14; clear n_HB n_BI n_BG n_Bg13 n_Bg14 hb hbox hg)
    | (go_at_call 8; (refine (split_one 5 gi g13 (some ⟨g14, 0, none⟩) [5] (some ⟨g15, 0, none⟩) [4] _ _ _ BI.out Bg13.out (C_row1 (Kd.int .i64) (x := 5) (cs := [.int .i64 5]) rfl Bg14.out) (C_row1 (Kd.int .i64) (x := 4) (cs := [.int .i64 4]) rfl Bg15.out) f_one).mono ?_); rintro e w4 ⟨⟨Ab, cb, Bb, db, rfl⟩, hb⟩; have n_HB := Aside0.mk (below_step HB.out hb); have n_BI := Aside0.mk (blk_below BI.out hb); have n_BG := Aside0.mk (blk_below BG.out hb); clear HB BI BG; have HB := n_HB; have BI := n_BI; have BG := n_BG; clear n_HB n_BI n_BG hb; have hcb_0 := (blk_cell BG.out 0).trans rfl; have hcb_1 := (blk_cell BG.out 1).trans rfl; have hcb_2 := (blk_cell BG.out 2).trans rfl; have hfb_0 := blk_frozen BG.out 0; have hfb_1 := blk_frozen BG.out 1; have hfb_2 := blk_frozen BG.out 2)
    | ((with_reducible refine gate_dst (N := 21) rfl ?_); refine lit_event ?hg (N := 21) ?hd (cs := #[.int .i64 3, .int .i64 5, .slice (some ⟨gi, 0, none⟩) 1 1]) (t := 35) ?hr ?_; (case hd => rfl); (case hg => rfl); (case hr => first | (go_simp; done) | (go_simp; rfl)); intro g21 hg w21 hbox hb; have n_HB := Aside0.mk (below_step HB.out hb); have n_BI := Aside0.mk (blk_below BI.out hb); have n_BG := Aside0.mk (blk_below (o := .cells #[.int .i64 3, .int .i64 5, .slice (some ⟨gi, 0, none⟩) 1 1] 35 (0, 0)) BG.out hb); have Bg21 := Aside0.mk hbox; clear HB BI BG; have HB := n_HB; have BI := n_BI; have BG := n_BG; clear n_HB n_BI n_BG hb hbox hg)
    | ((with_reducible refine gate_dst (N := 22) rfl ?_); refine lit_event ?hg (N := 22) ?hd (cs := #[.int .i64 4]) (t := 3) ?hr ?_; (case hd => rfl); (case hg => rfl); (case hr => first | (go_simp; done) | (go_simp; rfl)); intro g22 hg w22 hbox hb; have n_HB := Aside0.mk (below_step HB.out hb); have n_BI := Aside0.mk (blk_below BI.out hb); have n_BG := Aside0.mk (blk_below (o := .cells #[.int .i64 3, .int .i64 5, .slice (some ⟨gi, 0, none⟩) 1 1] 35 (0, 0)) BG.out hb); have n_Bg21 := Aside0.mk (blk_below Bg21.out hb); have Bg22 := Aside0.mk hbox; clear HB BI BG Bg21; have HB := n_HB; have BI := n_BI; have BG := n_BG; have Bg21 := n_Bg21; clear n_HB n_BI n_BG n_Bg21 hb hbox hg)
    | (go_at_call 8; (refine (split_one 5 gi g21 (some ⟨g22, 0, none⟩) [4] none [] _ _ _ BI.out Bg21.out (C_row1 (Kd.int .i64) (x := 4) (cs := [.int .i64 4]) rfl Bg22.out) (Kd.C_nil _ _) f_two).mono ?_); rintro e w5 ⟨⟨Ac, cc, Bc, dc, rfl⟩, hb⟩; have n_HB := Aside0.mk (below_step HB.out hb); have n_BI := Aside0.mk (blk_below BI.out hb); have n_BG := Aside0.mk (blk_below BG.out hb); clear HB BI BG; have HB := n_HB; have BI := n_BI; have BG := n_BG; clear n_HB n_BI n_BG hb; have hcc_0 := (blk_cell BG.out 0).trans rfl; have hcc_1 := (blk_cell BG.out 1).trans rfl; have hcc_2 := (blk_cell BG.out 2).trans rfl; have hfc_0 := blk_frozen BG.out 0; have hfc_1 := blk_frozen BG.out 1; have hfc_2 := blk_frozen BG.out 2)
    | ((with_reducible refine gate_dst (N := 28) rfl ?_); refine lit_event ?hg (N := 28) ?hd (cs := #[.int .i64 3, .int .i64 5, .slice (some ⟨gi, 0, none⟩) 1 1]) (t := 35) ?hr ?_; (case hd => rfl); (case hg => rfl); (case hr => first | (go_simp; done) | (go_simp; rfl)); intro g28 hg w28 hbox hb; have n_HB := Aside0.mk (below_step HB.out hb); have n_BI := Aside0.mk (blk_below BI.out hb); have n_BG := Aside0.mk (blk_below (o := .cells #[.int .i64 3, .int .i64 5, .slice (some ⟨gi, 0, none⟩) 1 1] 35 (0, 0)) BG.out hb); have Bg28 := Aside0.mk hbox; clear HB BI BG; have HB := n_HB; have BI := n_BI; have BG := n_BG; clear n_HB n_BI n_BG hb hbox hg)
    | ((with_reducible refine gate_dst (N := 29) rfl ?_); refine lit_event ?hg (N := 29) ?hd (cs := #[.int .i64 3]) (t := 3) ?hr ?_; (case hd => rfl); (case hg => rfl); (case hr => first | (go_simp; done) | (go_simp; rfl)); intro g29 hg w29 hbox hb; have n_HB := Aside0.mk (below_step HB.out hb); have n_BI := Aside0.mk (blk_below BI.out hb); have n_BG := Aside0.mk (blk_below (o := .cells #[.int .i64 3, .int .i64 5, .slice (some ⟨gi, 0, none⟩) 1 1] 35 (0, 0)) BG.out hb); have n_Bg28 := Aside0.mk (blk_below Bg28.out hb); have Bg29 := Aside0.mk hbox; clear HB BI BG Bg28; have HB := n_HB; have BI := n_BI; have BG := n_BG; have Bg28 := n_Bg28; clear n_HB n_BI n_BG n_Bg28 hb hbox hg)
    | (go_at_call 8; (refine (split_one 5 gi g28 none [] (some ⟨g29, 0, none⟩) [3] _ _ _ BI.out Bg28.out (Kd.C_nil _ _) (C_row1 (Kd.int .i64) (x := 3) (cs := [.int .i64 3]) rfl Bg29.out) f_three).mono ?_); rintro e w6 ⟨⟨Ad, cd, Bd, dd, rfl⟩, hb⟩; have n_HB := Aside0.mk (below_step HB.out hb); have n_BI := Aside0.mk (blk_below BI.out hb); have n_BG := Aside0.mk (blk_below BG.out hb); clear HB BI BG; have HB := n_HB; have BI := n_BI; have BG := n_BG; clear n_HB n_BI n_BG hb; have hcd_0 := (blk_cell BG.out 0).trans rfl; have hcd_1 := (blk_cell BG.out 1).trans rfl; have hcd_2 := (blk_cell BG.out 2).trans rfl; have hfd_0 := blk_frozen BG.out 0; have hfd_1 := blk_frozen BG.out 1; have hfd_2 := blk_frozen BG.out 2))
  go_ret
  exact ⟨rfl, by repeat (first | (with_reducible first | exact HB.out | apply below_alloc | apply pw_below_drewN | apply below_drew1) | exact HB.out)⟩

end Go.Proofs.Ytjfogghpiclooaa.HSplit
