/- The script layer's law of decode and encode, and encode against the reference. -/
import Derived.Test.YtfpjfndelkgciaaDoorScrL
namespace Go.Proofs.YtfpjfndelkgciaaDoor.Sc
open Go.RowKit Go.Proofs.YtfpjfndelkgciaaDoorW.PrintWords Go.Proofs.YtfpjfndelkgciaaDoorW.PrintLast Go.Proofs.YtfpjfndelkgciaaDoorW.PrintMore
open HScript (S25 S54 k25 k54 z25 z54)
open Fw (usesB Used)
set_option linter.unusedVariables false
set_option linter.unusedSimpArgs false

theorem law_back (v u : Value) (l : List S54) (bs : List Int) (W : World) (h : Es W v l) (h' : Bs W u bs) (hb : Rg bs) (HU : Used W) : Calls Tryd.prog 7 #[v, u] W fun e w' => e = .returned (.bool true) ∧ Below W.heap.size W w' := by
  obtain ⟨b1, hb1⟩ : ∃ b, b = bs.take 20000 := ⟨_, rfl⟩
  have G1 : Rg b1 := by rw [hb1]; exact hb.take _
  obtain ⟨l1, hl1⟩ : ∃ b, b = l.take 5001 := ⟨_, rfl⟩
  have el1 : l1.take 5001 = l1 := by rw [hl1]; exact take2 _ _
  obtain ⟨x, hx⟩ : ∃ x, (encode l1).1 = x := ⟨_, rfl⟩
  obtain ⟨z, hz⟩ : ∃ z, (encode l1).2 = z := ⟨_, rfl⟩
  obtain ⟨m, hm⟩ : ∃ m, decode b1 = m := ⟨_, rfl⟩
  obtain ⟨y, hy⟩ : ∃ y, (encode m).1 = y := ⟨_, rfl⟩
  have bk := back b1 G1
  rw [hm] at bk
  have hm5 : ((m.length : Int) ≤ 5000) := by have := bk.2; omega
  have hm5d : decide ((m.length : Int) ≤ 5000) = true := decide_eq_true hm5
  have HL1 := Aside0.mk (show b1.length ≤ 1000000000 by rw [hb1, List.length_take]; omega)
  have HLL := Aside0.mk (show l1.length ≤ 100000 by rw [hl1, List.length_take]; omega)
  have HML := Aside0.mk (show m.length ≤ 100000 by have := bk.2; omega)
  have HZM := Aside0.mk bk.1
  have HG := Aside0.mk G1
  have HGX := Aside0.mk (show Rg x by rw [← hx]; exact rg_encode l1)
  have HGY := Aside0.mk (show Rg y by rw [← hy]; exact rg_encode m)
  have HXL := Aside0.mk (show x.length ≤ 1000000000 by rw [← hx]; have := encode_len l1; omega)
  have HYL := Aside0.mk (show y.length ≤ 1000000000 by rw [← hy]; have := encode_len m; omega)
  have HDX := Aside0.mk (show z = 0 → decode x = l1 by intro h; rw [← hx]; exact decode_encode (hz.trans h))
  have HDY := Aside0.mk (show decode y = m by rw [← hy]; exact decode_encode bk.1)
  have HS1 := Aside0.mk (same_refl l1)
  have HSM := Aside0.mk (same_refl m)
  have HV := Aside0.mk h
  have HVB := Aside0.mk h'
  have H1 := Aside0.mk hb1.symm
  have H2 := Aside0.mk hl1.symm
  have H3 := Aside0.mk el1
  have HX := Aside0.mk hx
  have HZ := Aside0.mk hz
  have HM := Aside0.mk hm
  have HY := Aside0.mk hy
  have HUs := Aside0.mk HU
  clear hb1 G1 hl1 el1 h h' hb bk hx hz hm hy HU
  go_enter Tryd.func7, Tryd.ntmps7
  go_upto_region 4 with (first
    | (go_at_call 28; (with_reducible refine (works_c _ HUs.out).mono ?_); rintro e w1 ⟨rfl, hb⟩; have HB1 := Aside0.mk hb; clear hb)
    | (go_at_call 29; (with_reducible refine (few_e v l _ (HV.out.below HB1.out)).mono ?_); rintro e w2 ⟨u2, rfl, h1, hb⟩; rw [H2.out] at h1; have E2 := Aside0.mk h1; have HB2 := Aside0.mk (below_step HB1.out hb); clear h1 hb)
    | (go_at_call 24; (with_reducible refine (bytes_e u bs _ (HVB.out.below HB2.out)).mono ?_); rintro e w3 ⟨u3, rfl, h1, hb⟩; rw [H1.out] at h1; have B3 := Aside0.mk h1; have HB23 := Aside0.mk hb; have HB3 := Aside0.mk (below_step HB2.out hb); clear h1 hb))
  go_upto_region 5 with (first
    | (go_at_call 29; (with_reducible refine (few_e u2 l1 _ (E2.out.below HB23.out)).mono ?_); rintro e w4 ⟨u4, rfl, h1, hb⟩; rw [H3.out] at h1; have E4 := Aside0.mk h1; have HB24 := Aside0.mk (below_step HB23.out hb); have HB34 := Aside0.mk hb; have HB4 := Aside0.mk (below_step HB3.out hb); clear h1 hb)
    | (go_at_call 30; (with_reducible refine (encode_e u4 l1 _ E4.out (HUs.out.below HB4.out)).mono ?_); rintro e w5 ⟨u5, rfl, h1, hb⟩; rw [HX.out] at h1; rw [HZ.out]; have B5 := Aside0.mk h1; have HB25 := Aside0.mk (below_step HB24.out hb); have HB35 := Aside0.mk (below_step HB34.out hb); have HB5 := Aside0.mk (below_step HB4.out hb); clear h1 hb))
  by_cases hz0 : z = 0
  · subst hz0
    go_upto_region 7 with (first
      | (go_at_call 26; (with_reducible refine (decode_e u5 x _ B5.out HGX.out HXL.out (HUs.out.below HB5.out)).mono ?_); rintro e w6 ⟨u6, rfl, h1, hb⟩; rw [HDX.out rfl] at h1; have E6 := Aside0.mk h1; have HB26 := Aside0.mk (below_step HB25.out hb); have HB36 := Aside0.mk (below_step HB35.out hb); have HB6 := Aside0.mk (below_step HB5.out hb); clear h1 hb)
      | (go_at_call 25; (with_reducible refine (rsame_e u6 u2 _ _ _ E6.out (E2.out.below HB26.out) HLL.out).mono ?_); rw [HS1.out]; rintro e w6' ⟨rfl, ⟨q6, rfl⟩⟩))
    go_upto_region 9 with (first
      | (go_at_call 26; (with_reducible refine (decode_e u3 b1 _ (B3.out.below (by repeat (with_reducible first | exact HB36.out | apply pw_below_drewN | apply below_drew1))) HG.out HL1.out (HUs.out.below (by repeat (with_reducible first | exact HB6.out | apply pw_below_drewN | apply below_drew1)))).mono ?_); rw [HM.out]; rintro e w7 ⟨u7, rfl, h1, hb⟩; obtain ⟨A7, c7, ev7, hc7, hC7⟩ := h1.is; subst ev7; have E7 := Aside0.mk (Es.mk ⟨A7, c7, rfl, hc7, hC7⟩); have HB7 := Aside0.mk (below_step (by repeat (with_reducible first | exact HB6.out | apply pw_below_drewN | apply below_drew1)) hb); clear h1 hb hc7 hC7)
      | (go_at_call 30; (with_reducible refine (encode_e _ m _ E7.out (HUs.out.below HB7.out)).mono ?_); rintro e w8 ⟨u8, rfl, h1, hb⟩; rw [HY.out] at h1; rw [HZM.out]; have B8 := Aside0.mk h1; have HB78 := Aside0.mk hb; have HB8 := Aside0.mk (below_step HB7.out hb); clear h1 hb))
    go_wp2_with (first
      | (go_at_call 26; (with_reducible refine (decode_e u8 y _ B8.out HGY.out HYL.out (HUs.out.below HB8.out)).mono ?_); rw [HDY.out]; rintro e w9 ⟨u9, rfl, h1, hb⟩; have E9 := Aside0.mk h1; have HB79 := Aside0.mk (below_step HB78.out hb); have HB9 := Aside0.mk (below_step HB8.out hb); clear h1 hb)
      | (go_at_call 25; (with_reducible refine (rsame_e u9 _ _ _ _ E9.out (E7.out.below HB79.out) HML.out).mono ?_); rw [HSM.out]; rintro e w9' ⟨rfl, ⟨q9, rfl⟩⟩))
    go_ret
    exact ⟨rfl, by repeat (with_reducible first | exact HB9.out | apply pw_below_drewN | apply below_drew1)⟩
  · have hz0b : (z == 0) = false := by simpa using hz0
    have hz0e := eq_false hz0
    go_upto_region 7 with (fail)
    go_upto_region 9 with (first
      | (go_at_call 26; (with_reducible refine (decode_e u3 b1 _ (B3.out.below (by repeat (with_reducible first | exact HB35.out | apply pw_below_drewN | apply below_drew1))) HG.out HL1.out (HUs.out.below (by repeat (with_reducible first | exact HB5.out | apply pw_below_drewN | apply below_drew1)))).mono ?_); rw [HM.out]; rintro e w7 ⟨u7, rfl, h1, hb⟩; obtain ⟨A7, c7, ev7, hc7, hC7⟩ := h1.is; subst ev7; have E7 := Aside0.mk (Es.mk ⟨A7, c7, rfl, hc7, hC7⟩); have HB7 := Aside0.mk (below_step (by repeat (with_reducible first | exact HB5.out | apply pw_below_drewN | apply below_drew1)) hb); clear h1 hb hc7 hC7)
      | (go_at_call 30; (with_reducible refine (encode_e _ m _ E7.out (HUs.out.below HB7.out)).mono ?_); rintro e w8 ⟨u8, rfl, h1, hb⟩; rw [HY.out] at h1; rw [HZM.out]; have B8 := Aside0.mk h1; have HB78 := Aside0.mk hb; have HB8 := Aside0.mk (below_step HB7.out hb); clear h1 hb))
    go_wp2_with (first
      | (go_at_call 26; (with_reducible refine (decode_e u8 y _ B8.out HGY.out HYL.out (HUs.out.below HB8.out)).mono ?_); rw [HDY.out]; rintro e w9 ⟨u9, rfl, h1, hb⟩; have E9 := Aside0.mk h1; have HB79 := Aside0.mk (below_step HB78.out hb); have HB9 := Aside0.mk (below_step HB8.out hb); clear h1 hb)
      | (go_at_call 25; (with_reducible refine (rsame_e u9 _ _ _ _ E9.out (E7.out.below HB79.out) HML.out).mono ?_); rw [HSM.out]; rintro e w9' ⟨rfl, ⟨q9, rfl⟩⟩))
    go_ret
    exact ⟨rfl, by repeat (with_reducible first | exact HB9.out | apply pw_below_drewN | apply below_drew1)⟩
theorem Bs.str {w : World} {v : Value} {bs : List Int} (h : Bs w v bs) : (convert 39 9 v).run Tryd.prog w = .ok (.string (strOfNums bs)) w := by
  obtain ⟨A, c, rfl, hl, hC⟩ := h.is
  exact Kd.C_string Tryd.underlying39 Tryd.underlying5 Tryd.underlying9 hC
theorem law_encodes (v u : Value) (l m : List S54) (W : World) (h : Es W v l) (h' : Es W u m) (HU : Used W) : Calls Tryd.prog 8 #[v, u] W fun e w' => e = .returned (.bool true) ∧ Below W.heap.size W w' := by
  obtain ⟨l1, hl1⟩ : ∃ b, b = l.take 5001 := ⟨_, rfl⟩
  have el1 : l1.take 5001 = l1 := by rw [hl1]; exact take2 _ _
  obtain ⟨m1, hm1⟩ : ∃ b, b = m.take 5001 := ⟨_, rfl⟩
  have em1 : m1.take 5001 = m1 := by rw [hm1]; exact take2 _ _
  obtain ⟨x, hx⟩ : ∃ x, (encode l1).1 = x := ⟨_, rfl⟩
  obtain ⟨z, hz⟩ : ∃ z, (encode l1).2 = z := ⟨_, rfl⟩
  obtain ⟨b, hb⟩ : ∃ b, same l1 m1 = b := ⟨_, rfl⟩
  obtain ⟨s, hs⟩ : ∃ s, strOfNums x = s := ⟨_, rfl⟩
  have hss : (s.toList == s.toList) = true := by simp
  have hzz : (z == z) = true := by simp
  have hbb : (b == b) = true := by simp
  have HLL := Aside0.mk (show l1.length ≤ 100000 by rw [hl1, List.length_take]; omega)
  have HV := Aside0.mk h
  have HVM := Aside0.mk h'
  have H1 := Aside0.mk hl1.symm
  have H2 := Aside0.mk hm1.symm
  have H3 := Aside0.mk el1
  have H4 := Aside0.mk em1
  have HX := Aside0.mk hx
  have HZ := Aside0.mk hz
  have HB := Aside0.mk hb
  have HS := Aside0.mk hs
  have HUs := Aside0.mk HU
  clear hl1 el1 hm1 em1 h h' hx hz hb HU hs
  go_enter Tryd.func8, Tryd.ntmps8
  go_upto_region 2 with (first
    | (go_at_call 29; (with_reducible refine (few_e v l _ HV.out).mono ?_); rintro e w2 ⟨u2, rfl, h1, hb⟩; rw [H1.out] at h1; have E2 := Aside0.mk h1; have HB2 := Aside0.mk hb; clear h1 hb)
    | (go_at_call 29; (with_reducible refine (few_e u m _ (HVM.out.below HB2.out)).mono ?_); rintro e w3 ⟨u3, rfl, h1, hb⟩; rw [H2.out] at h1; have E3 := Aside0.mk h1; have HB23 := Aside0.mk hb; have HB3 := Aside0.mk (below_step HB2.out hb); clear h1 hb))
  go_upto_region 4 with (first
    | (go_at_call 29; (with_reducible refine (few_e u2 l1 _ (E2.out.below HB23.out)).mono ?_); rintro e w4 ⟨u4, rfl, h1, hb⟩; rw [H3.out] at h1; have E4 := Aside0.mk h1; have HB34 := Aside0.mk hb; have HB24 := Aside0.mk (below_step HB23.out hb); have HB4 := Aside0.mk (below_step HB3.out hb); clear h1 hb)
    | (go_at_call 30; (with_reducible refine (encode_e u4 l1 _ E4.out (HUs.out.below HB4.out)).mono ?_); rintro e w5 ⟨u5, rfl, h1, hb⟩; rw [HX.out] at h1; rw [HZ.out]; have B5 := Aside0.mk h1; have HB35 := Aside0.mk (below_step HB34.out hb); have HB25 := Aside0.mk (below_step HB24.out hb); have HB5 := Aside0.mk (below_step HB4.out hb); clear h1 hb)
    | (go_at_call 31; (with_reducible refine (rencode_e u2 l1 _ (E2.out.below HB25.out)).mono ?_); rintro e w6 ⟨u6, rfl, h1, hb⟩; rw [HX.out] at h1; rw [HZ.out]; have B6 := Aside0.mk h1; have HB56 := Aside0.mk hb; have HB36 := Aside0.mk (below_step HB35.out hb); have HB26 := Aside0.mk (below_step HB25.out hb); have HB6 := Aside0.mk (below_step HB5.out hb); clear h1 hb))
  have k5 : (convert 39 9 u5).run Tryd.prog w6 = .ok (.string s) w6 := by rw [← HS.out]; exact (B5.out.below HB56.out).str
  have k6 : (convert 39 9 u6).run Tryd.prog w6 = .ok (.string s) w6 := by rw [← HS.out]; exact B6.out.str
  go_wp2_with (first
    | (go_at_call 29; (with_reducible refine (few_e u2 l1 _ (E2.out.below (by repeat (with_reducible first | exact HB26.out | apply pw_below_drewN | apply below_drew1)))).mono ?_); rintro e w7 ⟨u7, rfl, h1, hb⟩; rw [H3.out] at h1; have E7 := Aside0.mk h1; have HB27 := Aside0.mk (below_step HB26.out hb); have HB37 := Aside0.mk (below_step HB36.out hb); have HB7 := Aside0.mk (below_step HB6.out hb); clear h1 hb)
    | (go_at_call 29; (with_reducible refine (few_e u3 m1 _ (E3.out.below HB37.out)).mono ?_); rintro e w8 ⟨u8, rfl, h1, hb⟩; rw [H4.out] at h1; have E8 := Aside0.mk h1; have HB78 := Aside0.mk hb; have HB28 := Aside0.mk (below_step HB27.out hb); have HB38 := Aside0.mk (below_step HB37.out hb); have HB8 := Aside0.mk (below_step HB7.out hb); clear h1 hb)
    | (go_at_call 32; (with_reducible refine (psame_e u7 u8 l1 m1 _ (E7.out.below HB78.out) E8.out HLL.out).mono ?_); rw [HB.out]; rintro e w9 ⟨rfl, ⟨q9, rfl⟩⟩)
    | (go_at_call 25; (with_reducible refine (rsame_e u2 u3 l1 m1 _ (E2.out.below (by repeat (with_reducible first | exact HB28.out | apply pw_below_drewN | apply below_drew1))) (E3.out.below (by repeat (with_reducible first | exact HB38.out | apply pw_below_drewN | apply below_drew1))) HLL.out).mono ?_); rw [HB.out]; rintro e w10 ⟨rfl, ⟨q10, rfl⟩⟩)
    | (go_at_call 28; (with_reducible refine (works_c _ (HUs.out.below (by repeat (with_reducible first | exact HB8.out | apply pw_below_drewN | apply below_drew1)))).mono ?_); rintro e w11 ⟨rfl, hb⟩; have HB11 := Aside0.mk (below_step (by repeat (with_reducible first | exact HB8.out | apply pw_below_drewN | apply below_drew1)) hb); clear hb))
  go_ret
  exact ⟨rfl, by repeat (with_reducible first | exact HB11.out | apply pw_below_drewN | apply below_drew1)⟩
end Go.Proofs.YtfpjfndelkgciaaDoor.Sc