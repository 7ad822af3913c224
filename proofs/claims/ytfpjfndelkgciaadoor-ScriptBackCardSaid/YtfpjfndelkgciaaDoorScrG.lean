/- The walk of script.Encode. -/
import Derived.Test.YtfpjfndelkgciaaDoorScrP
import Derived.Test.YtfpjfndelkgciaaDoorScrD
namespace Go.Proofs.YtfpjfndelkgciaaDoor.Sc
open Go.RowKit Go.Proofs.YtfpjfndelkgciaaDoorW.PrintWords Go.Proofs.YtfpjfndelkgciaaDoorW.PrintLast Go.Proofs.YtfpjfndelkgciaaDoorW.PrintMore
open HScript (S25 S54 k25 k54 z25 z54)
open Fw (usesB Used)
set_option linter.unusedVariables false
set_option linter.unusedSimpArgs false

theorem eg42 : ∀ args w, (callFunc 42 args).run Tryd.prog w = .ok (.enter 42 args) w := enters_of Tryd.func42 (by kernel_rfl) rfl
theorem text42 (b : Bool) (base gb : Nat) (v : Value) (xs : List Int) (s : ByteArray) (W : World) (h : EN W base gb v xs) (hbase : base ≤ W.heap.size) (hl : xs.length + s.size ≤ 1000000000) :
    Calls Tryd.prog 42 #[.string (uS b), .string s, .pointer (some ⟨gb, 0, none⟩)] W fun e w' => e = .returned (.tuple #[]) ∧ ∃ v', EN w' base gb v' (xs ++ tb b s) ∧ Mv W w' (gone gb v) := by
  cases b with
  | true =>
    refine (text_yes base gb v xs s W h hbase hl).mono ?_
    rintro e w' ⟨he, v', h1, h2⟩
    exact ⟨he, v', by rw [show tb true s = [(s.size : Int) % 256] ++ bytesOf s from rfl, ← List.append_assoc]; exact h1, h2⟩
  | false =>
    refine (text_no gb s W).mono ?_
    rintro e w' ⟨he, ⟨q, rfl⟩⟩
    exact ⟨he, v, by rw [show tb false s = [] from rfl, List.append_nil]; exact h.drewN q, (Mv.refl W _).drewN q⟩
theorem reads2 (W : World) (a b : Int) : ReadsInt (W.alloc (.cells #[.int .u8 a, .int .u8 b] 5)) .u8 (some ⟨W.heap.size, 0, none⟩) 2 [a, b] := by
  have h := blk_new W (.cells #[.int .u8 a, .int .u8 b] 5)
  refine ⟨rfl, by decide, fun _ => ⟨_, rfl, fun j hj => ?_⟩⟩
  rw [add_plain]
  match j, hj with
  | 0, _ => exact (blk_cell h 0).trans rfl
  | 1, _ => exact (blk_cell h 1).trans rfl
/-- Beside the bytes: a block of another type stays. -/
theorem EN.keeps {W w : World} {base gb : Nat} {v : Value} {xs : List Int} (h : EN W base gb v xs) (hm : Mv W w (gone gb v)) {g : Nat} {cs : Array Value} {t : TypeId} (hb : W.heap[g]? = some (.cells cs t (0, 0))) (h1 : 39 ≠ t) (h2 : 5 ≠ t) : w.heap[g]? = some (.cells cs t (0, 0)) := by
  refine hm.blk hb ?_
  rintro (rfl | h3)
  · exact blk_ne h.box hb h1 rfl
  · exact own_ne h.row hb h2 h3
theorem EN.mv_put {W w : World} {base gb : Nat} {v v1 : Value} {xs : List Int} (h : EN W base gb v xs) (hg : W.grownBy w v.ownBlock) : Mv W (w.setCell ⟨gb, 0, none⟩ v1) (gone gb v) :=
  ((Mv.refl W (gone gb v)).grown hg (fun i hi => .inl (.inr hi.symm))).set (.inl (.inl rfl)) _
theorem EN.below_mv {W0 W w : World} {gb : Nat} {v : Value} {xs : List Int} (h : EN W W0.heap.size gb v xs) (hm : Mv W w (gone gb v)) (hb : Below W0.heap.size W0 W) : Below W0.heap.size W0 w :=
  hm.below hb hb.size fun i hi => by
    rcases hi with rfl | hi
    · exact h.ge
    · exact own_base h.row i hi.symm

set_option maxHeartbeats 4000000 in
set_option maxRecDepth 100000 in
theorem encode_c (A : Option Addr) (c : Nat) (l : List S54) (W : World) (hC : Kd.C k54 W A l.length l) (hc : l.length ≤ c) (HU : Used W) :
    Calls Tryd.prog 30 #[.slice A l.length c] W fun e w' => ∃ v, e = .returned (.tuple #[v, .int .i64 (encode l).2]) ∧ w'.ownsRow W.heap.size 5 1 v (encode l).1.length (nums .u8 (encode l).1) ∧ Below W.heap.size W w' := by
  have hu54 := Tryd.underlying54
  have hu25 := Tryd.underlying25
  have HC := Aside0.mk hC
  have eg := eg42
  obtain ⟨R, hR⟩ : ∃ R, R = encode l := ⟨_, rfl⟩
  rw [← hR]
  have HRR := Aside0.mk hR
  clear hC hc hR
  by_cases h5 : (l.length : Int) > 5000
  · have d5 : decide ((5000 : Int) < (l.length : Int)) = true := decide_eq_true h5
    have e5 : R = ([], 7) := by rw [HRR.out]; unfold encode; rw [if_pos h5]
    subst e5
    clear h5 HRR
    go_enter Tryd.func30, Tryd.ntmps30
    go_wp2
    go_ret2
    exact ⟨_, rfl, own_nil _ _ _ _, by repeat (first | exact Below.refl _ _ | apply pw_below_drewN | apply below_drew1)⟩
  have d5 : decide ((5000 : Int) < (l.length : Int)) = false := decide_eq_false h5
  have H5 := Aside0.mk (show l.length ≤ 5000 by omega)
  have hgo : encGo [] l = R := by rw [HRR.out]; unfold encode; rw [if_neg h5]
  have HGO := Aside0.mk hgo
  clear h5 hgo HRR
  go_enter Tryd.func30, Tryd.ntmps30
  go_upto_region 4 with (fail)
  obtain ⟨gb, hgb⟩ : ∃ g, g = W.heap.size := ⟨_, rfl⟩
  obtain ⟨w1, hw⟩ : ∃ w, w = W.alloc (.cells #[.slice none 0 0] 39) := ⟨_, rfl⟩
  rw [← hw]
  try rw [← hgb]
  have HB : Aside0 (Below W.heap.size W w1) := ⟨by rw [hw]; exact below_alloc (Below.refl _ _) _⟩
  have HE : Aside0 (EN w1 W.heap.size gb (.slice none 0 0) []) := ⟨⟨by rw [hw, hgb]; exact heap_alloc_new _ _, own_nil _ _ _ _, Nat.le_of_eq hgb.symm⟩⟩
  clear hw hgb d5
  go_wp2
  go_loopg [16] (l.length + 1) (fun gg s16 wr => ∃ (kk : Nat) (xs : List Int) (v : Value), kk ≤ l.length ∧ l.length + 1 - kk ≤ gg ∧ s16 = .int .i64 (kk : Int) ∧ Aside0 (EN wr W.heap.size gb v xs) ∧ Aside0 (Below W.heap.size W wr) ∧ Aside0 (xs.length ≤ 60 * kk) ∧ Aside0 (encGo xs (l.drop kk) = R))
  case atStart => exact ⟨0, [], _, Nat.zero_le _, by omega, rfl, HE, HB, ⟨Nat.zero_le _⟩, HGO⟩
  case round =>
    clear HE HB HGO
    obtain ⟨kk, xs, v, hkk, hgg, rfl, HE, HB, HX, HGO⟩ := hrel
    by_cases hk : kk < l.length
    · have hlt : (kk : Int) < (l.length : Int) := by omega
      have HKL := Aside0.mk hk
      obtain ⟨⟨T, ⟨op, K, V, O, H⟩⟩, he⟩ : ∃ e, l[kk]? = some e := ⟨l[kk], List.getElem?_eq_getElem hk⟩
      have hrd : HScript.rd_T54 l (kk : Int) = ⟨T, ⟨op, K, V, O, H⟩⟩ := by simp [HScript.rd_T54, he]
      have hdr : l.drop kk = ⟨T, ⟨op, K, V, O, H⟩⟩ :: l.drop (kk + 1) := by rw [List.drop_eq_getElem_cons hk]; congr 1; rw [List.getElem?_eq_getElem hk] at he; exact Option.some.inj he
      obtain ⟨ad, e, x0, x1, x2, x3, x4, x5⟩ := HScript.at_T54 HC.out (kk : Int) (by omega) hlt
      cases e
      rw [hrd, Int.toNat_natCast] at x0 x1 x2 x3 x4 x5
      replace x0 := pw_cell_below HB.out x0
      replace x1 := pw_cell_below HB.out x1
      replace x2 := pw_cell_below HB.out x2
      replace x3 := pw_cell_below HB.out x3
      replace x4 := pw_cell_below HB.out x4
      replace x5 := pw_cell_below HB.out x5
      simp only at x0 x1 x2 x3 x4 x5
      have hgo : (if errE T op K V O H = 0 then encGo (xs ++ encE T op K V O H) (l.drop (kk + 1)) else ([], errE T op K V O H)) = R := by have h := HGO.out; rw [hdr] at h; exact h
      have HGO2 := Aside0.mk hgo
      clear hrd hdr he hgo HGO
      go_upto_region 8 with (fail)
      clear x0 x1 x2 x3 x4 x5
      obtain ⟨ge, hge⟩ : ∃ g, g = wr.heap.size := ⟨_, rfl⟩
      obtain ⟨w2, hw⟩ : ∃ w, w = wr.alloc (.cells #[.int .i64 T, .int .i64 op, .string K, .string V, .string O, .int .i64 H] 54) := ⟨_, rfl⟩
      rw [← hw, ← hge]
      have hb2 : Below wr.heap.size wr w2 := by rw [hw]; exact below_alloc (Below.refl _ _) _
      have Be : Aside0 (w2.heap[ge]? = some (.cells #[.int .i64 T, .int .i64 op, .string K, .string V, .string O, .int .i64 H] 54 (0, 0))) := ⟨by rw [hw, hge]; exact heap_alloc_new _ _⟩
      have HE2 := Aside0.mk (HE.out.below hb2); have HB2 := Aside0.mk (below_step HB.out hb2)
      clear hw hge hb2 HE HB
      obtain ⟨er, her⟩ : ∃ er, er = errE T op K V O H := ⟨_, rfl⟩
      have HER := Aside0.mk (show HScript.script_wrong.f 2 T op K V O H = some er by rw [her]; exact wrong_f 0 T op K V O H)
      have HES := Aside0.mk her
      clear her
      have hc0 : w2.cell? ⟨ge, 0, none⟩ = some (.int .i64 T) := (blk_cell Be.out 0).trans rfl
      have hc1 : w2.cell? ⟨ge, 1, none⟩ = some (.int .i64 op) := (blk_cell Be.out 1).trans rfl
      have hc2 : w2.cell? ⟨ge, 2, none⟩ = some (.string K) := (blk_cell Be.out 2).trans rfl
      have hc3 : w2.cell? ⟨ge, 3, none⟩ = some (.string V) := (blk_cell Be.out 3).trans rfl
      have hc4 : w2.cell? ⟨ge, 4, none⟩ = some (.string O) := (blk_cell Be.out 4).trans rfl
      have hc5 : w2.cell? ⟨ge, 5, none⟩ = some (.int .i64 H) := (blk_cell Be.out 5).trans rfl
      go_upto_region 9 with (go_at_call 43; (with_reducible refine (HScript.script_wrong.calls 2 T op K V O H er _ (HU.below HB2.out) HER.out).mono ?_); rintro e w3 ⟨rfl, hb⟩; have HBW := Aside0.mk hb; clear hb)
      clear hc0 hc1 hc2 hc3 hc4 hc5
      have HE3 := Aside0.mk (HE2.out.below HBW.out); have HB3 := Aside0.mk (below_step HB2.out HBW.out); have Be3 := Aside0.mk (blk_below Be.out HBW.out)
      clear HE2 HB2 Be HBW HER
      have HE := HE3; have HB := HB3; have Be := Be3
      clear HE3 HB3 Be3
      by_cases h0 : er = 0
      · subst h0
        have hgo := HGO2.out
        rw [if_pos HES.out.symm] at hgo
        have HGO := Aside0.mk hgo
        have hsm := err_small HES.out.symm
        have HSM := Aside0.mk hsm
        clear hgo HGO2 HES hsm
        obtain ⟨b0, hb0⟩ : ∃ x, x = usesB op 0 := ⟨_, rfl⟩
        obtain ⟨b1, hb1⟩ : ∃ x, x = usesB op 1 := ⟨_, rfl⟩
        obtain ⟨b2, hb2⟩ : ∃ x, x = usesB op 2 := ⟨_, rfl⟩
        obtain ⟨b3, hb3⟩ : ∃ x, x = usesB op 3 := ⟨_, rfl⟩
        have hus : ∀ W', Used W' → Calls Tryd.prog 39 #[.int .i64 op] W' fun e w' => e = .returned (.agg #[.int .i64 op, .string (uS b0), .string (uS b1), .string (uS b2), .int .i64 (uH b3)]) ∧ Below W'.heap.size W' w' := fun W' h => by rw [hb0, hb1, hb2, hb3]; exact uses39 op W' h
        have HUS := Aside0.mk hus
        have henc : encE T op K V O H = [T % 256, op % 256] ++ tb b0 K ++ tb b1 V ++ tb b2 O ++ hb b3 H := by rw [hb0, hb1, hb2, hb3]; rfl
        have HENC := Aside0.mk henc
        clear hus henc hb0 hb1 hb2 hb3
        have hc0 : w3.cell? ⟨ge, 0, none⟩ = some (.int .i64 T) := (blk_cell Be.out 0).trans rfl
        have hc1 : w3.cell? ⟨ge, 1, none⟩ = some (.int .i64 op) := (blk_cell Be.out 1).trans rfl
        have hc2 : w3.cell? ⟨ge, 2, none⟩ = some (.string K) := (blk_cell Be.out 2).trans rfl
        have hc3 : w3.cell? ⟨ge, 3, none⟩ = some (.string V) := (blk_cell Be.out 3).trans rfl
        have hc4 : w3.cell? ⟨ge, 4, none⟩ = some (.string O) := (blk_cell Be.out 4).trans rfl
        have hc5 : w3.cell? ⟨ge, 5, none⟩ = some (.int .i64 H) := (blk_cell Be.out 5).trans rfl
        go_upto_region 12 with (go_at_call 39; (with_reducible refine (HUS.out _ (HU.below HB.out)).mono ?_); rintro e wu ⟨rfl, hb⟩; have HBU := Aside0.mk hb; clear hb)
        clear hc0 hc1 hc2 hc3 hc4 hc5
        obtain ⟨gu, hgu⟩ : ∃ g, g = wu.heap.size := ⟨_, rfl⟩
        obtain ⟨w4, hw⟩ : ∃ w, w = wu.alloc (.cells #[.int .i64 op, .string (uS b0), .string (uS b1), .string (uS b2), .int .i64 (uH b3)] 25) := ⟨_, rfl⟩
        rw [← hw, ← hgu]
        have hb4 : Below w3.heap.size w3 w4 := by rw [hw]; exact below_step HBU.out (below_alloc (Below.refl _ _) _)
        have Bu : Aside0 (w4.heap[gu]? = some (.cells #[.int .i64 op, .string (uS b0), .string (uS b1), .string (uS b2), .int .i64 (uH b3)] 25 (0, 0))) := ⟨by rw [hw, hgu]; exact heap_alloc_new _ _⟩
        have HE4 := Aside0.mk (HE.out.below hb4); have HB4 := Aside0.mk (below_step HB.out hb4); have Be4 := Aside0.mk (blk_below Be.out hb4)
        clear hw hgu hb4 HBU HUS HE HB Be
        have HE := HE4; have HB := HB4; have Be := Be4
        clear HE4 HB4 Be4
        obtain ⟨Av, cv, rfl⟩ := own_slice HE.out.row
        have c0 := (blk_cell HE.out.box 0).trans (show _ = some (Value.slice Av xs.length cv) from rfl)
        have hc0 : w4.cell? ⟨ge, 0, none⟩ = some (.int .i64 T) := (blk_cell Be.out 0).trans rfl
        have hc1 : w4.cell? ⟨ge, 1, none⟩ = some (.int .i64 op) := (blk_cell Be.out 1).trans rfl
        have hc2 : w4.cell? ⟨ge, 2, none⟩ = some (.string K) := (blk_cell Be.out 2).trans rfl
        have hc3 : w4.cell? ⟨ge, 3, none⟩ = some (.string V) := (blk_cell Be.out 3).trans rfl
        have hc4 : w4.cell? ⟨ge, 4, none⟩ = some (.string O) := (blk_cell Be.out 4).trans rfl
        have hc5 : w4.cell? ⟨ge, 5, none⟩ = some (.int .i64 H) := (blk_cell Be.out 5).trans rfl
        go_upto_region 13 with (first | ((with_reducible refine gate_builtin (b := .append) (xs := #[.tmp 29, .tmp 37]) rfl ?_); at_builtin; refine print_append_row (w0 := w4) W.heap.size rfl (.tmp 29) (.tmp 37) 39 5 .u8 1 rfl Tryd.underlying39 HScript.info5 (by decide) (.slice Av xs.length cv) xs [T % 256, op % 256] (some ⟨w4.heap.size, 0, none⟩) 2 2 rfl rfl (pw_own_below HE.out.row (below_alloc (Below.refl _ _) _)) (reads2 w4 _ _) (below_alloc (Below.refl _ _) _ |> fun h => ⟨h.os, h.tape, h.output, h.size, fun k hk => h.block k (Nat.lt_of_lt_of_le hk HB.out.size)⟩) (Nat.le_trans HB.out.size (below_alloc (Below.refl _ _) _).size) ?aL ?_; (case aL => have := HX.out; have := H5.out; omega); intro v5 w5 hown hb hg hat; obtain ⟨A5, c5, rfl⟩ := own_slice hown; have HO5 := Aside0.mk hown; have HG5 := Aside0.mk hg; have c5' := (blk_cell (blk_grown (blk_below HE.out.box (below_alloc (Below.refl _ _) _)) hg HE.out.ne) 0).trans (show _ = some (Value.slice Av xs.length cv) from rfl); have f5' := blk_frozen (blk_grown (blk_below HE.out.box (below_alloc (Below.refl _ _) _)) hg HE.out.ne) 0; clear hown hb hg hat))
        clear c0
        clear hc0 hc1 hc2 hc3 hc4 hc5
        obtain ⟨x1, hx1⟩ : ∃ ys, ys = xs ++ [T % 256, op % 256] := ⟨_, rfl⟩
        have el : xs.length + 2 = x1.length := by rw [hx1, List.length_append]; rfl
        rw [el]
        have HO6 : Aside0 (w5.ownsRow W.heap.size 5 1 (.slice A5 x1.length c5) x1.length (nums .u8 x1)) := ⟨by rw [hx1]; exact HO5.out⟩
        obtain ⟨w6, hw⟩ : ∃ w, w = w5.setCell ⟨gb, 0, none⟩ (.slice A5 x1.length c5) := ⟨_, rfl⟩
        rw [← hw]
        have HE1 := Aside0.mk (show EN w6 W.heap.size gb (.slice A5 x1.length c5) x1 by rw [hw]; exact (HE.out.below (below_alloc (Below.refl _ _) (.cells #[.int .u8 (T % 256), .int .u8 (op % 256)] 5))).put HG5.out HO6.out rfl)
        have HM0 := Aside0.mk (show Mv w4 w6 (gone gb (.slice Av xs.length cv)) by rw [hw]; exact (Mv.of_below (below_alloc (Below.refl _ _) (.cells #[.int .u8 (T % 256), .int .u8 (op % 256)] 5)) _).trans ((HE.out.below (below_alloc (Below.refl _ _) (.cells #[.int .u8 (T % 256), .int .u8 (op % 256)] 5))).mv_put HG5.out) (fun i hi => .inl hi))
        have HX1 := Aside0.mk (show x1.length ≤ 60 * kk + 2 by rw [← el]; have := HX.out; omega)
        have HQ0 := Aside0.mk hx1
        clear hw el HO5 HO6 HG5 c5' f5' hx1
        have HM := Aside0.mk (show Mv w4 w6 (gone gb (.slice Av xs.length cv)) from HM0.out)
        have Be1 := Aside0.mk (HE.out.keeps HM.out Be.out (by decide) (by decide)); have Bu1 := Aside0.mk (HE.out.keeps HM.out Bu.out (by decide) (by decide)); have HB1 := Aside0.mk (HE.out.below_mv HM.out HB.out)
        clear HM Be Bu HB HE
        have Be := Be1; have Bu := Bu1; have HB := HB1; have HE := HE1
        clear Be1 Bu1 HB1 HE1
        clear HM0
        have hc0 : w6.cell? ⟨ge, 0, none⟩ = some (.int .i64 T) := (blk_cell Be.out 0).trans rfl
        have hc1 : w6.cell? ⟨ge, 1, none⟩ = some (.int .i64 op) := (blk_cell Be.out 1).trans rfl
        have hc2 : w6.cell? ⟨ge, 2, none⟩ = some (.string K) := (blk_cell Be.out 2).trans rfl
        have hc3 : w6.cell? ⟨ge, 3, none⟩ = some (.string V) := (blk_cell Be.out 3).trans rfl
        have hc4 : w6.cell? ⟨ge, 4, none⟩ = some (.string O) := (blk_cell Be.out 4).trans rfl
        have hc5 : w6.cell? ⟨ge, 5, none⟩ = some (.int .i64 H) := (blk_cell Be.out 5).trans rfl
        have hu0 : w6.cell? ⟨gu, 0, none⟩ = some (.int .i64 op) := (blk_cell Bu.out 0).trans rfl
        have hu1 : w6.cell? ⟨gu, 1, none⟩ = some (.string (uS b0)) := (blk_cell Bu.out 1).trans rfl
        have hu2 : w6.cell? ⟨gu, 2, none⟩ = some (.string (uS b1)) := (blk_cell Bu.out 2).trans rfl
        have hu3 : w6.cell? ⟨gu, 3, none⟩ = some (.string (uS b2)) := (blk_cell Bu.out 3).trans rfl
        have hu4 : w6.cell? ⟨gu, 4, none⟩ = some (.int .i64 (uH b3)) := (blk_cell Bu.out 4).trans rfl
        have HT0 := Aside0.mk (show (tb b0 K).length ≤ 17 by have := HSM.out; cases b0 <;> simp [tb, bytesOf_length]; omega)
        have HS0 := Aside0.mk (show x1.length + K.size ≤ 1000000000 by have := HSM.out; have := HX1.out; have := H5.out; omega)
        go_upto_region 14 with (go_at_fn 42; (with_reducible refine (text42 b0 W.heap.size gb (.slice A5 x1.length c5) x1 K _ HE.out HB.out.size HS0.out).mono ?_); rintro e wn0 ⟨rfl, v0, hen, hmv⟩; have HE1 := Aside0.mk hen; have HM0 := Aside0.mk hmv; clear hen hmv)
        clear hc0 hc1 hc2 hc3 hc4 hc5
        clear hu0 hu1 hu2 hu3 hu4
        obtain ⟨y0, hy0⟩ : ∃ ys, ys = x1 ++ tb b0 K := ⟨_, rfl⟩
        rw [← hy0] at HE1
        have HX2 := Aside0.mk (show y0.length ≤ 60 * kk + 19 by rw [hy0, List.length_append]; have := HX1.out; have := HT0.out; omega)
        have HY0 := Aside0.mk hy0
        clear hy0
        have HM := Aside0.mk (show Mv w6 wn0 (gone gb (.slice A5 x1.length c5)) from HM0.out)
        have Be1 := Aside0.mk (HE.out.keeps HM.out Be.out (by decide) (by decide)); have Bu1 := Aside0.mk (HE.out.keeps HM.out Bu.out (by decide) (by decide)); have HB1 := Aside0.mk (HE.out.below_mv HM.out HB.out)
        clear HM Be Bu HB HE
        have Be := Be1; have Bu := Bu1; have HB := HB1; have HE := HE1
        clear Be1 Bu1 HB1 HE1
        clear HM0
        have hc0 : wn0.cell? ⟨ge, 0, none⟩ = some (.int .i64 T) := (blk_cell Be.out 0).trans rfl
        have hc1 : wn0.cell? ⟨ge, 1, none⟩ = some (.int .i64 op) := (blk_cell Be.out 1).trans rfl
        have hc2 : wn0.cell? ⟨ge, 2, none⟩ = some (.string K) := (blk_cell Be.out 2).trans rfl
        have hc3 : wn0.cell? ⟨ge, 3, none⟩ = some (.string V) := (blk_cell Be.out 3).trans rfl
        have hc4 : wn0.cell? ⟨ge, 4, none⟩ = some (.string O) := (blk_cell Be.out 4).trans rfl
        have hc5 : wn0.cell? ⟨ge, 5, none⟩ = some (.int .i64 H) := (blk_cell Be.out 5).trans rfl
        have hu0 : wn0.cell? ⟨gu, 0, none⟩ = some (.int .i64 op) := (blk_cell Bu.out 0).trans rfl
        have hu1 : wn0.cell? ⟨gu, 1, none⟩ = some (.string (uS b0)) := (blk_cell Bu.out 1).trans rfl
        have hu2 : wn0.cell? ⟨gu, 2, none⟩ = some (.string (uS b1)) := (blk_cell Bu.out 2).trans rfl
        have hu3 : wn0.cell? ⟨gu, 3, none⟩ = some (.string (uS b2)) := (blk_cell Bu.out 3).trans rfl
        have hu4 : wn0.cell? ⟨gu, 4, none⟩ = some (.int .i64 (uH b3)) := (blk_cell Bu.out 4).trans rfl
        have HT1 := Aside0.mk (show (tb b1 V).length ≤ 17 by have := HSM.out; cases b1 <;> simp [tb, bytesOf_length]; omega)
        have HS1 := Aside0.mk (show y0.length + V.size ≤ 1000000000 by have := HSM.out; have := HX2.out; have := H5.out; omega)
        go_upto_region 15 with (go_at_fn 42; (with_reducible refine (text42 b1 W.heap.size gb (v0) y0 V _ HE.out HB.out.size HS1.out).mono ?_); rintro e wn1 ⟨rfl, v1, hen, hmv⟩; have HE1 := Aside0.mk hen; have HM0 := Aside0.mk hmv; clear hen hmv)
        clear hc0 hc1 hc2 hc3 hc4 hc5
        clear hu0 hu1 hu2 hu3 hu4
        obtain ⟨y1, hy1⟩ : ∃ ys, ys = y0 ++ tb b1 V := ⟨_, rfl⟩
        rw [← hy1] at HE1
        have HX3 := Aside0.mk (show y1.length ≤ 60 * kk + 36 by rw [hy1, List.length_append]; have := HX2.out; have := HT1.out; omega)
        have HY1 := Aside0.mk hy1
        clear hy1
        have HM := Aside0.mk (show Mv wn0 wn1 (gone gb (v0)) from HM0.out)
        have Be1 := Aside0.mk (HE.out.keeps HM.out Be.out (by decide) (by decide)); have Bu1 := Aside0.mk (HE.out.keeps HM.out Bu.out (by decide) (by decide)); have HB1 := Aside0.mk (HE.out.below_mv HM.out HB.out)
        clear HM Be Bu HB HE
        have Be := Be1; have Bu := Bu1; have HB := HB1; have HE := HE1
        clear Be1 Bu1 HB1 HE1
        clear HM0
        have hc0 : wn1.cell? ⟨ge, 0, none⟩ = some (.int .i64 T) := (blk_cell Be.out 0).trans rfl
        have hc1 : wn1.cell? ⟨ge, 1, none⟩ = some (.int .i64 op) := (blk_cell Be.out 1).trans rfl
        have hc2 : wn1.cell? ⟨ge, 2, none⟩ = some (.string K) := (blk_cell Be.out 2).trans rfl
        have hc3 : wn1.cell? ⟨ge, 3, none⟩ = some (.string V) := (blk_cell Be.out 3).trans rfl
        have hc4 : wn1.cell? ⟨ge, 4, none⟩ = some (.string O) := (blk_cell Be.out 4).trans rfl
        have hc5 : wn1.cell? ⟨ge, 5, none⟩ = some (.int .i64 H) := (blk_cell Be.out 5).trans rfl
        have hu0 : wn1.cell? ⟨gu, 0, none⟩ = some (.int .i64 op) := (blk_cell Bu.out 0).trans rfl
        have hu1 : wn1.cell? ⟨gu, 1, none⟩ = some (.string (uS b0)) := (blk_cell Bu.out 1).trans rfl
        have hu2 : wn1.cell? ⟨gu, 2, none⟩ = some (.string (uS b1)) := (blk_cell Bu.out 2).trans rfl
        have hu3 : wn1.cell? ⟨gu, 3, none⟩ = some (.string (uS b2)) := (blk_cell Bu.out 3).trans rfl
        have hu4 : wn1.cell? ⟨gu, 4, none⟩ = some (.int .i64 (uH b3)) := (blk_cell Bu.out 4).trans rfl
        have HT2 := Aside0.mk (show (tb b2 O).length ≤ 17 by have := HSM.out; cases b2 <;> simp [tb, bytesOf_length]; omega)
        have HS2 := Aside0.mk (show y1.length + O.size ≤ 1000000000 by have := HSM.out; have := HX3.out; have := H5.out; omega)
        go_upto_region 16 with (go_at_fn 42; (with_reducible refine (text42 b2 W.heap.size gb (v1) y1 O _ HE.out HB.out.size HS2.out).mono ?_); rintro e wn2 ⟨rfl, v2, hen, hmv⟩; have HE1 := Aside0.mk hen; have HM0 := Aside0.mk hmv; clear hen hmv)
        clear hc0 hc1 hc2 hc3 hc4 hc5
        clear hu0 hu1 hu2 hu3 hu4
        obtain ⟨y2, hy2⟩ : ∃ ys, ys = y1 ++ tb b2 O := ⟨_, rfl⟩
        rw [← hy2] at HE1
        have HX4 := Aside0.mk (show y2.length ≤ 60 * kk + 53 by rw [hy2, List.length_append]; have := HX3.out; have := HT2.out; omega)
        have HY2 := Aside0.mk hy2
        clear hy2
        have HM := Aside0.mk (show Mv wn1 wn2 (gone gb (v1)) from HM0.out)
        have Be1 := Aside0.mk (HE.out.keeps HM.out Be.out (by decide) (by decide)); have Bu1 := Aside0.mk (HE.out.keeps HM.out Bu.out (by decide) (by decide)); have HB1 := Aside0.mk (HE.out.below_mv HM.out HB.out)
        clear HM Be Bu HB HE
        have Be := Be1; have Bu := Bu1; have HB := HB1; have HE := HE1
        clear Be1 Bu1 HB1 HE1
        clear HM0
        have hu0 : wn2.cell? ⟨gu, 0, none⟩ = some (.int .i64 op) := (blk_cell Bu.out 0).trans rfl
        have hu1 : wn2.cell? ⟨gu, 1, none⟩ = some (.string (uS b0)) := (blk_cell Bu.out 1).trans rfl
        have hu2 : wn2.cell? ⟨gu, 2, none⟩ = some (.string (uS b1)) := (blk_cell Bu.out 2).trans rfl
        have hu3 : wn2.cell? ⟨gu, 3, none⟩ = some (.string (uS b2)) := (blk_cell Bu.out 3).trans rfl
        have hu4 : wn2.cell? ⟨gu, 4, none⟩ = some (.int .i64 (uH b3)) := (blk_cell Bu.out 4).trans rfl
        cases b3 with
        | true =>
          obtain ⟨A7, c7, rfl⟩ := own_slice HE.out.row
          have c0 := (blk_cell HE.out.box 0).trans (show _ = some (Value.slice A7 y2.length c7) from rfl)
          have hc0 : wn2.cell? ⟨ge, 0, none⟩ = some (.int .i64 T) := (blk_cell Be.out 0).trans rfl
          have hc1 : wn2.cell? ⟨ge, 1, none⟩ = some (.int .i64 op) := (blk_cell Be.out 1).trans rfl
          have hc2 : wn2.cell? ⟨ge, 2, none⟩ = some (.string K) := (blk_cell Be.out 2).trans rfl
          have hc3 : wn2.cell? ⟨ge, 3, none⟩ = some (.string V) := (blk_cell Be.out 3).trans rfl
          have hc4 : wn2.cell? ⟨ge, 4, none⟩ = some (.string O) := (blk_cell Be.out 4).trans rfl
          have hc5 : wn2.cell? ⟨ge, 5, none⟩ = some (.int .i64 H) := (blk_cell Be.out 5).trans rfl
          go_upto_region 18 with (first | ((with_reducible refine gate_builtin (b := .append) (xs := #[.tmp 63, .tmp 68]) rfl ?_); at_builtin; refine print_append_num (w0 := wn2) W.heap.size rfl (.tmp 63) (.tmp 68) 39 5 .u8 1 rfl Tryd.underlying39 HScript.info5 (by decide) (.slice A7 y2.length c7) y2 (H % 256) rfl rfl HE.out.row (Below.refl _ _) HB.out.size ?aL ?_; (case aL => have := HX4.out; have := H5.out; omega); intro v8 w8 hown hb hg hat; obtain ⟨A8, c8, rfl⟩ := own_slice hown; have HO8 := Aside0.mk hown; have HG8 := Aside0.mk hg; have c8' := (blk_cell (blk_grown HE.out.box hg HE.out.ne) 0).trans (show _ = some (Value.slice A7 y2.length c7) from rfl); have f8' := blk_frozen (blk_grown HE.out.box hg HE.out.ne) 0; clear hown hb hg hat))
          clear c0
          clear hc0 hc1 hc2 hc3 hc4 hc5
          clear hu0 hu1 hu2 hu3 hu4
          obtain ⟨z, hz⟩ : ∃ ys, ys = y2 ++ [H % 256] := ⟨_, rfl⟩
          have el : y2.length + 1 = z.length := by rw [hz, List.length_append]; rfl
          rw [el]
          have HO9 : Aside0 (w8.ownsRow W.heap.size 5 1 (.slice A8 z.length c8) z.length (nums .u8 z)) := ⟨by rw [hz]; exact HO8.out⟩
          obtain ⟨w9, hw⟩ : ∃ w, w = w8.setCell ⟨gb, 0, none⟩ (.slice A8 z.length c8) := ⟨_, rfl⟩
          rw [← hw]
          have HE1 := Aside0.mk (show EN w9 W.heap.size gb (.slice A8 z.length c8) z by rw [hw]; exact HE.out.put HG8.out HO9.out rfl)
          have HM0 := Aside0.mk (show Mv wn2 w9 (gone gb (.slice A7 y2.length c7)) by rw [hw]; exact HE.out.mv_put HG8.out)
          have HXF := Aside0.mk (show z.length ≤ 60 * kk + 60 by rw [← el]; have := HX4.out; omega)
          have HZ := Aside0.mk (show xs ++ ([T % 256, op % 256] ++ tb b0 K ++ tb b1 V ++ tb b2 O ++ hb true H) = z by rw [hz, HY2.out, HY1.out, HY0.out, HQ0.out]; simp [hb])
          clear hw el HO8 HO9 HG8 c8' f8' hz
          have HM := Aside0.mk (show Mv wn2 w9 (gone gb (.slice A7 y2.length c7)) from HM0.out)
          have Be1 := Aside0.mk (HE.out.keeps HM.out Be.out (by decide) (by decide)); have Bu1 := Aside0.mk (HE.out.keeps HM.out Bu.out (by decide) (by decide)); have HB1 := Aside0.mk (HE.out.below_mv HM.out HB.out)
          clear HM Be Bu HB HE
          have Be := Be1; have Bu := Bu1; have HB := HB1; have HE := HE1
          clear Be1 Bu1 HB1 HE1
          go_wp2
          go_roundg (l.length + 1 - (kk + 1))
          case measure => omega
          case rel => exact ⟨kk + 1, z, _, by have := HKL.out; omega, by have := HKL.out; omega, by have h1 := HKL.out; have h2 := H5.out; show Value.int .i64 (wrap64 ((kk : Int) + 1)) = _; rw [show wrap64 ((kk : Int) + 1) = ((kk + 1 : Nat) : Int) by unfold wrap64; omega], HE, HB, ⟨by have := HXF.out; omega⟩, ⟨by have h := HGO.out; rw [HENC.out] at h; rw [← HZ.out]; exact h⟩⟩
        | false =>
          have HXF := Aside0.mk (show y2.length ≤ 60 * kk + 60 by have := HX4.out; omega)
          have HZ := Aside0.mk (show xs ++ ([T % 256, op % 256] ++ tb b0 K ++ tb b1 V ++ tb b2 O ++ hb false H) = y2 by rw [HY2.out, HY1.out, HY0.out, HQ0.out]; simp [hb])
          go_upto_region 18 with (fail)
          clear hu0 hu1 hu2 hu3 hu4
          go_wp2
          go_roundg (l.length + 1 - (kk + 1))
          case measure => omega
          case rel => exact ⟨kk + 1, y2, _, by have := HKL.out; omega, by have := HKL.out; omega, by have h1 := HKL.out; have h2 := H5.out; show Value.int .i64 (wrap64 ((kk : Int) + 1)) = _; rw [show wrap64 ((kk : Int) + 1) = ((kk + 1 : Nat) : Int) by unfold wrap64; omega], HE, HB, ⟨by have := HXF.out; omega⟩, ⟨by have h := HGO.out; rw [HENC.out] at h; rw [← HZ.out]; exact h⟩⟩
      · have hR : R = ([], er) := by have h := HGO2.out; rw [← HES.out, if_neg h0] at h; exact h.symm
        subst hR
        have hne : (er == 0) = false := beq_eq_false_iff_ne.mpr h0
        have hne2 : (er != 0) = true := bne_iff_ne.mpr h0
        clear HGO2 HES
        go_wp2
        go_ret2
        exact ⟨_, rfl, own_nil _ _ _ _, HB.out⟩
    · have hlt : ¬ (kk : Int) < (l.length : Int) := by omega
      have hR : R = (xs, 0) := by have := HGO.out; rw [List.drop_eq_nil_of_le (by omega)] at this; exact this.symm
      subst hR
      obtain ⟨Av, cv, rfl⟩ := own_slice HE.out.row
      have c0 := (blk_cell HE.out.box 0).trans (show _ = some (Value.slice Av xs.length cv) from rfl)
      go_wp2
      go_ret2
      exact ⟨_, rfl, HE.out.row, HB.out⟩

end Go.Proofs.YtfpjfndelkgciaaDoor.Sc
