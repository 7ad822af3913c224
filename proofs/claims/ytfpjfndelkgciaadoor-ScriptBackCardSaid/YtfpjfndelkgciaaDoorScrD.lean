/- The walk of script.Decode. -/
import Derived.Test.YtfpjfndelkgciaaDoorScrC
import Derived.Test.YtfpjfndelkgciaaDoorHScriptx3
namespace Go.Proofs.YtfpjfndelkgciaaDoor.Sc
open Go.RowKit Go.Proofs.YtfpjfndelkgciaaDoorW.PrintWords Go.Proofs.YtfpjfndelkgciaaDoorW.PrintLast Go.Proofs.YtfpjfndelkgciaaDoorW.PrintMore
open HScript (S25 S54 k25 k54 z25 z54)
open Fw (usesB Used)
set_option linter.unusedVariables false
set_option linter.unusedSimpArgs false

@[go_sem] theorem store_func {P : Program} {w : World} {a : Addr} {m : Mode} (fn : Fn) (first captured : Array Value) : (store a (.func fn first captured) m).run P w = stored P w a (.func fn first captured) m := run_store P w a _ m rfl
def uS (b : Bool) : ByteArray := if b = true then ⟨#[120]⟩ else ⟨#[]⟩
def uH (b : Bool) : Int := if b = true then 1 else 0
theorem uses39 (op : Int) (W : World) (HU : Used W) : Calls Tryd.prog 39 #[.int .i64 op] W fun e w' => e = .returned (.agg #[.int .i64 op, .string (uS (usesB op 0)), .string (uS (usesB op 1)), .string (uS (usesB op 2)), .int .i64 (uH (usesB op 3))]) ∧ Below W.heap.size W w' :=
  HScript.script_uses.calls op _ _ _ _ _ W HU rfl
theorem place_c (b : Bool) (W0 : World) (ga gb gn : Nat) (A : Option Addr) (c : Nat) (bs : List Int) (a : Nat) (s : ByteArray) (r : List Int) (W : World) (h : St W0 W ga gb gn A c bs a) (hb : Rg bs) (hm : bs.length ≤ 1000000000) (hk : tx b (bs.drop a) = (s, r)) :
    Calls Tryd.prog 38 #[.string (uS b), .pointer (some ⟨gn, 0, none⟩), .pointer (some ⟨ga, 0, none⟩), .pointer (some ⟨gb, 0, none⟩)] W fun e w' => TextIs W0 W ga gb gn A c bs s r e w' := by
  cases b with
  | true => exact place_yes W0 ga gb gn A c bs a s r W h hb hm hk
  | false =>
    obtain ⟨rfl, rfl⟩ := Prod.mk.inj (show ((⟨#[]⟩ : ByteArray), bs.drop a) = (s, r) from hk)
    refine (place_no gn ga gb W).mono ?_
    rintro e w' ⟨rfl, ⟨q, rfl⟩⟩
    exact ⟨a, rfl, rfl, h.drewN q, Mv.of_below (pw_below_drewN (Below.refl _ _) q) _⟩
theorem R_mv {w w' : World} {base : Nat} {ok : Nat → Prop} {v : Value} {xs : List S54} {ga : Nat} {cs : Array Value} {t : TypeId} (h : Kd.R k54 54 w base ok v xs) (hm : Mv w w' (fun k => k = ga)) (hb : w.heap[ga]? = some (.cells cs t (0, 0))) (ht : 54 ≠ t) : Kd.R k54 54 w' base ok v xs :=
  Kd.R_mono (Kd.R_step (Kd.R_types h hb (fun q hq => by rcases List.mem_cons.1 hq with rfl | h2; exact ht; simp [k54, Kd.iso, Kd.pair, Kd.int, k25, Kd.string, Kd.scalar] at h2)) fun k hk hlt => hm.block k hlt hk.2) fun _ hk => hk.1

set_option maxHeartbeats 4000000 in
set_option maxRecDepth 100000 in
theorem decode_c (A : Option Addr) (c : Nat) (bs : List Int) (W : World) (hC : Kd.C (Kd.int .u8) W A bs.length bs) (hc : bs.length ≤ c) (hb : Rg bs) (hm : bs.length ≤ 1000000000) (HU : Used W) :
    Calls Tryd.prog 26 #[.slice A bs.length c] W fun e w' => ∃ v, e = .returned v ∧ Kd.R k54 54 w' W.heap.size (fun _ => True) v (decode bs) ∧ Below W.heap.size W w' := by
  have hu54 := Tryd.underlying54
  have hu25 := Tryd.underlying25
  have HC := Aside0.mk hC
  have HL := Aside0.mk hc
  have HG := Aside0.mk hb
  have HM := Aside0.mk hm
  have eg := eg37
  have eg' := eg38
  clear hC hc hb hm
  go_enter Tryd.func26, Tryd.ntmps26
  go_upto_region 2 with (fail)
  obtain ⟨gb, hgb⟩ : ∃ g, g = W.heap.size := ⟨_, rfl⟩
  obtain ⟨ga, hga⟩ : ∃ g, g = W.heap.size + 1 := ⟨_, rfl⟩
  obtain ⟨w1, hw⟩ : ∃ w, w = (W.alloc (.cells #[.slice A bs.length c] 39)).alloc (.cells #[.int .i64 0] 3) := ⟨_, rfl⟩
  rw [← hw, ← hga]
  try rw [← hgb]
  have hb1 : Below W.heap.size W w1 := by rw [hw]; exact below_alloc (below_alloc (Below.refl _ _) _) _
  have hba : w1.heap[ga]? = some (.cells #[.int .i64 0] 3 (0, 0)) := by rw [hw, hga]; exact (show (W.alloc (.cells #[.slice A bs.length c] 39)).heap.size = W.heap.size + 1 by simp) ▸ heap_alloc_new _ _
  have hbb : w1.heap[gb]? = some (.cells #[.slice A bs.length c] 39 (0, 0)) := by rw [hw, hgb]; exact blk_alloc (heap_alloc_new _ _) _
  have HB1 := Aside0.mk hb1
  have HA1 := Aside0.mk hba
  have HBB1 := Aside0.mk hbb
  have HGA := Aside0.mk (show W.heap.size ≤ ga by omega)
  clear hw hga hgb hb1 hba hbb
  go_upto_region 3 with (first | ((with_reducible refine gate_dst (N := 4) rfl ?_); refine box_event ?hg (N := 4) ?hd (cs := #[.nilFunc]) (t := 55) ?hr ?_; (case hd => rfl); (case hg => rfl); (case hr => first | (go_simp; done) | (go_simp; rfl)); intro gn hg wn hbox hb; have Bn := Aside0.mk hbox; have HQ := Aside0.mk hb; have HGN := Aside0.mk (Nat.le_of_eq hg.symm); have hcn : wn.cell? ⟨gn, 0, none⟩ = some (.nilFunc) := (blk_cell Bn.out 0).trans rfl; have hfn := blk_frozen Bn.out 0; clear hbox hb hg))
  obtain ⟨w2, hw⟩ : ∃ w, w = wn.setCell ⟨gn, 0, none⟩ (.func (.func 37) #[] #[.pointer (some ⟨ga, 0, none⟩), .pointer (some ⟨gb, 0, none⟩)]) := ⟨_, rfl⟩
  rw [← hw]
  have HS : Aside0 (St W w2 ga gb gn A c bs 0) := ⟨by
    have hna : gn ≠ ga := (blk_ne (blk_below HA1.out HQ.out) Bn.out (by decide)).symm
    have hnb : gn ≠ gb := (blk_ne (blk_below HBB1.out HQ.out) Bn.out (by decide)).symm
    rw [hw]
    refine ⟨?_, blk_far (blk_below HA1.out HQ.out) hna.symm _, blk_far (blk_below HBB1.out HQ.out) hnb.symm _, blk_put Bn.out 0 _ rfl, HGA.out, Nat.zero_le _, HL.out, HC.out⟩
    exact below_set (below_step HB1.out HQ.out) (by have h1 := HB1.out.size; have h2 : w1.heap.size ≤ gn := HGN.out; omega)⟩
  clear hw Bn HQ HGN hcn hfn HB1 HA1 HBB1
  go_wp2
  go_loopg [6] 5001 (fun gg s6 wr => ∃ (acc : List S54) (a0 : Nat), 5001 - acc.length ≤ gg ∧ acc.length ≤ 5000 ∧ Aside0 (St W wr ga gb gn A c bs a0) ∧ Aside0 (Kd.R k54 54 wr W.heap.size (fun _ => True) s6 acc) ∧ Aside0 (acc ++ decL (5000 - acc.length) (bs.drop a0) = decode bs))
  case atStart => exact ⟨[], 0, Nat.le_refl _, Nat.zero_le _, HS, ⟨Kd.R_nil _ _ _ _ _⟩, ⟨rfl⟩⟩
  case round =>
    clear HS
    obtain ⟨acc, a0, hg, hacc, HS, HR, HD⟩ := hrel
    obtain ⟨Ar, cr, rfl⟩ := Kd.R_slice HR.out
    obtain ⟨c0, f0, c1, c2⟩ := HS.out.cells
    by_cases h0 : a0 < bs.length
    · have hlt : (a0 : Int) < (bs.length : Int) := by omega
      have hne : bs.drop a0 ≠ [] := by intro h; have := List.drop_eq_nil_iff.1 h; omega
      by_cases h5 : acc.length < 5000
      · have hlt5 : (acc.length : Int) < 5000 := by omega
        obtain ⟨n, hn⟩ : ∃ n, 5000 - acc.length = n + 1 := ⟨5000 - acc.length - 1, by omega⟩
        have hdec : acc ++ [(decE (bs.drop a0)).1] ++ decL (5000 - (acc ++ [(decE (bs.drop a0)).1]).length) (decE (bs.drop a0)).2 = decode bs := by
          rw [← HD.out, hn, decL, if_neg hne, List.length_append, List.length_singleton, show 5000 - (acc.length + 1) = n by omega, List.append_assoc]
          rfl
        have HD2 := Aside0.mk hdec
        clear hdec HD hn hne
        obtain ⟨T, hT⟩ : ∃ x, x = hd (bs.drop a0) := ⟨_, rfl⟩
        obtain ⟨r1, hr1⟩ : ∃ x, x = (bs.drop a0).drop 1 := ⟨_, rfl⟩
        obtain ⟨op, hop⟩ : ∃ x, x = hd r1 := ⟨_, rfl⟩
        obtain ⟨r2, hr2⟩ : ∃ x, x = r1.drop 1 := ⟨_, rfl⟩
        obtain ⟨b0, hb0⟩ : ∃ x, x = usesB op 0 := ⟨_, rfl⟩
        obtain ⟨K, r3, hk0⟩ : ∃ s r', tx b0 r2 = (s, r') := ⟨_, _, rfl⟩
        obtain ⟨b1, hb1⟩ : ∃ x, x = usesB op 1 := ⟨_, rfl⟩
        obtain ⟨V, r4, hk1⟩ : ∃ s r', tx b1 r3 = (s, r') := ⟨_, _, rfl⟩
        obtain ⟨b2, hb2⟩ : ∃ x, x = usesB op 2 := ⟨_, rfl⟩
        obtain ⟨O, r5, hk2⟩ : ∃ s r', tx b2 r4 = (s, r') := ⟨_, _, rfl⟩
        obtain ⟨b3, hb3⟩ : ∃ x, x = usesB op 3 := ⟨_, rfl⟩
        obtain ⟨H, r6, hk3⟩ : ∃ s r', nx b3 r5 = (s, r') := ⟨_, _, rfl⟩
        have hE : decE (bs.drop a0) = (⟨T, ⟨op, K, V, O, H⟩⟩, r6) := by
          unfold decE
          simp only [← hr1, ← hop, ← hr2, ← hb0, ← hb1, ← hb2, ← hb3, hk0, hk1, hk2, hk3, ← hT]
        rw [hE] at HD2
        have K0 := Aside0.mk hk0
        have K1 := Aside0.mk hk1
        have K2 := Aside0.mk hk2
        have K3 := Aside0.mk hk3
        have HT := Aside0.mk hT; have HR1_ := Aside0.mk hr1; have HOP := Aside0.mk hop; have HR2_ := Aside0.mk hr2
        have hus : ∀ W', Used W' → Calls Tryd.prog 39 #[.int .i64 op] W' fun e w' => e = .returned (.agg #[.int .i64 op, .string (uS b0), .string (uS b1), .string (uS b2), .int .i64 (uH b3)]) ∧ Below W'.heap.size W' w' := fun W' h => by rw [hb0, hb1, hb2, hb3]; exact uses39 op W' h
        have HUS := Aside0.mk hus
        clear hT hr1 hop hr2 hb0 hb1 hb2 hb3 hk0 hk1 hk2 hk3 hE hus
        go_upto_region 7 with ((go_at_fn 37; (with_reducible refine (next_c W ga gb gn A c bs a0 _ HS.out HG.out HM.out).mono ?_); rintro e w1 ⟨a1, rfl, hr, hs, hm⟩; rw [← HT.out]; have HR1 := Aside0.mk hr; have HS1 := Aside0.mk hs; have HM1 := Aside0.mk hm; clear hr hs hm))
        clear c0 f0 c1 c2
        have HD1 : Aside0 (bs.drop a1 = r1) := ⟨by rw [HR1.out, ← HR1_.out]⟩
        have HRa := Aside0.mk (R_mv HR.out HM1.out HS.out.ba (by decide))
        obtain ⟨ge, hge⟩ : ∃ g, g = w1.heap.size := ⟨_, rfl⟩
        obtain ⟨w2, hw⟩ : ∃ w, w = w1.alloc (.cells #[.int .i64 T, .int .i64 0, .string (⟨#[]⟩ : ByteArray), .string (⟨#[]⟩ : ByteArray), .string (⟨#[]⟩ : ByteArray), .int .i64 0] 54) := ⟨_, rfl⟩
        rw [← hw, ← hge]
        have hb2 : Below w1.heap.size w1 w2 := by rw [hw]; exact below_alloc (Below.refl _ _) _
        have Be : Aside0 (w2.heap[ge]? = some (.cells #[.int .i64 T, .int .i64 0, .string (⟨#[]⟩ : ByteArray), .string (⟨#[]⟩ : ByteArray), .string (⟨#[]⟩ : ByteArray), .int .i64 0] 54 (0, 0))) := ⟨by rw [hw, hge]; exact heap_alloc_new _ _⟩
        have GEe := Aside0.mk (show W.heap.size ≤ ge by rw [hge]; exact HS1.out.bel.size)
        have HRb := Aside0.mk (Kd.R_below (Kd.R_mono (ok' := fun k => k ≠ ge) (Kd.R_bound HRa.out) (fun k hk => by have := hk.2.2.1; omega)) hb2)
        have HSb := Aside0.mk (HS1.out.below hb2)
        clear hw hge hb2 HR HS HRa HS1 HM1 HR1 HT HR1_
        have HR := HRb; have HS := HSb
        clear HRb HSb
        obtain ⟨c0, f0, c1, c2⟩ := HS.out.cells
        have hc0 : w2.cell? ⟨ge, 0, none⟩ = some (.int .i64 T) := (blk_cell Be.out 0).trans rfl; have hf0 := blk_frozen Be.out 0
        have hc1 : w2.cell? ⟨ge, 1, none⟩ = some (.int .i64 0) := (blk_cell Be.out 1).trans rfl; have hf1 := blk_frozen Be.out 1
        have hc2 : w2.cell? ⟨ge, 2, none⟩ = some (.string (⟨#[]⟩ : ByteArray)) := (blk_cell Be.out 2).trans rfl; have hf2 := blk_frozen Be.out 2
        have hc3 : w2.cell? ⟨ge, 3, none⟩ = some (.string (⟨#[]⟩ : ByteArray)) := (blk_cell Be.out 3).trans rfl; have hf3 := blk_frozen Be.out 3
        have hc4 : w2.cell? ⟨ge, 4, none⟩ = some (.string (⟨#[]⟩ : ByteArray)) := (blk_cell Be.out 4).trans rfl; have hf4 := blk_frozen Be.out 4
        have hc5 : w2.cell? ⟨ge, 5, none⟩ = some (.int .i64 0) := (blk_cell Be.out 5).trans rfl; have hf5 := blk_frozen Be.out 5
        go_upto_region 8 with ((go_at_fn 37; (with_reducible refine (next_c W ga gb gn A c bs a1 _ HS.out HG.out HM.out).mono ?_); rintro e w1 ⟨a2, rfl, hr, hs, hm⟩; rw [HD1.out, ← HOP.out]; have HR2 := Aside0.mk hr; have HS1 := Aside0.mk hs; have HM1 := Aside0.mk hm; clear hr hs hm; have nea : ge ≠ ga := blk_ne Be.out HS.out.ba (by decide); have hc0_ : w1.cell? ⟨ge, 0, none⟩ = some (.int .i64 T) := (blk_cell (HM1.out.blk Be.out nea) 0).trans rfl; have hf0_ := blk_frozen (HM1.out.blk Be.out nea) 0; have hc1_ : w1.cell? ⟨ge, 1, none⟩ = some (.int .i64 0) := (blk_cell (HM1.out.blk Be.out nea) 1).trans rfl; have hf1_ := blk_frozen (HM1.out.blk Be.out nea) 1; have hc2_ : w1.cell? ⟨ge, 2, none⟩ = some (.string (⟨#[]⟩ : ByteArray)) := (blk_cell (HM1.out.blk Be.out nea) 2).trans rfl; have hf2_ := blk_frozen (HM1.out.blk Be.out nea) 2; have hc3_ : w1.cell? ⟨ge, 3, none⟩ = some (.string (⟨#[]⟩ : ByteArray)) := (blk_cell (HM1.out.blk Be.out nea) 3).trans rfl; have hf3_ := blk_frozen (HM1.out.blk Be.out nea) 3; have hc4_ : w1.cell? ⟨ge, 4, none⟩ = some (.string (⟨#[]⟩ : ByteArray)) := (blk_cell (HM1.out.blk Be.out nea) 4).trans rfl; have hf4_ := blk_frozen (HM1.out.blk Be.out nea) 4; have hc5_ : w1.cell? ⟨ge, 5, none⟩ = some (.int .i64 0) := (blk_cell (HM1.out.blk Be.out nea) 5).trans rfl; have hf5_ := blk_frozen (HM1.out.blk Be.out nea) 5))
        clear c0 f0 c1 c2
        clear hc0 hf0 hc1 hf1 hc2 hf2 hc3 hf3 hc4 hf4 hc5 hf5
        clear hc0_ hf0_ hc1_ hf1_ hc2_ hf2_ hc3_ hf3_ hc4_ hf4_ hc5_ hf5_ nea
        have HD2_ : Aside0 (bs.drop a2 = r2) := ⟨by rw [HR2.out, HD1.out, ← HR2_.out]⟩
        clear HOP HR2_ HD1 HR2
        have HRa := Aside0.mk (R_mv HR.out HM1.out HS.out.ba (by decide))
        have nea : ge ≠ ga := blk_ne Be.out HS.out.ba (by decide); have neb : ge ≠ gb := blk_ne Be.out HS.out.bb (by decide); have nen : ge ≠ gn := blk_ne Be.out HS.out.bn (by decide)
        have Bea := Aside0.mk (HM1.out.blk Be.out nea)
        obtain ⟨w3, hw⟩ : ∃ w, w = w1.setCell ⟨ge, 1, none⟩ (.int .i64 op) := ⟨_, rfl⟩
        rw [← hw]
        have Beb := Aside0.mk (show w3.heap[ge]? = some (.cells #[.int .i64 T, .int .i64 op, .string (⟨#[]⟩ : ByteArray), .string (⟨#[]⟩ : ByteArray), .string (⟨#[]⟩ : ByteArray), .int .i64 0] 54 (0, 0)) by rw [hw]; refine blk_put (cs := #[.int .i64 T, .int .i64 0, .string (⟨#[]⟩ : ByteArray), .string (⟨#[]⟩ : ByteArray), .string (⟨#[]⟩ : ByteArray), .int .i64 0]) ?_ 1 _ rfl; exact Bea.out)
        have HSb := Aside0.mk (show St W w3 ga gb gn A c bs _ by rw [hw]; exact HS1.out.far GEe.out nea neb nen _)
        have HRb := Aside0.mk (show Kd.R k54 54 w3 W.heap.size (fun k => k ≠ ge) (.slice Ar acc.length cr) acc by rw [hw]; exact Kd.R_far (p := ⟨ge, 1, none⟩) HRa.out (fun k hk => hk) _)
        clear hw HRa Bea HR HS Be HS1 HM1 nea neb nen
        have HR := HRb; have HS := HSb; have Be := Beb
        clear HRb HSb Beb
        obtain ⟨c0, f0, c1, c2⟩ := HS.out.cells
        have hc0 : w3.cell? ⟨ge, 0, none⟩ = some (.int .i64 T) := (blk_cell Be.out 0).trans rfl; have hf0 := blk_frozen Be.out 0
        have hc1 : w3.cell? ⟨ge, 1, none⟩ = some (.int .i64 op) := (blk_cell Be.out 1).trans rfl; have hf1 := blk_frozen Be.out 1
        have hc2 : w3.cell? ⟨ge, 2, none⟩ = some (.string (⟨#[]⟩ : ByteArray)) := (blk_cell Be.out 2).trans rfl; have hf2 := blk_frozen Be.out 2
        have hc3 : w3.cell? ⟨ge, 3, none⟩ = some (.string (⟨#[]⟩ : ByteArray)) := (blk_cell Be.out 3).trans rfl; have hf3 := blk_frozen Be.out 3
        have hc4 : w3.cell? ⟨ge, 4, none⟩ = some (.string (⟨#[]⟩ : ByteArray)) := (blk_cell Be.out 4).trans rfl; have hf4 := blk_frozen Be.out 4
        have hc5 : w3.cell? ⟨ge, 5, none⟩ = some (.int .i64 0) := (blk_cell Be.out 5).trans rfl; have hf5 := blk_frozen Be.out 5
        go_upto_region 9 with (go_at_call 39; (with_reducible refine (HUS.out _ (HU.below HS.out.bel)).mono ?_); rintro e wu ⟨rfl, hb⟩; have HBU := Aside0.mk hb; clear hb)
        clear c0 f0 c1 c2
        clear hc0 hf0 hc1 hf1 hc2 hf2 hc3 hf3 hc4 hf4 hc5 hf5
        obtain ⟨gu, hgu⟩ : ∃ g, g = wu.heap.size := ⟨_, rfl⟩
        obtain ⟨w4, hw⟩ : ∃ w, w = wu.alloc (.cells #[.int .i64 op, .string (uS b0), .string (uS b1), .string (uS b2), .int .i64 (uH b3)] 25) := ⟨_, rfl⟩
        rw [← hw, ← hgu]
        have hb4 : Below w3.heap.size w3 w4 := by rw [hw]; exact below_step HBU.out (below_alloc (Below.refl _ _) _)
        have Bu : Aside0 (w4.heap[gu]? = some (.cells #[.int .i64 op, .string (uS b0), .string (uS b1), .string (uS b2), .int .i64 (uH b3)] 25 (0, 0))) := ⟨by rw [hw, hgu]; exact heap_alloc_new _ _⟩
        have HRb := Aside0.mk (Kd.R_below HR.out hb4); have HSb := Aside0.mk (HS.out.below hb4); have Beb := Aside0.mk (blk_below Be.out hb4)
        clear hw hgu hb4 HBU HUS HR HS Be
        have HR := HRb; have HS := HSb; have Be := Beb
        clear HRb HSb Beb
        obtain ⟨c0, f0, c1, c2⟩ := HS.out.cells
        have hc0 : w4.cell? ⟨ge, 0, none⟩ = some (.int .i64 T) := (blk_cell Be.out 0).trans rfl; have hf0 := blk_frozen Be.out 0
        have hc1 : w4.cell? ⟨ge, 1, none⟩ = some (.int .i64 op) := (blk_cell Be.out 1).trans rfl; have hf1 := blk_frozen Be.out 1
        have hc2 : w4.cell? ⟨ge, 2, none⟩ = some (.string (⟨#[]⟩ : ByteArray)) := (blk_cell Be.out 2).trans rfl; have hf2 := blk_frozen Be.out 2
        have hc3 : w4.cell? ⟨ge, 3, none⟩ = some (.string (⟨#[]⟩ : ByteArray)) := (blk_cell Be.out 3).trans rfl; have hf3 := blk_frozen Be.out 3
        have hc4 : w4.cell? ⟨ge, 4, none⟩ = some (.string (⟨#[]⟩ : ByteArray)) := (blk_cell Be.out 4).trans rfl; have hf4 := blk_frozen Be.out 4
        have hc5 : w4.cell? ⟨ge, 5, none⟩ = some (.int .i64 0) := (blk_cell Be.out 5).trans rfl; have hf5 := blk_frozen Be.out 5
        have hu0 : w4.cell? ⟨gu, 0, none⟩ = some (.int .i64 op) := (blk_cell Bu.out 0).trans rfl
        have hu1 : w4.cell? ⟨gu, 1, none⟩ = some (.string (uS b0)) := (blk_cell Bu.out 1).trans rfl
        have hu2 : w4.cell? ⟨gu, 2, none⟩ = some (.string (uS b1)) := (blk_cell Bu.out 2).trans rfl
        have hu3 : w4.cell? ⟨gu, 3, none⟩ = some (.string (uS b2)) := (blk_cell Bu.out 3).trans rfl
        have hu4 : w4.cell? ⟨gu, 4, none⟩ = some (.int .i64 (uH b3)) := (blk_cell Bu.out 4).trans rfl
        have KK0 : Aside0 (tx b0 (bs.drop a2) = (K, r3)) := ⟨by rw [HD2_.out]; exact K0.out⟩
        go_upto_region 10 with ((go_at_fn 38; (with_reducible refine (place_c b0 W ga gb gn A c bs a2 K r3 _ HS.out HG.out HM.out KK0.out).mono ?_); rintro e w1 ⟨a3, rfl, hr, hs, hm⟩; have HD3 := Aside0.mk hr; have HS1 := Aside0.mk hs; have HM1 := Aside0.mk hm; clear hr hs hm; have nea : ge ≠ ga := blk_ne Be.out HS.out.ba (by decide); have hc0_ : w1.cell? ⟨ge, 0, none⟩ = some (.int .i64 T) := (blk_cell (HM1.out.blk Be.out nea) 0).trans rfl; have hf0_ := blk_frozen (HM1.out.blk Be.out nea) 0; have hc1_ : w1.cell? ⟨ge, 1, none⟩ = some (.int .i64 op) := (blk_cell (HM1.out.blk Be.out nea) 1).trans rfl; have hf1_ := blk_frozen (HM1.out.blk Be.out nea) 1; have hc2_ : w1.cell? ⟨ge, 2, none⟩ = some (.string (⟨#[]⟩ : ByteArray)) := (blk_cell (HM1.out.blk Be.out nea) 2).trans rfl; have hf2_ := blk_frozen (HM1.out.blk Be.out nea) 2; have hc3_ : w1.cell? ⟨ge, 3, none⟩ = some (.string (⟨#[]⟩ : ByteArray)) := (blk_cell (HM1.out.blk Be.out nea) 3).trans rfl; have hf3_ := blk_frozen (HM1.out.blk Be.out nea) 3; have hc4_ : w1.cell? ⟨ge, 4, none⟩ = some (.string (⟨#[]⟩ : ByteArray)) := (blk_cell (HM1.out.blk Be.out nea) 4).trans rfl; have hf4_ := blk_frozen (HM1.out.blk Be.out nea) 4; have hc5_ : w1.cell? ⟨ge, 5, none⟩ = some (.int .i64 0) := (blk_cell (HM1.out.blk Be.out nea) 5).trans rfl; have hf5_ := blk_frozen (HM1.out.blk Be.out nea) 5))
        clear c0 f0 c1 c2
        clear hc0 hf0 hc1 hf1 hc2 hf2 hc3 hf3 hc4 hf4 hc5 hf5
        clear hc0_ hf0_ hc1_ hf1_ hc2_ hf2_ hc3_ hf3_ hc4_ hf4_ hc5_ hf5_ nea
        clear hu0 hu1 hu2 hu3 hu4
        have HRa := Aside0.mk (R_mv HR.out HM1.out HS.out.ba (by decide))
        have nea : ge ≠ ga := blk_ne Be.out HS.out.ba (by decide); have neb : ge ≠ gb := blk_ne Be.out HS.out.bb (by decide); have nen : ge ≠ gn := blk_ne Be.out HS.out.bn (by decide)
        have Bea := Aside0.mk (HM1.out.blk Be.out nea)
        have nua : gu ≠ ga := blk_ne Bu.out HS.out.ba (by decide); have nue : gu ≠ ge := blk_ne Bu.out Be.out (by decide); have Bua := Aside0.mk (HM1.out.blk Bu.out nua)
        obtain ⟨w5, hw⟩ : ∃ w, w = w1.setCell ⟨ge, 2, none⟩ (.string K) := ⟨_, rfl⟩
        rw [← hw]
        have Beb := Aside0.mk (show w5.heap[ge]? = some (.cells #[.int .i64 T, .int .i64 op, .string K, .string (⟨#[]⟩ : ByteArray), .string (⟨#[]⟩ : ByteArray), .int .i64 0] 54 (0, 0)) by rw [hw]; refine blk_put (cs := #[.int .i64 T, .int .i64 op, .string (⟨#[]⟩ : ByteArray), .string (⟨#[]⟩ : ByteArray), .string (⟨#[]⟩ : ByteArray), .int .i64 0]) ?_ 2 _ rfl; exact Bea.out)
        have HSb := Aside0.mk (show St W w5 ga gb gn A c bs _ by rw [hw]; exact HS1.out.far GEe.out nea neb nen _)
        have HRb := Aside0.mk (show Kd.R k54 54 w5 W.heap.size (fun k => k ≠ ge) (.slice Ar acc.length cr) acc by rw [hw]; exact Kd.R_far (p := ⟨ge, 2, none⟩) HRa.out (fun k hk => hk) _)
        have Bub := Aside0.mk (show w5.heap[gu]? = some (.cells #[.int .i64 op, .string (uS b0), .string (uS b1), .string (uS b2), .int .i64 (uH b3)] 25 (0, 0)) by rw [hw]; exact blk_far Bua.out nue _)
        clear hw HRa Bea HR HS Be HS1 HM1 nea neb nen nua nue Bua Bu
        have HR := HRb; have HS := HSb; have Be := Beb; have Bu := Bub
        clear HRb HSb Beb Bub
        obtain ⟨c0, f0, c1, c2⟩ := HS.out.cells
        have hc0 : w5.cell? ⟨ge, 0, none⟩ = some (.int .i64 T) := (blk_cell Be.out 0).trans rfl; have hf0 := blk_frozen Be.out 0
        have hc1 : w5.cell? ⟨ge, 1, none⟩ = some (.int .i64 op) := (blk_cell Be.out 1).trans rfl; have hf1 := blk_frozen Be.out 1
        have hc2 : w5.cell? ⟨ge, 2, none⟩ = some (.string K) := (blk_cell Be.out 2).trans rfl; have hf2 := blk_frozen Be.out 2
        have hc3 : w5.cell? ⟨ge, 3, none⟩ = some (.string (⟨#[]⟩ : ByteArray)) := (blk_cell Be.out 3).trans rfl; have hf3 := blk_frozen Be.out 3
        have hc4 : w5.cell? ⟨ge, 4, none⟩ = some (.string (⟨#[]⟩ : ByteArray)) := (blk_cell Be.out 4).trans rfl; have hf4 := blk_frozen Be.out 4
        have hc5 : w5.cell? ⟨ge, 5, none⟩ = some (.int .i64 0) := (blk_cell Be.out 5).trans rfl; have hf5 := blk_frozen Be.out 5
        have hu0 : w5.cell? ⟨gu, 0, none⟩ = some (.int .i64 op) := (blk_cell Bu.out 0).trans rfl
        have hu1 : w5.cell? ⟨gu, 1, none⟩ = some (.string (uS b0)) := (blk_cell Bu.out 1).trans rfl
        have hu2 : w5.cell? ⟨gu, 2, none⟩ = some (.string (uS b1)) := (blk_cell Bu.out 2).trans rfl
        have hu3 : w5.cell? ⟨gu, 3, none⟩ = some (.string (uS b2)) := (blk_cell Bu.out 3).trans rfl
        have hu4 : w5.cell? ⟨gu, 4, none⟩ = some (.int .i64 (uH b3)) := (blk_cell Bu.out 4).trans rfl
        have KK1 : Aside0 (tx b1 (bs.drop a3) = (V, r4)) := ⟨by rw [HD3.out]; exact K1.out⟩
        go_upto_region 11 with ((go_at_fn 38; (with_reducible refine (place_c b1 W ga gb gn A c bs a3 V r4 _ HS.out HG.out HM.out KK1.out).mono ?_); rintro e w1 ⟨a4, rfl, hr, hs, hm⟩; have HD4 := Aside0.mk hr; have HS1 := Aside0.mk hs; have HM1 := Aside0.mk hm; clear hr hs hm; have nea : ge ≠ ga := blk_ne Be.out HS.out.ba (by decide); have hc0_ : w1.cell? ⟨ge, 0, none⟩ = some (.int .i64 T) := (blk_cell (HM1.out.blk Be.out nea) 0).trans rfl; have hf0_ := blk_frozen (HM1.out.blk Be.out nea) 0; have hc1_ : w1.cell? ⟨ge, 1, none⟩ = some (.int .i64 op) := (blk_cell (HM1.out.blk Be.out nea) 1).trans rfl; have hf1_ := blk_frozen (HM1.out.blk Be.out nea) 1; have hc2_ : w1.cell? ⟨ge, 2, none⟩ = some (.string K) := (blk_cell (HM1.out.blk Be.out nea) 2).trans rfl; have hf2_ := blk_frozen (HM1.out.blk Be.out nea) 2; have hc3_ : w1.cell? ⟨ge, 3, none⟩ = some (.string (⟨#[]⟩ : ByteArray)) := (blk_cell (HM1.out.blk Be.out nea) 3).trans rfl; have hf3_ := blk_frozen (HM1.out.blk Be.out nea) 3; have hc4_ : w1.cell? ⟨ge, 4, none⟩ = some (.string (⟨#[]⟩ : ByteArray)) := (blk_cell (HM1.out.blk Be.out nea) 4).trans rfl; have hf4_ := blk_frozen (HM1.out.blk Be.out nea) 4; have hc5_ : w1.cell? ⟨ge, 5, none⟩ = some (.int .i64 0) := (blk_cell (HM1.out.blk Be.out nea) 5).trans rfl; have hf5_ := blk_frozen (HM1.out.blk Be.out nea) 5))
        clear c0 f0 c1 c2
        clear hc0 hf0 hc1 hf1 hc2 hf2 hc3 hf3 hc4 hf4 hc5 hf5
        clear hc0_ hf0_ hc1_ hf1_ hc2_ hf2_ hc3_ hf3_ hc4_ hf4_ hc5_ hf5_ nea
        clear hu0 hu1 hu2 hu3 hu4
        have HRa := Aside0.mk (R_mv HR.out HM1.out HS.out.ba (by decide))
        have nea : ge ≠ ga := blk_ne Be.out HS.out.ba (by decide); have neb : ge ≠ gb := blk_ne Be.out HS.out.bb (by decide); have nen : ge ≠ gn := blk_ne Be.out HS.out.bn (by decide)
        have Bea := Aside0.mk (HM1.out.blk Be.out nea)
        have nua : gu ≠ ga := blk_ne Bu.out HS.out.ba (by decide); have nue : gu ≠ ge := blk_ne Bu.out Be.out (by decide); have Bua := Aside0.mk (HM1.out.blk Bu.out nua)
        obtain ⟨w6, hw⟩ : ∃ w, w = w1.setCell ⟨ge, 3, none⟩ (.string V) := ⟨_, rfl⟩
        rw [← hw]
        have Beb := Aside0.mk (show w6.heap[ge]? = some (.cells #[.int .i64 T, .int .i64 op, .string K, .string V, .string (⟨#[]⟩ : ByteArray), .int .i64 0] 54 (0, 0)) by rw [hw]; refine blk_put (cs := #[.int .i64 T, .int .i64 op, .string K, .string (⟨#[]⟩ : ByteArray), .string (⟨#[]⟩ : ByteArray), .int .i64 0]) ?_ 3 _ rfl; exact Bea.out)
        have HSb := Aside0.mk (show St W w6 ga gb gn A c bs _ by rw [hw]; exact HS1.out.far GEe.out nea neb nen _)
        have HRb := Aside0.mk (show Kd.R k54 54 w6 W.heap.size (fun k => k ≠ ge) (.slice Ar acc.length cr) acc by rw [hw]; exact Kd.R_far (p := ⟨ge, 3, none⟩) HRa.out (fun k hk => hk) _)
        have Bub := Aside0.mk (show w6.heap[gu]? = some (.cells #[.int .i64 op, .string (uS b0), .string (uS b1), .string (uS b2), .int .i64 (uH b3)] 25 (0, 0)) by rw [hw]; exact blk_far Bua.out nue _)
        clear hw HRa Bea HR HS Be HS1 HM1 nea neb nen nua nue Bua Bu
        have HR := HRb; have HS := HSb; have Be := Beb; have Bu := Bub
        clear HRb HSb Beb Bub
        obtain ⟨c0, f0, c1, c2⟩ := HS.out.cells
        have hc0 : w6.cell? ⟨ge, 0, none⟩ = some (.int .i64 T) := (blk_cell Be.out 0).trans rfl; have hf0 := blk_frozen Be.out 0
        have hc1 : w6.cell? ⟨ge, 1, none⟩ = some (.int .i64 op) := (blk_cell Be.out 1).trans rfl; have hf1 := blk_frozen Be.out 1
        have hc2 : w6.cell? ⟨ge, 2, none⟩ = some (.string K) := (blk_cell Be.out 2).trans rfl; have hf2 := blk_frozen Be.out 2
        have hc3 : w6.cell? ⟨ge, 3, none⟩ = some (.string V) := (blk_cell Be.out 3).trans rfl; have hf3 := blk_frozen Be.out 3
        have hc4 : w6.cell? ⟨ge, 4, none⟩ = some (.string (⟨#[]⟩ : ByteArray)) := (blk_cell Be.out 4).trans rfl; have hf4 := blk_frozen Be.out 4
        have hc5 : w6.cell? ⟨ge, 5, none⟩ = some (.int .i64 0) := (blk_cell Be.out 5).trans rfl; have hf5 := blk_frozen Be.out 5
        have hu0 : w6.cell? ⟨gu, 0, none⟩ = some (.int .i64 op) := (blk_cell Bu.out 0).trans rfl
        have hu1 : w6.cell? ⟨gu, 1, none⟩ = some (.string (uS b0)) := (blk_cell Bu.out 1).trans rfl
        have hu2 : w6.cell? ⟨gu, 2, none⟩ = some (.string (uS b1)) := (blk_cell Bu.out 2).trans rfl
        have hu3 : w6.cell? ⟨gu, 3, none⟩ = some (.string (uS b2)) := (blk_cell Bu.out 3).trans rfl
        have hu4 : w6.cell? ⟨gu, 4, none⟩ = some (.int .i64 (uH b3)) := (blk_cell Bu.out 4).trans rfl
        have KK2 : Aside0 (tx b2 (bs.drop a4) = (O, r5)) := ⟨by rw [HD4.out]; exact K2.out⟩
        go_upto_region 12 with ((go_at_fn 38; (with_reducible refine (place_c b2 W ga gb gn A c bs a4 O r5 _ HS.out HG.out HM.out KK2.out).mono ?_); rintro e w1 ⟨a5, rfl, hr, hs, hm⟩; have HD5 := Aside0.mk hr; have HS1 := Aside0.mk hs; have HM1 := Aside0.mk hm; clear hr hs hm; have nea : ge ≠ ga := blk_ne Be.out HS.out.ba (by decide); have hc0_ : w1.cell? ⟨ge, 0, none⟩ = some (.int .i64 T) := (blk_cell (HM1.out.blk Be.out nea) 0).trans rfl; have hf0_ := blk_frozen (HM1.out.blk Be.out nea) 0; have hc1_ : w1.cell? ⟨ge, 1, none⟩ = some (.int .i64 op) := (blk_cell (HM1.out.blk Be.out nea) 1).trans rfl; have hf1_ := blk_frozen (HM1.out.blk Be.out nea) 1; have hc2_ : w1.cell? ⟨ge, 2, none⟩ = some (.string K) := (blk_cell (HM1.out.blk Be.out nea) 2).trans rfl; have hf2_ := blk_frozen (HM1.out.blk Be.out nea) 2; have hc3_ : w1.cell? ⟨ge, 3, none⟩ = some (.string V) := (blk_cell (HM1.out.blk Be.out nea) 3).trans rfl; have hf3_ := blk_frozen (HM1.out.blk Be.out nea) 3; have hc4_ : w1.cell? ⟨ge, 4, none⟩ = some (.string (⟨#[]⟩ : ByteArray)) := (blk_cell (HM1.out.blk Be.out nea) 4).trans rfl; have hf4_ := blk_frozen (HM1.out.blk Be.out nea) 4; have hc5_ : w1.cell? ⟨ge, 5, none⟩ = some (.int .i64 0) := (blk_cell (HM1.out.blk Be.out nea) 5).trans rfl; have hf5_ := blk_frozen (HM1.out.blk Be.out nea) 5))
        clear c0 f0 c1 c2
        clear hc0 hf0 hc1 hf1 hc2 hf2 hc3 hf3 hc4 hf4 hc5 hf5
        clear hc0_ hf0_ hc1_ hf1_ hc2_ hf2_ hc3_ hf3_ hc4_ hf4_ hc5_ hf5_ nea
        clear hu0 hu1 hu2 hu3 hu4
        have HRa := Aside0.mk (R_mv HR.out HM1.out HS.out.ba (by decide))
        have nea : ge ≠ ga := blk_ne Be.out HS.out.ba (by decide); have neb : ge ≠ gb := blk_ne Be.out HS.out.bb (by decide); have nen : ge ≠ gn := blk_ne Be.out HS.out.bn (by decide)
        have Bea := Aside0.mk (HM1.out.blk Be.out nea)
        have nua : gu ≠ ga := blk_ne Bu.out HS.out.ba (by decide); have nue : gu ≠ ge := blk_ne Bu.out Be.out (by decide); have Bua := Aside0.mk (HM1.out.blk Bu.out nua)
        obtain ⟨w7, hw⟩ : ∃ w, w = w1.setCell ⟨ge, 4, none⟩ (.string O) := ⟨_, rfl⟩
        rw [← hw]
        have Beb := Aside0.mk (show w7.heap[ge]? = some (.cells #[.int .i64 T, .int .i64 op, .string K, .string V, .string O, .int .i64 0] 54 (0, 0)) by rw [hw]; refine blk_put (cs := #[.int .i64 T, .int .i64 op, .string K, .string V, .string (⟨#[]⟩ : ByteArray), .int .i64 0]) ?_ 4 _ rfl; exact Bea.out)
        have HSb := Aside0.mk (show St W w7 ga gb gn A c bs _ by rw [hw]; exact HS1.out.far GEe.out nea neb nen _)
        have HRb := Aside0.mk (show Kd.R k54 54 w7 W.heap.size (fun k => k ≠ ge) (.slice Ar acc.length cr) acc by rw [hw]; exact Kd.R_far (p := ⟨ge, 4, none⟩) HRa.out (fun k hk => hk) _)
        have Bub := Aside0.mk (show w7.heap[gu]? = some (.cells #[.int .i64 op, .string (uS b0), .string (uS b1), .string (uS b2), .int .i64 (uH b3)] 25 (0, 0)) by rw [hw]; exact blk_far Bua.out nue _)
        clear hw HRa Bea HR HS Be HS1 HM1 nea neb nen nua nue Bua Bu
        have HR := HRb; have HS := HSb; have Be := Beb; have Bu := Bub
        clear HRb HSb Beb Bub
        obtain ⟨c0, f0, c1, c2⟩ := HS.out.cells
        have hc0 : w7.cell? ⟨ge, 0, none⟩ = some (.int .i64 T) := (blk_cell Be.out 0).trans rfl; have hf0 := blk_frozen Be.out 0
        have hc1 : w7.cell? ⟨ge, 1, none⟩ = some (.int .i64 op) := (blk_cell Be.out 1).trans rfl; have hf1 := blk_frozen Be.out 1
        have hc2 : w7.cell? ⟨ge, 2, none⟩ = some (.string K) := (blk_cell Be.out 2).trans rfl; have hf2 := blk_frozen Be.out 2
        have hc3 : w7.cell? ⟨ge, 3, none⟩ = some (.string V) := (blk_cell Be.out 3).trans rfl; have hf3 := blk_frozen Be.out 3
        have hc4 : w7.cell? ⟨ge, 4, none⟩ = some (.string O) := (blk_cell Be.out 4).trans rfl; have hf4 := blk_frozen Be.out 4
        have hc5 : w7.cell? ⟨ge, 5, none⟩ = some (.int .i64 0) := (blk_cell Be.out 5).trans rfl; have hf5 := blk_frozen Be.out 5
        have hu0 : w7.cell? ⟨gu, 0, none⟩ = some (.int .i64 op) := (blk_cell Bu.out 0).trans rfl
        have hu1 : w7.cell? ⟨gu, 1, none⟩ = some (.string (uS b0)) := (blk_cell Bu.out 1).trans rfl
        have hu2 : w7.cell? ⟨gu, 2, none⟩ = some (.string (uS b1)) := (blk_cell Bu.out 2).trans rfl
        have hu3 : w7.cell? ⟨gu, 3, none⟩ = some (.string (uS b2)) := (blk_cell Bu.out 3).trans rfl
        have hu4 : w7.cell? ⟨gu, 4, none⟩ = some (.int .i64 (uH b3)) := (blk_cell Bu.out 4).trans rfl
        cases b3 with
        | true =>
          have hn5 : hd (bs.drop a5) = H ∧ (bs.drop a5).drop 1 = r6 := by obtain ⟨e1_, e2_⟩ := Prod.mk.inj (show (hd r5, r5.drop 1) = (H, r6) from K3.out); rw [HD5.out]; exact ⟨e1_, e2_⟩
          have HN5 := Aside0.mk hn5
          clear hn5
          go_upto_region 14 with ((go_at_fn 37; (with_reducible refine (next_c W ga gb gn A c bs a5 _ HS.out HG.out HM.out).mono ?_); rintro e w1 ⟨a6, rfl, hr, hs, hm⟩; rw [HN5.out.1]; have HR6 := Aside0.mk hr; have HS1 := Aside0.mk hs; have HM1 := Aside0.mk hm; clear hr hs hm; have nea : ge ≠ ga := blk_ne Be.out HS.out.ba (by decide); have hc0_ : w1.cell? ⟨ge, 0, none⟩ = some (.int .i64 T) := (blk_cell (HM1.out.blk Be.out nea) 0).trans rfl; have hf0_ := blk_frozen (HM1.out.blk Be.out nea) 0; have hc1_ : w1.cell? ⟨ge, 1, none⟩ = some (.int .i64 op) := (blk_cell (HM1.out.blk Be.out nea) 1).trans rfl; have hf1_ := blk_frozen (HM1.out.blk Be.out nea) 1; have hc2_ : w1.cell? ⟨ge, 2, none⟩ = some (.string K) := (blk_cell (HM1.out.blk Be.out nea) 2).trans rfl; have hf2_ := blk_frozen (HM1.out.blk Be.out nea) 2; have hc3_ : w1.cell? ⟨ge, 3, none⟩ = some (.string V) := (blk_cell (HM1.out.blk Be.out nea) 3).trans rfl; have hf3_ := blk_frozen (HM1.out.blk Be.out nea) 3; have hc4_ : w1.cell? ⟨ge, 4, none⟩ = some (.string O) := (blk_cell (HM1.out.blk Be.out nea) 4).trans rfl; have hf4_ := blk_frozen (HM1.out.blk Be.out nea) 4; have hc5_ : w1.cell? ⟨ge, 5, none⟩ = some (.int .i64 0) := (blk_cell (HM1.out.blk Be.out nea) 5).trans rfl; have hf5_ := blk_frozen (HM1.out.blk Be.out nea) 5))
          clear c0 f0 c1 c2
          clear hc0 hf0 hc1 hf1 hc2 hf2 hc3 hf3 hc4 hf4 hc5 hf5
          clear hc0_ hf0_ hc1_ hf1_ hc2_ hf2_ hc3_ hf3_ hc4_ hf4_ hc5_ hf5_ nea
          clear hu0 hu1 hu2 hu3 hu4
          have HD6_ : Aside0 (bs.drop a6 = r6) := ⟨by rw [HR6.out]; exact HN5.out.2⟩
          have HRa := Aside0.mk (R_mv HR.out HM1.out HS.out.ba (by decide))
          have nea : ge ≠ ga := blk_ne Be.out HS.out.ba (by decide); have neb : ge ≠ gb := blk_ne Be.out HS.out.bb (by decide); have nen : ge ≠ gn := blk_ne Be.out HS.out.bn (by decide)
          have Bea := Aside0.mk (HM1.out.blk Be.out nea)
          have nua : gu ≠ ga := blk_ne Bu.out HS.out.ba (by decide); have nue : gu ≠ ge := blk_ne Bu.out Be.out (by decide); have Bua := Aside0.mk (HM1.out.blk Bu.out nua)
          obtain ⟨w8, hw⟩ : ∃ w, w = w1.setCell ⟨ge, 5, none⟩ (.int .i64 H) := ⟨_, rfl⟩
          rw [← hw]
          have Beb := Aside0.mk (show w8.heap[ge]? = some (.cells #[.int .i64 T, .int .i64 op, .string K, .string V, .string O, .int .i64 H] 54 (0, 0)) by rw [hw]; refine blk_put (cs := #[.int .i64 T, .int .i64 op, .string K, .string V, .string O, .int .i64 0]) ?_ 5 _ rfl; exact Bea.out)
          have HSb := Aside0.mk (show St W w8 ga gb gn A c bs _ by rw [hw]; exact HS1.out.far GEe.out nea neb nen _)
          have HRb := Aside0.mk (show Kd.R k54 54 w8 W.heap.size (fun k => k ≠ ge) (.slice Ar acc.length cr) acc by rw [hw]; exact Kd.R_far (p := ⟨ge, 5, none⟩) HRa.out (fun k hk => hk) _)
          have Bub := Aside0.mk (show w8.heap[gu]? = some (.cells #[.int .i64 op, .string (uS b0), .string (uS b1), .string (uS b2), .int .i64 (uH true)] 25 (0, 0)) by rw [hw]; exact blk_far Bua.out nue _)
          clear hw HRa Bea HR HS Be HS1 HM1 nea neb nen nua nue Bua Bu
          have HR := HRb; have HS := HSb; have Be := Beb; have Bu := Bub
          clear HRb HSb Beb Bub
          have HDE : Aside0 (acc ++ [(⟨T, ⟨op, K, V, O, H⟩⟩ : S54)] ++ decL (5000 - (acc ++ [(⟨T, ⟨op, K, V, O, H⟩⟩ : S54)]).length) (bs.drop a6) = decode bs) := ⟨by rw [HD6_.out]; exact HD2.out⟩
          have hc0 : w8.cell? ⟨ge, 0, none⟩ = some (.int .i64 T) := (blk_cell Be.out 0).trans rfl; have hf0 := blk_frozen Be.out 0
          have hc1 : w8.cell? ⟨ge, 1, none⟩ = some (.int .i64 op) := (blk_cell Be.out 1).trans rfl; have hf1 := blk_frozen Be.out 1
          have hc2 : w8.cell? ⟨ge, 2, none⟩ = some (.string K) := (blk_cell Be.out 2).trans rfl; have hf2 := blk_frozen Be.out 2
          have hc3 : w8.cell? ⟨ge, 3, none⟩ = some (.string V) := (blk_cell Be.out 3).trans rfl; have hf3 := blk_frozen Be.out 3
          have hc4 : w8.cell? ⟨ge, 4, none⟩ = some (.string O) := (blk_cell Be.out 4).trans rfl; have hf4 := blk_frozen Be.out 4
          have hc5 : w8.cell? ⟨ge, 5, none⟩ = some (.int .i64 H) := (blk_cell Be.out 5).trans rfl; have hf5 := blk_frozen Be.out 5
          go_wp2_with (at_builtin; refine Kd.R_append k54 (w0 := W) W.heap.size rfl (.tmp 56) (.tmp 58) 42 54 (.agg #[(.int .i64 0), (.int .i64 0), (.string ⟨#[]⟩), (.string ⟨#[]⟩), (.string ⟨#[]⟩), (.int .i64 0)]) 72 rfl Tryd.underlying42 HScript.info54 rfl (by decide) (by decide) (.slice Ar acc.length cr) acc (⟨T, ⟨op, K, V, O, H⟩⟩ : S54) _ (fun k => k ≠ ge) (fun _ => False) rfl rfl (HScript.k54_mkM _ _ _ (⟨T, ⟨op, K, V, O, H⟩⟩ : S54)) (fun _ hk => hk.elim) ?aF HR.out HS.out.bel HS.out.bel.size ?aL ?_; (case aF => intro k hk; have := blk_lt Be.out; omega); (case aL => omega); intro v9 w9 ho hb hg_ hat_; have HR9 := Aside0.mk ho; have HG9 := Aside0.mk hg_; clear ho hb hg_ hat_)
          have HR9' := Aside0.mk (Kd.R_mono (ok' := fun _ => True) HR9.out (fun _ _ => trivial))
          have neA : ∀ {cs : Array Value} {t : TypeId} {g : Nat}, w8.heap[g]? = some (.cells cs t (0, 0)) → 54 ≠ t → some g ≠ (Value.slice Ar acc.length cr).ownBlock := fun h ht => Kd.R_ne HR.out h ht
          have HS9 : Aside0 (St W w9 ga gb gn A c bs a6) := ⟨⟨HS.out.bel.trans ⟨HG9.out.os, HG9.out.tape, HG9.out.output, HG9.out.size, fun k hk => HG9.out.block k (Nat.lt_of_lt_of_le hk HS.out.bel.size) (fun he => by have := Kd.R_base HR.out k he.symm; omega)⟩, blk_grown HS.out.ba HG9.out (neA HS.out.ba (by decide)), blk_grown HS.out.bb HG9.out (neA HS.out.bb (by decide)), blk_grown HS.out.bn HG9.out (neA HS.out.bn (by decide)), HS.out.ge, HS.out.le, HS.out.lc, HS.out.rd⟩⟩
          go_roundg (5001 - (acc ++ [(⟨T, ⟨op, K, V, O, H⟩⟩ : S54)]).length)
          case measure => rw [List.length_append, List.length_singleton]; omega
          case rel => exact ⟨acc ++ [(⟨T, ⟨op, K, V, O, H⟩⟩ : S54)], a6, Nat.le_refl _, by rw [List.length_append, List.length_singleton]; omega, HS9, HR9', HDE⟩
        | false =>
          obtain ⟨e1_, e2_⟩ := Prod.mk.inj (show ((0 : Int), r5) = (H, r6) from K3.out)
          have HQ1 := Aside0.mk e1_; have HQ2 := Aside0.mk e2_
          clear e1_ e2_
          go_upto_region 14 with (fail)
          clear c0 f0 c1 c2
          clear hc0 hf0 hc1 hf1 hc2 hf2 hc3 hf3 hc4 hf4 hc5 hf5
          clear hu0 hu1 hu2 hu3 hu4
          have HDE : Aside0 (acc ++ [(⟨T, ⟨op, K, V, O, 0⟩⟩ : S54)] ++ decL (5000 - (acc ++ [(⟨T, ⟨op, K, V, O, 0⟩⟩ : S54)]).length) (bs.drop a5) = decode bs) := ⟨by rw [HD5.out, HQ1.out, HQ2.out]; exact HD2.out⟩
          have hc0 : w7.cell? ⟨ge, 0, none⟩ = some (.int .i64 T) := (blk_cell Be.out 0).trans rfl; have hf0 := blk_frozen Be.out 0
          have hc1 : w7.cell? ⟨ge, 1, none⟩ = some (.int .i64 op) := (blk_cell Be.out 1).trans rfl; have hf1 := blk_frozen Be.out 1
          have hc2 : w7.cell? ⟨ge, 2, none⟩ = some (.string K) := (blk_cell Be.out 2).trans rfl; have hf2 := blk_frozen Be.out 2
          have hc3 : w7.cell? ⟨ge, 3, none⟩ = some (.string V) := (blk_cell Be.out 3).trans rfl; have hf3 := blk_frozen Be.out 3
          have hc4 : w7.cell? ⟨ge, 4, none⟩ = some (.string O) := (blk_cell Be.out 4).trans rfl; have hf4 := blk_frozen Be.out 4
          have hc5 : w7.cell? ⟨ge, 5, none⟩ = some (.int .i64 0) := (blk_cell Be.out 5).trans rfl; have hf5 := blk_frozen Be.out 5
          go_wp2_with (at_builtin; refine Kd.R_append k54 (w0 := W) W.heap.size rfl (.tmp 56) (.tmp 58) 42 54 (.agg #[(.int .i64 0), (.int .i64 0), (.string ⟨#[]⟩), (.string ⟨#[]⟩), (.string ⟨#[]⟩), (.int .i64 0)]) 72 rfl Tryd.underlying42 HScript.info54 rfl (by decide) (by decide) (.slice Ar acc.length cr) acc (⟨T, ⟨op, K, V, O, 0⟩⟩ : S54) _ (fun k => k ≠ ge) (fun _ => False) rfl rfl (HScript.k54_mkM _ _ _ (⟨T, ⟨op, K, V, O, 0⟩⟩ : S54)) (fun _ hk => hk.elim) ?aF HR.out HS.out.bel HS.out.bel.size ?aL ?_; (case aF => intro k hk; have := blk_lt Be.out; omega); (case aL => omega); intro v9 w9 ho hb hg_ hat_; have HR9 := Aside0.mk ho; have HG9 := Aside0.mk hg_; clear ho hb hg_ hat_)
          have HR9' := Aside0.mk (Kd.R_mono (ok' := fun _ => True) HR9.out (fun _ _ => trivial))
          have neA : ∀ {cs : Array Value} {t : TypeId} {g : Nat}, w7.heap[g]? = some (.cells cs t (0, 0)) → 54 ≠ t → some g ≠ (Value.slice Ar acc.length cr).ownBlock := fun h ht => Kd.R_ne HR.out h ht
          have HS9 : Aside0 (St W w9 ga gb gn A c bs a5) := ⟨⟨HS.out.bel.trans ⟨HG9.out.os, HG9.out.tape, HG9.out.output, HG9.out.size, fun k hk => HG9.out.block k (Nat.lt_of_lt_of_le hk HS.out.bel.size) (fun he => by have := Kd.R_base HR.out k he.symm; omega)⟩, blk_grown HS.out.ba HG9.out (neA HS.out.ba (by decide)), blk_grown HS.out.bb HG9.out (neA HS.out.bb (by decide)), blk_grown HS.out.bn HG9.out (neA HS.out.bn (by decide)), HS.out.ge, HS.out.le, HS.out.lc, HS.out.rd⟩⟩
          go_roundg (5001 - (acc ++ [(⟨T, ⟨op, K, V, O, 0⟩⟩ : S54)]).length)
          case measure => rw [List.length_append, List.length_singleton]; omega
          case rel => exact ⟨acc ++ [(⟨T, ⟨op, K, V, O, 0⟩⟩ : S54)], a5, Nat.le_refl _, by rw [List.length_append, List.length_singleton]; omega, HS9, HR9', HDE⟩
      · have hlt5 : ¬ (acc.length : Int) < 5000 := by omega
        have hD : acc = decode bs := by
          have := HD.out
          rw [show 5000 - acc.length = 0 by omega] at this
          simpa [decL] using this
        have HD2 := Aside0.mk hD
        clear hD HD
        go_wp2
        go_ret
        exact ⟨_, rfl, by rw [← HD2.out]; exact HR.out, HS.out.bel⟩
    · have hlt : ¬ (a0 : Int) < (bs.length : Int) := by omega
      have hne : bs.drop a0 = [] := List.drop_eq_nil_of_le (by omega)
      have hD : acc = decode bs := by
        have := HD.out
        rw [hne] at this
        cases hn : 5000 - acc.length with
        | zero => rw [hn] at this; simpa [decL] using this
        | succ q => rw [hn] at this; simpa [decL] using this
      have HD2 := Aside0.mk hD
      clear hD HD hne
      go_wp2
      go_ret
      exact ⟨_, rfl, by rw [← HD2.out]; exact HR.out, HS.out.bel⟩

end Go.Proofs.YtfpjfndelkgciaaDoor.Sc
