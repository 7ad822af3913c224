/- The walk of the document's Decode. -/
import Derived.Test.YtfpjfndelkgciaaDoorScrA
import Derived.Test.YtfpjfndelkgciaaDoorHScriptx5
namespace Go.Proofs.YtfpjfndelkgciaaDoor.Sc
open Go.RowKit Go.Proofs.YtfpjfndelkgciaaDoorW.PrintWords Go.Proofs.YtfpjfndelkgciaaDoorW.PrintLast Go.Proofs.YtfpjfndelkgciaaDoorW.PrintMore
open HScript (S25 S54 k25 k54 z25 z54)
open Fw (usesB)
set_option linter.unusedVariables false
set_option linter.unusedSimpArgs false

/-- A text, if there is one: it, and the other bytes. -/
def tx (b : Bool) (r : List Int) : ByteArray × List Int := if b = true then (strOfNums ((r.drop 1).take (hd r % 17).toNat), (r.drop 1).drop (hd r % 17).toNat) else (⟨#[]⟩, r)
def nx (b : Bool) (r : List Int) : Int × List Int := if b = true then (hd r, r.drop 1) else (0, r)
/-- One entry: it, and the other bytes. -/
def decE (r : List Int) : S54 × List Int :=
  let op := hd (r.drop 1)
  let k := tx (usesB op 0) ((r.drop 1).drop 1)
  let v := tx (usesB op 1) k.2
  let o := tx (usesB op 2) v.2
  let h := nx (usesB op 3) o.2
  (⟨hd r, ⟨op, k.1, v.1, o.1, h.1⟩⟩, h.2)
/-- At most so many entries. -/
def decL : Nat → List Int → List S54
  | 0, _ => []
  | n + 1, r => if r = [] then [] else (decE r).1 :: decL n (decE r).2
def decode (bs : List Int) : List S54 := decL 5000 bs
theorem Rg.tx {r : List Int} (h : Rg r) (b : Bool) : Rg (Sc.tx b r).2 := by
  unfold Sc.tx
  cases b
  · exact h
  · exact (h.drop 1).drop _
theorem Rg.nx {r : List Int} (h : Rg r) (b : Bool) : Rg (Sc.nx b r).2 := by
  unfold Sc.nx
  cases b
  · exact h
  · exact h.drop 1
theorem Rg.decE {r : List Int} (h : Rg r) : Rg (Sc.decE r).2 := (((((h.drop 1).drop 1).tx _).tx _).tx _).nx _
theorem uses_f (op : Int) : HScript.boscageref30_Uses.f op 0 = some (usesB op 0) ∧ HScript.boscageref30_Uses.f op 1 = some (usesB op 1) ∧ HScript.boscageref30_Uses.f op 2 = some (usesB op 2) ∧ HScript.boscageref30_Uses.f op 3 = some (usesB op 3) := by
  obtain ⟨h0, h1, h2, h3⟩ := Fw.uses_eq op
  exact ⟨h0, h1, h2, h3⟩

theorem one_t (r : List Int) (x : Int) (r' : List Int) (hk : nx true r = (x, r')) (A : Option Addr) (c : Nat) (W : World) (hC : Kd.C (Kd.int .u8) W A r.length r) (hc : r.length ≤ c) (hb : Rg r) :
    Calls Tryd.prog 40 #[.slice A r.length c] W fun e w' => ∃ A' c', e = .returned (.tuple #[.int .i64 x, .slice A' r'.length c']) ∧ r'.length ≤ c' ∧ (∀ w0, Kd.C (Kd.int .u8) w0 A r.length r → Kd.C (Kd.int .u8) w0 A' r'.length r') ∧ Drawn0 W w' := by
  obtain ⟨rfl, rfl⟩ := Prod.mk.inj (show (hd r, r.drop 1) = (x, r') from hk)
  exact one_c A c r W hC hc hb
theorem text_t (r : List Int) (s : ByteArray) (r' : List Int) (hk : tx true r = (s, r')) (A : Option Addr) (c : Nat) (W : World) (hC : Kd.C (Kd.int .u8) W A r.length r) (hc : r.length ≤ c) (hb : Rg r) :
    Calls Tryd.prog 41 #[.slice A r.length c] W fun e w' => ∃ A' c', e = .returned (.tuple #[.string s, .slice A' r'.length c']) ∧ r'.length ≤ c' ∧ (∀ w0, Kd.C (Kd.int .u8) w0 A r.length r → Kd.C (Kd.int .u8) w0 A' r'.length r') ∧ Drawn0 W w' := by
  obtain ⟨rfl, rfl⟩ := Prod.mk.inj (show (strOfNums ((r.drop 1).take (hd r % 17).toNat), (r.drop 1).drop (hd r % 17).toNat) = (s, r') from hk)
  exact text_c A c r W hC hc hb
/-- A value that is bytes to read. -/
def Rd (W : World) (v : Value) (r : List Int) : Prop := ∃ A c, v = .slice A r.length c ∧ r.length ≤ c ∧ Kd.C (Kd.int .u8) W A r.length r

set_option maxHeartbeats 4000000 in
set_option maxRecDepth 100000 in
theorem rdecode_c (A : Option Addr) (c : Nat) (bs : List Int) (W : World) (hC : Kd.C (Kd.int .u8) W A bs.length bs) (hc : bs.length ≤ c) (hb : Rg bs) :
    Calls Tryd.prog 27 #[.slice A bs.length c] W fun e w' => ∃ v, e = .returned v ∧ Kd.R k54 54 w' W.heap.size (fun _ => True) v (decode bs) ∧ Below W.heap.size W w' := by
  have hu54 := Tryd.underlying54
  have hu25 := Tryd.underlying25
  have HC := Aside0.mk (show Rd W (.slice A bs.length c) bs from ⟨A, c, rfl, hc, hC⟩)
  have HG := Aside0.mk hb
  have HB := Aside0.mk (Below.refl W.heap.size W)
  clear hC hc hb
  go_enter Tryd.func27, Tryd.ntmps27
  go_wp2_with (first | ((with_reducible refine gate_dst (N := 5) rfl ?_); refine Kd.R_lit k54 (w0 := W) W.heap.size 54 ?hg (N := 5) ?hd (xs := ([] : List S54)) (inner := []) (ok := fun _ => True) (okp := fun _ => True) ?hr (Reps.none _ _) (fun _ hk => hk) trivial (Below.refl _ _) (Nat.le_refl _) (by simp) ?_; (case hd => rfl); (case hg => rfl); (case hr => first | (go_simp; done) | (go_simp; rfl)); intro v9 w9 ho hb hg_ hnew_; have HR := Aside0.mk ho; clear HB; have HB := Aside0.mk hb; clear ho hb hg_ hnew_))
  go_loopg [0, 3] 5001 (fun gg s0 s3 wr => ∃ (acc : List S54) (r : List Int), 5001 - acc.length ≤ gg ∧ acc.length ≤ 5000 ∧ Aside0 (Rd W s0 r) ∧ Aside0 (Rg r) ∧ Aside0 (Kd.R k54 54 wr W.heap.size (fun _ => True) s3 acc) ∧ Aside0 (Below W.heap.size W wr) ∧ Aside0 (acc ++ decL (5000 - acc.length) r = decode bs))
  case atStart => exact ⟨[], bs, Nat.le_refl _, Nat.zero_le _, HC, HG, ⟨by (with_reducible repeat (first | apply Kd.R_drewN | apply Kd.R_drew)); exact HR.out⟩, ⟨(by repeat (first | (with_reducible first | exact HB.out | apply below_alloc | apply pw_below_drewN | apply below_drew1) | exact HB.out))⟩, ⟨rfl⟩⟩
  case round =>
    clear HC HG HR HB
    obtain ⟨acc, r, hg, hacc, HC, HG, HR, HB, HD⟩ := hrel
    obtain ⟨A1, c1, rfl, hl1, hc1⟩ := HC.out
    obtain ⟨Ar, cr, rfl⟩ := Kd.R_slice HR.out
    by_cases h0 : r = []
    · subst h0
      have hlt : ¬ (0 : Int) < (([] : List Int).length : Int) := by simp
      have hD : acc = decode bs := by
        have := HD.out
        cases hn : 5000 - acc.length with
        | zero => rw [hn] at this; simpa [decL] using this
        | succ q => rw [hn] at this; simpa [decL] using this
      have HD2 := Aside0.mk hD
      clear hD HD hc1
      go_wp2
      go_ret
      exact ⟨_, rfl, by rw [← HD2.out]; (with_reducible repeat (first | apply Kd.R_drewN | apply Kd.R_drew)); exact HR.out, (by repeat (first | (with_reducible first | exact HB.out | apply below_alloc | apply pw_below_drewN | apply below_drew1) | exact HB.out))⟩
    · have hr0 : 0 < r.length := List.length_pos_iff.2 h0
      have hlt : (0 : Int) < (r.length : Int) := by omega
      by_cases h5 : acc.length < 5000
      · have hlt5 : (acc.length : Int) < 5000 := by omega
        obtain ⟨n, hn⟩ : ∃ n, 5000 - acc.length = n + 1 := ⟨5000 - acc.length - 1, by omega⟩
        have hdec : acc ++ [(decE r).1] ++ decL (5000 - (acc ++ [(decE r).1]).length) (decE r).2 = decode bs := by
          rw [← HD.out, hn, decL, if_neg h0, List.length_append, List.length_singleton, show 5000 - (acc.length + 1) = n by omega, List.append_assoc]
          rfl
        have HD2 := Aside0.mk hdec
        have HN0 := Aside0.mk h0
        clear hdec HD hn h0
        obtain ⟨T, hT⟩ : ∃ x, x = hd r := ⟨_, rfl⟩
        obtain ⟨r1, hr1⟩ : ∃ x, x = r.drop 1 := ⟨_, rfl⟩
        obtain ⟨op, hop⟩ : ∃ x, x = hd r1 := ⟨_, rfl⟩
        obtain ⟨r2, hr2⟩ : ∃ x, x = r1.drop 1 := ⟨_, rfl⟩
        obtain ⟨b0, hb0⟩ : ∃ x, x = usesB op 0 := ⟨_, rfl⟩
        obtain ⟨K, r3, hk0⟩ : ∃ s r', tx b0 r2 = (s, r') := ⟨_, _, rfl⟩
        obtain ⟨b1, hb1⟩ : ∃ x, x = usesB op 1 := ⟨_, rfl⟩
        obtain ⟨V, r4, hk1⟩ : ∃ s r', tx b1 r3 = (s, r') := ⟨_, _, rfl⟩
        obtain ⟨b2, hb2⟩ : ∃ x, x = usesB op 2 := ⟨_, rfl⟩
        obtain ⟨O, r5, hk2⟩ : ∃ s r', tx b2 r4 = (s, r') := ⟨_, _, rfl⟩
        obtain ⟨b3, hb3⟩ : ∃ x, x = usesB op 3 := ⟨_, rfl⟩
        obtain ⟨H, r6, hk3⟩ : ∃ s r', nx b3 r5 = (s, r') := ⟨_, _, rfl⟩
        have hE : decE r = (⟨T, ⟨op, K, V, O, H⟩⟩, r6) := by
          unfold decE
          simp only [← hr1, ← hop, ← hr2, ← hb0, ← hb1, ← hb2, ← hb3, hk0, hk1, hk2, hk3, ← hT]
        rw [hE] at HD2
        have G1 : Aside0 (Rg r1) := ⟨by rw [hr1]; exact HG.out.drop 1⟩
        have G2 : Aside0 (Rg r2) := ⟨by rw [hr2]; exact G1.out.drop 1⟩
        have G3 : Aside0 (Rg r3) := ⟨by have := G2.out.tx b0; rw [hk0] at this; exact this⟩
        have K0 := Aside0.mk hk0
        have G4 : Aside0 (Rg r4) := ⟨by have := G3.out.tx b1; rw [hk1] at this; exact this⟩
        have K1 := Aside0.mk hk1
        have G5 : Aside0 (Rg r5) := ⟨by have := G4.out.tx b2; rw [hk2] at this; exact this⟩
        have K2 := Aside0.mk hk2
        have G6 : Aside0 (Rg r6) := ⟨by have := G5.out.nx b3; rw [hk3] at this; exact this⟩
        have K3 := Aside0.mk hk3
        have N0 : Aside0 (nx true r = (T, r1)) := ⟨by rw [hT, hr1]; rfl⟩
        have N1 : Aside0 (nx true r1 = (op, r2)) := ⟨by rw [hop, hr2]; rfl⟩
        have U0 : Aside0 (HScript.boscageref30_Uses.f op 0 = some b0) := ⟨by rw [hb0]; exact (uses_f op).1⟩
        have U1 : Aside0 (HScript.boscageref30_Uses.f op 1 = some b1) := ⟨by rw [hb1]; exact (uses_f op).2.1⟩
        have U2 : Aside0 (HScript.boscageref30_Uses.f op 2 = some b2) := ⟨by rw [hb2]; exact (uses_f op).2.2.1⟩
        have U3 : Aside0 (HScript.boscageref30_Uses.f op 3 = some b3) := ⟨by rw [hb3]; exact (uses_f op).2.2.2⟩
        have UO : Aside0 (¬ (1 ≤ op ∧ op ≤ 13) → b0 = false ∧ b1 = false ∧ b2 = false ∧ b3 = false) := ⟨fun h => by rw [hb0, hb1, hb2, hb3]; exact ⟨Fw.usesB_out op 0 h, Fw.usesB_out op 1 h, Fw.usesB_out op 2 h, Fw.usesB_out op 3 h⟩⟩
        have C1 := Aside0.mk hc1
        have L1 := Aside0.mk hl1
        clear hT hr1 hop hr2 hb0 hb1 hb2 hb3 hk0 hk1 hk2 hk3 hE hc1
        go_upto_region 4 with (fail)
        obtain ⟨ge, hge⟩ : ∃ g, g = wr.heap.size := ⟨_, rfl⟩
        obtain ⟨w4, hw⟩ : ∃ w, w = wr.alloc (.cells #[.int .i64 0, .int .i64 0, .string (⟨#[]⟩ : ByteArray), .string (⟨#[]⟩ : ByteArray), .string (⟨#[]⟩ : ByteArray), .int .i64 0] 54) := ⟨_, rfl⟩
        rw [← hw, ← hge]
        have hb4 : Below wr.heap.size wr w4 := by rw [hw]; exact below_alloc (Below.refl _ _) _
        have Be : Aside0 (w4.heap[ge]? = some (.cells #[.int .i64 0, .int .i64 0, .string (⟨#[]⟩ : ByteArray), .string (⟨#[]⟩ : ByteArray), .string (⟨#[]⟩ : ByteArray), .int .i64 0] 54 (0, 0))) := ⟨by rw [hw, hge]; exact heap_alloc_new _ _⟩
        have GEe := Aside0.mk (show W.heap.size ≤ ge by rw [hge]; exact HB.out.size)
        have HR4 := Aside0.mk (Kd.R_below (Kd.R_mono (ok' := fun k => k ≠ ge) (Kd.R_bound HR.out) (fun k hk => by have := hk.2.2.1; omega)) hb4)
        have HB4 := Aside0.mk (below_step HB.out hb4)
        clear hw hge hb4 HR HB
        have HR := HR4
        have HB := HB4
        clear HR4 HB4
        have hc0 : w4.cell? ⟨ge, 0, none⟩ = some (.int .i64 0) := (blk_cell Be.out 0).trans rfl
        have hf0 := blk_frozen Be.out 0
        have hc1 : w4.cell? ⟨ge, 1, none⟩ = some (.int .i64 0) := (blk_cell Be.out 1).trans rfl
        have hf1 := blk_frozen Be.out 1
        have hc2 : w4.cell? ⟨ge, 2, none⟩ = some (.string (⟨#[]⟩ : ByteArray)) := (blk_cell Be.out 2).trans rfl
        have hf2 := blk_frozen Be.out 2
        have hc3 : w4.cell? ⟨ge, 3, none⟩ = some (.string (⟨#[]⟩ : ByteArray)) := (blk_cell Be.out 3).trans rfl
        have hf3 := blk_frozen Be.out 3
        have hc4 : w4.cell? ⟨ge, 4, none⟩ = some (.string (⟨#[]⟩ : ByteArray)) := (blk_cell Be.out 4).trans rfl
        have hf4 := blk_frozen Be.out 4
        have hc5 : w4.cell? ⟨ge, 5, none⟩ = some (.int .i64 0) := (blk_cell Be.out 5).trans rfl
        have hf5 := blk_frozen Be.out 5
        go_upto_region 5 with ((go_at_call 40; (with_reducible refine (one_t r T r1 N0.out A1 c1 _ (Kd.C_below C1.out (by repeat (with_reducible first | exact HB.out | apply pw_below_drewN | apply below_drew1))) L1.out HG.out).mono ?_); rintro e w1 ⟨A2, c2, rfl, hl, hcf, ⟨q1, rfl⟩⟩; have C2 := Aside0.mk (hcf _ C1.out); have L2 := Aside0.mk hl; clear hl hcf))
        clear hc0 hf0 hc1 hf1 hc2 hf2 hc3 hf3 hc4 hf4 hc5 hf5
        obtain ⟨w5, hw⟩ : ∃ w, w = (World.drewN w4 q1).setCell ⟨ge, 0, none⟩ (.int .i64 T) := ⟨_, rfl⟩
        rw [← hw]
        have Be2 := Aside0.mk (show w5.heap[ge]? = some (.cells #[.int .i64 T, .int .i64 0, .string (⟨#[]⟩ : ByteArray), .string (⟨#[]⟩ : ByteArray), .string (⟨#[]⟩ : ByteArray), .int .i64 0] 54 (0, 0)) by rw [hw]; refine blk_put (cs := #[.int .i64 0, .int .i64 0, .string (⟨#[]⟩ : ByteArray), .string (⟨#[]⟩ : ByteArray), .string (⟨#[]⟩ : ByteArray), .int .i64 0]) ?_ 0 _ rfl; exact Be.out)
        have HB2 := Aside0.mk (show Below W.heap.size W w5 by rw [hw]; exact below_set (pw_below_drewN HB.out _) GEe.out)
        have HR2 := Aside0.mk (show Kd.R k54 54 w5 W.heap.size (fun k => k ≠ ge) (.slice Ar acc.length cr) acc by rw [hw]; exact Kd.R_far (p := ⟨ge, 0, none⟩) (Kd.R_drewN HR.out _) (fun k hk => hk) _)
        clear hw Be HB HR
        have Be := Be2; have HB := HB2; have HR := HR2
        clear Be2 HB2 HR2
        have hc0 : w5.cell? ⟨ge, 0, none⟩ = some (.int .i64 T) := (blk_cell Be.out 0).trans rfl
        have hf0 := blk_frozen Be.out 0
        have hc1 : w5.cell? ⟨ge, 1, none⟩ = some (.int .i64 0) := (blk_cell Be.out 1).trans rfl
        have hf1 := blk_frozen Be.out 1
        have hc2 : w5.cell? ⟨ge, 2, none⟩ = some (.string (⟨#[]⟩ : ByteArray)) := (blk_cell Be.out 2).trans rfl
        have hf2 := blk_frozen Be.out 2
        have hc3 : w5.cell? ⟨ge, 3, none⟩ = some (.string (⟨#[]⟩ : ByteArray)) := (blk_cell Be.out 3).trans rfl
        have hf3 := blk_frozen Be.out 3
        have hc4 : w5.cell? ⟨ge, 4, none⟩ = some (.string (⟨#[]⟩ : ByteArray)) := (blk_cell Be.out 4).trans rfl
        have hf4 := blk_frozen Be.out 4
        have hc5 : w5.cell? ⟨ge, 5, none⟩ = some (.int .i64 0) := (blk_cell Be.out 5).trans rfl
        have hf5 := blk_frozen Be.out 5
        go_upto_region 6 with ((go_at_call 40; (with_reducible refine (one_t r1 op r2 N1.out A2 c2 _ (Kd.C_below C2.out (by repeat (with_reducible first | exact HB.out | apply pw_below_drewN | apply below_drew1))) L2.out G1.out).mono ?_); rintro e w1 ⟨A3, c3, rfl, hl, hcf, ⟨q1, rfl⟩⟩; have C3 := Aside0.mk (hcf _ C2.out); have L3 := Aside0.mk hl; clear hl hcf))
        clear hc0 hf0 hc1 hf1 hc2 hf2 hc3 hf3 hc4 hf4 hc5 hf5
        obtain ⟨w6, hw⟩ : ∃ w, w = (World.drewN w5 q1).setCell ⟨ge, 1, none⟩ (.int .i64 op) := ⟨_, rfl⟩
        rw [← hw]
        have Be2 := Aside0.mk (show w6.heap[ge]? = some (.cells #[.int .i64 T, .int .i64 op, .string (⟨#[]⟩ : ByteArray), .string (⟨#[]⟩ : ByteArray), .string (⟨#[]⟩ : ByteArray), .int .i64 0] 54 (0, 0)) by rw [hw]; refine blk_put (cs := #[.int .i64 T, .int .i64 0, .string (⟨#[]⟩ : ByteArray), .string (⟨#[]⟩ : ByteArray), .string (⟨#[]⟩ : ByteArray), .int .i64 0]) ?_ 1 _ rfl; exact Be.out)
        have HB2 := Aside0.mk (show Below W.heap.size W w6 by rw [hw]; exact below_set (pw_below_drewN HB.out _) GEe.out)
        have HR2 := Aside0.mk (show Kd.R k54 54 w6 W.heap.size (fun k => k ≠ ge) (.slice Ar acc.length cr) acc by rw [hw]; exact Kd.R_far (p := ⟨ge, 1, none⟩) (Kd.R_drewN HR.out _) (fun k hk => hk) _)
        clear hw Be HB HR
        have Be := Be2; have HB := HB2; have HR := HR2
        clear Be2 HB2 HR2
        have hc0 : w6.cell? ⟨ge, 0, none⟩ = some (.int .i64 T) := (blk_cell Be.out 0).trans rfl
        have hf0 := blk_frozen Be.out 0
        have hc1 : w6.cell? ⟨ge, 1, none⟩ = some (.int .i64 op) := (blk_cell Be.out 1).trans rfl
        have hf1 := blk_frozen Be.out 1
        have hc2 : w6.cell? ⟨ge, 2, none⟩ = some (.string (⟨#[]⟩ : ByteArray)) := (blk_cell Be.out 2).trans rfl
        have hf2 := blk_frozen Be.out 2
        have hc3 : w6.cell? ⟨ge, 3, none⟩ = some (.string (⟨#[]⟩ : ByteArray)) := (blk_cell Be.out 3).trans rfl
        have hf3 := blk_frozen Be.out 3
        have hc4 : w6.cell? ⟨ge, 4, none⟩ = some (.string (⟨#[]⟩ : ByteArray)) := (blk_cell Be.out 4).trans rfl
        have hf4 := blk_frozen Be.out 4
        have hc5 : w6.cell? ⟨ge, 5, none⟩ = some (.int .i64 0) := (blk_cell Be.out 5).trans rfl
        have hf5 := blk_frozen Be.out 5
        by_cases h13 : 1 ≤ op ∧ op ≤ 13
        · have e0 : decide (1 ≤ op) = true := decide_eq_true h13.1
          have e1 : decide (op ≤ 13) = true := decide_eq_true h13.2
          clear h13
          go_upto_if 41 with (go_at_call 16; (with_reducible refine (HScript.boscageref30_Uses.calls op 0 b0 _ U0.out).mono ?_); rintro e w1 ⟨rfl, ⟨q1, rfl⟩⟩)
          clear hc0 hf0 hc1 hf1 hc2 hf2 hc3 hf3 hc4 hf4 hc5 hf5
          generalize hz : w6.drewN _ = y0
          have Be2 : Aside0 (y0.heap[ge]? = some (.cells #[.int .i64 T, .int .i64 op, .string (⟨#[]⟩ : ByteArray), .string (⟨#[]⟩ : ByteArray), .string (⟨#[]⟩ : ByteArray), .int .i64 0] 54 (0, 0))) := ⟨hz ▸ Be.out⟩
          have HB2 : Aside0 (Below W.heap.size W y0) := ⟨hz ▸ pw_below_drewN HB.out _⟩
          have HR2 : Aside0 (Kd.R k54 54 y0 W.heap.size (fun k => k ≠ ge) (.slice Ar acc.length cr) acc) := ⟨hz ▸ Kd.R_drewN HR.out _⟩
          clear hz Be HB HR
          have Be := Be2; have HB := HB2; have HR := HR2
          clear Be2 HB2 HR2
          (try simp only [Act.put, List.setIfInBounds_toArray, List.set_cons_zero, List.set_cons_succ])
          go_cut [0] (fun s0 wc => ∃ (A4 : Option Addr) (c4 : Nat), s0 = .slice A4 r3.length c4 ∧ Aside0 (r3.length ≤ c4) ∧ Aside0 (Kd.C (Kd.int .u8) W A4 r3.length r3) ∧ Aside0 (wc.heap[ge]? = some (.cells #[.int .i64 T, .int .i64 op, .string K, .string (⟨#[]⟩ : ByteArray), .string (⟨#[]⟩ : ByteArray), .int .i64 0] 54 (0, 0))) ∧ Aside0 (Below W.heap.size W wc) ∧ Aside0 (Kd.R k54 54 wc W.heap.size (fun k => k ≠ ge) (.slice Ar acc.length cr) acc))
          case first =>
            cases b0 with
            | true =>
              have hc0 : y0.cell? ⟨ge, 0, none⟩ = some (.int .i64 T) := (blk_cell Be.out 0).trans rfl
              have hf0 := blk_frozen Be.out 0
              have hc1 : y0.cell? ⟨ge, 1, none⟩ = some (.int .i64 op) := (blk_cell Be.out 1).trans rfl
              have hf1 := blk_frozen Be.out 1
              have hc2 : y0.cell? ⟨ge, 2, none⟩ = some (.string (⟨#[]⟩ : ByteArray)) := (blk_cell Be.out 2).trans rfl
              have hf2 := blk_frozen Be.out 2
              have hc3 : y0.cell? ⟨ge, 3, none⟩ = some (.string (⟨#[]⟩ : ByteArray)) := (blk_cell Be.out 3).trans rfl
              have hf3 := blk_frozen Be.out 3
              have hc4 : y0.cell? ⟨ge, 4, none⟩ = some (.string (⟨#[]⟩ : ByteArray)) := (blk_cell Be.out 4).trans rfl
              have hf4 := blk_frozen Be.out 4
              have hc5 : y0.cell? ⟨ge, 5, none⟩ = some (.int .i64 0) := (blk_cell Be.out 5).trans rfl
              have hf5 := blk_frozen Be.out 5
              go_wp2_with ((go_at_call 41; (with_reducible refine (text_t r2 K r3 K0.out A3 c3 _ (Kd.C_below C3.out (by repeat (with_reducible first | exact HB.out | apply pw_below_drewN | apply below_drew1))) L3.out G2.out).mono ?_); rintro e w1 ⟨A4, c4, rfl, hl, hcf, ⟨q1, rfl⟩⟩; have C4 := Aside0.mk (hcf _ C3.out); have L4 := Aside0.mk hl; clear hl hcf))
              go_meet
              case rel => exact ⟨A4, c4, rfl, L4, C4, ⟨by refine blk_put (cs := #[.int .i64 T, .int .i64 op, .string (⟨#[]⟩ : ByteArray), .string (⟨#[]⟩ : ByteArray), .string (⟨#[]⟩ : ByteArray), .int .i64 0]) ?_ 2 _ rfl; exact Be.out⟩, ⟨below_set (pw_below_drewN HB.out _) GEe.out⟩, ⟨Kd.R_far (p := ⟨ge, 2, none⟩) (Kd.R_drewN HR.out _) (fun k hk => hk) _⟩⟩
            | false =>
              obtain ⟨e1_, e2_⟩ := Prod.mk.inj (show ((⟨#[]⟩ : ByteArray), r2) = (K, r3) from K0.out)
              have HQ1 := Aside0.mk e1_; have HQ2 := Aside0.mk e2_; clear e1_ e2_
              go_wp2
              go_meet
              case rel => exact ⟨A3, c3, by rw [HQ2.out], ⟨by rw [← HQ2.out]; exact L3.out⟩, ⟨by rw [← HQ2.out]; exact C3.out⟩, ⟨by rw [← HQ1.out]; exact Be.out⟩, HB, HR⟩
          case rest =>
          clear Be HB HR
          obtain ⟨A4, c4, rfl, L4, C4, Be, HB, HR⟩ := hcut
          revert Be HB HR; generalize wc = z0; intro Be HB HR
          have hc0 : z0.cell? ⟨ge, 0, none⟩ = some (.int .i64 T) := (blk_cell Be.out 0).trans rfl
          have hf0 := blk_frozen Be.out 0
          have hc1 : z0.cell? ⟨ge, 1, none⟩ = some (.int .i64 op) := (blk_cell Be.out 1).trans rfl
          have hf1 := blk_frozen Be.out 1
          have hc2 : z0.cell? ⟨ge, 2, none⟩ = some (.string K) := (blk_cell Be.out 2).trans rfl
          have hf2 := blk_frozen Be.out 2
          have hc3 : z0.cell? ⟨ge, 3, none⟩ = some (.string (⟨#[]⟩ : ByteArray)) := (blk_cell Be.out 3).trans rfl
          have hf3 := blk_frozen Be.out 3
          have hc4 : z0.cell? ⟨ge, 4, none⟩ = some (.string (⟨#[]⟩ : ByteArray)) := (blk_cell Be.out 4).trans rfl
          have hf4 := blk_frozen Be.out 4
          have hc5 : z0.cell? ⟨ge, 5, none⟩ = some (.int .i64 0) := (blk_cell Be.out 5).trans rfl
          have hf5 := blk_frozen Be.out 5
          go_upto_if 52 with (go_at_call 16; (with_reducible refine (HScript.boscageref30_Uses.calls op 1 b1 _ U1.out).mono ?_); rintro e w1 ⟨rfl, ⟨q1, rfl⟩⟩)
          clear hc0 hf0 hc1 hf1 hc2 hf2 hc3 hf3 hc4 hf4 hc5 hf5
          generalize hz : z0.drewN _ = y1
          have Be2 : Aside0 (y1.heap[ge]? = some (.cells #[.int .i64 T, .int .i64 op, .string K, .string (⟨#[]⟩ : ByteArray), .string (⟨#[]⟩ : ByteArray), .int .i64 0] 54 (0, 0))) := ⟨hz ▸ Be.out⟩
          have HB2 : Aside0 (Below W.heap.size W y1) := ⟨hz ▸ pw_below_drewN HB.out _⟩
          have HR2 : Aside0 (Kd.R k54 54 y1 W.heap.size (fun k => k ≠ ge) (.slice Ar acc.length cr) acc) := ⟨hz ▸ Kd.R_drewN HR.out _⟩
          clear hz Be HB HR
          have Be := Be2; have HB := HB2; have HR := HR2
          clear Be2 HB2 HR2
          (try simp only [Act.put, List.setIfInBounds_toArray, List.set_cons_zero, List.set_cons_succ])
          go_cut [0] (fun s0 wc => ∃ (A5 : Option Addr) (c5 : Nat), s0 = .slice A5 r4.length c5 ∧ Aside0 (r4.length ≤ c5) ∧ Aside0 (Kd.C (Kd.int .u8) W A5 r4.length r4) ∧ Aside0 (wc.heap[ge]? = some (.cells #[.int .i64 T, .int .i64 op, .string K, .string V, .string (⟨#[]⟩ : ByteArray), .int .i64 0] 54 (0, 0))) ∧ Aside0 (Below W.heap.size W wc) ∧ Aside0 (Kd.R k54 54 wc W.heap.size (fun k => k ≠ ge) (.slice Ar acc.length cr) acc))
          case first =>
            cases b1 with
            | true =>
              have hc0 : y1.cell? ⟨ge, 0, none⟩ = some (.int .i64 T) := (blk_cell Be.out 0).trans rfl
              have hf0 := blk_frozen Be.out 0
              have hc1 : y1.cell? ⟨ge, 1, none⟩ = some (.int .i64 op) := (blk_cell Be.out 1).trans rfl
              have hf1 := blk_frozen Be.out 1
              have hc2 : y1.cell? ⟨ge, 2, none⟩ = some (.string K) := (blk_cell Be.out 2).trans rfl
              have hf2 := blk_frozen Be.out 2
              have hc3 : y1.cell? ⟨ge, 3, none⟩ = some (.string (⟨#[]⟩ : ByteArray)) := (blk_cell Be.out 3).trans rfl
              have hf3 := blk_frozen Be.out 3
              have hc4 : y1.cell? ⟨ge, 4, none⟩ = some (.string (⟨#[]⟩ : ByteArray)) := (blk_cell Be.out 4).trans rfl
              have hf4 := blk_frozen Be.out 4
              have hc5 : y1.cell? ⟨ge, 5, none⟩ = some (.int .i64 0) := (blk_cell Be.out 5).trans rfl
              have hf5 := blk_frozen Be.out 5
              go_wp2_with ((go_at_call 41; (with_reducible refine (text_t r3 V r4 K1.out A4 c4 _ (Kd.C_below C4.out (by repeat (with_reducible first | exact HB.out | apply pw_below_drewN | apply below_drew1))) L4.out G3.out).mono ?_); rintro e w1 ⟨A5, c5, rfl, hl, hcf, ⟨q1, rfl⟩⟩; have C5 := Aside0.mk (hcf _ C4.out); have L5 := Aside0.mk hl; clear hl hcf))
              go_meet
              case rel => exact ⟨A5, c5, rfl, L5, C5, ⟨by refine blk_put (cs := #[.int .i64 T, .int .i64 op, .string K, .string (⟨#[]⟩ : ByteArray), .string (⟨#[]⟩ : ByteArray), .int .i64 0]) ?_ 3 _ rfl; exact Be.out⟩, ⟨below_set (pw_below_drewN HB.out _) GEe.out⟩, ⟨Kd.R_far (p := ⟨ge, 3, none⟩) (Kd.R_drewN HR.out _) (fun k hk => hk) _⟩⟩
            | false =>
              obtain ⟨e1_, e2_⟩ := Prod.mk.inj (show ((⟨#[]⟩ : ByteArray), r3) = (V, r4) from K1.out)
              have HQ1 := Aside0.mk e1_; have HQ2 := Aside0.mk e2_; clear e1_ e2_
              go_wp2
              go_meet
              case rel => exact ⟨A4, c4, by rw [HQ2.out], ⟨by rw [← HQ2.out]; exact L4.out⟩, ⟨by rw [← HQ2.out]; exact C4.out⟩, ⟨by rw [← HQ1.out]; exact Be.out⟩, HB, HR⟩
          case rest =>
          clear Be HB HR
          obtain ⟨A5, c5, rfl, L5, C5, Be, HB, HR⟩ := hcut
          revert Be HB HR; generalize wc = z1; intro Be HB HR
          have hc0 : z1.cell? ⟨ge, 0, none⟩ = some (.int .i64 T) := (blk_cell Be.out 0).trans rfl
          have hf0 := blk_frozen Be.out 0
          have hc1 : z1.cell? ⟨ge, 1, none⟩ = some (.int .i64 op) := (blk_cell Be.out 1).trans rfl
          have hf1 := blk_frozen Be.out 1
          have hc2 : z1.cell? ⟨ge, 2, none⟩ = some (.string K) := (blk_cell Be.out 2).trans rfl
          have hf2 := blk_frozen Be.out 2
          have hc3 : z1.cell? ⟨ge, 3, none⟩ = some (.string V) := (blk_cell Be.out 3).trans rfl
          have hf3 := blk_frozen Be.out 3
          have hc4 : z1.cell? ⟨ge, 4, none⟩ = some (.string (⟨#[]⟩ : ByteArray)) := (blk_cell Be.out 4).trans rfl
          have hf4 := blk_frozen Be.out 4
          have hc5 : z1.cell? ⟨ge, 5, none⟩ = some (.int .i64 0) := (blk_cell Be.out 5).trans rfl
          have hf5 := blk_frozen Be.out 5
          go_upto_if 63 with (go_at_call 16; (with_reducible refine (HScript.boscageref30_Uses.calls op 2 b2 _ U2.out).mono ?_); rintro e w1 ⟨rfl, ⟨q1, rfl⟩⟩)
          clear hc0 hf0 hc1 hf1 hc2 hf2 hc3 hf3 hc4 hf4 hc5 hf5
          generalize hz : z1.drewN _ = y2
          have Be2 : Aside0 (y2.heap[ge]? = some (.cells #[.int .i64 T, .int .i64 op, .string K, .string V, .string (⟨#[]⟩ : ByteArray), .int .i64 0] 54 (0, 0))) := ⟨hz ▸ Be.out⟩
          have HB2 : Aside0 (Below W.heap.size W y2) := ⟨hz ▸ pw_below_drewN HB.out _⟩
          have HR2 : Aside0 (Kd.R k54 54 y2 W.heap.size (fun k => k ≠ ge) (.slice Ar acc.length cr) acc) := ⟨hz ▸ Kd.R_drewN HR.out _⟩
          clear hz Be HB HR
          have Be := Be2; have HB := HB2; have HR := HR2
          clear Be2 HB2 HR2
          (try simp only [Act.put, List.setIfInBounds_toArray, List.set_cons_zero, List.set_cons_succ])
          go_cut [0] (fun s0 wc => ∃ (A6 : Option Addr) (c6 : Nat), s0 = .slice A6 r5.length c6 ∧ Aside0 (r5.length ≤ c6) ∧ Aside0 (Kd.C (Kd.int .u8) W A6 r5.length r5) ∧ Aside0 (wc.heap[ge]? = some (.cells #[.int .i64 T, .int .i64 op, .string K, .string V, .string O, .int .i64 0] 54 (0, 0))) ∧ Aside0 (Below W.heap.size W wc) ∧ Aside0 (Kd.R k54 54 wc W.heap.size (fun k => k ≠ ge) (.slice Ar acc.length cr) acc))
          case first =>
            cases b2 with
            | true =>
              have hc0 : y2.cell? ⟨ge, 0, none⟩ = some (.int .i64 T) := (blk_cell Be.out 0).trans rfl
              have hf0 := blk_frozen Be.out 0
              have hc1 : y2.cell? ⟨ge, 1, none⟩ = some (.int .i64 op) := (blk_cell Be.out 1).trans rfl
              have hf1 := blk_frozen Be.out 1
              have hc2 : y2.cell? ⟨ge, 2, none⟩ = some (.string K) := (blk_cell Be.out 2).trans rfl
              have hf2 := blk_frozen Be.out 2
              have hc3 : y2.cell? ⟨ge, 3, none⟩ = some (.string V) := (blk_cell Be.out 3).trans rfl
              have hf3 := blk_frozen Be.out 3
              have hc4 : y2.cell? ⟨ge, 4, none⟩ = some (.string (⟨#[]⟩ : ByteArray)) := (blk_cell Be.out 4).trans rfl
              have hf4 := blk_frozen Be.out 4
              have hc5 : y2.cell? ⟨ge, 5, none⟩ = some (.int .i64 0) := (blk_cell Be.out 5).trans rfl
              have hf5 := blk_frozen Be.out 5
              go_wp2_with ((go_at_call 41; (with_reducible refine (text_t r4 O r5 K2.out A5 c5 _ (Kd.C_below C5.out (by repeat (with_reducible first | exact HB.out | apply pw_below_drewN | apply below_drew1))) L5.out G4.out).mono ?_); rintro e w1 ⟨A6, c6, rfl, hl, hcf, ⟨q1, rfl⟩⟩; have C6 := Aside0.mk (hcf _ C5.out); have L6 := Aside0.mk hl; clear hl hcf))
              go_meet
              case rel => exact ⟨A6, c6, rfl, L6, C6, ⟨by refine blk_put (cs := #[.int .i64 T, .int .i64 op, .string K, .string V, .string (⟨#[]⟩ : ByteArray), .int .i64 0]) ?_ 4 _ rfl; exact Be.out⟩, ⟨below_set (pw_below_drewN HB.out _) GEe.out⟩, ⟨Kd.R_far (p := ⟨ge, 4, none⟩) (Kd.R_drewN HR.out _) (fun k hk => hk) _⟩⟩
            | false =>
              obtain ⟨e1_, e2_⟩ := Prod.mk.inj (show ((⟨#[]⟩ : ByteArray), r4) = (O, r5) from K2.out)
              have HQ1 := Aside0.mk e1_; have HQ2 := Aside0.mk e2_; clear e1_ e2_
              go_wp2
              go_meet
              case rel => exact ⟨A5, c5, by rw [HQ2.out], ⟨by rw [← HQ2.out]; exact L5.out⟩, ⟨by rw [← HQ2.out]; exact C5.out⟩, ⟨by rw [← HQ1.out]; exact Be.out⟩, HB, HR⟩
          case rest =>
          clear Be HB HR
          obtain ⟨A6, c6, rfl, L6, C6, Be, HB, HR⟩ := hcut
          revert Be HB HR; generalize wc = z2; intro Be HB HR
          have hc0 : z2.cell? ⟨ge, 0, none⟩ = some (.int .i64 T) := (blk_cell Be.out 0).trans rfl
          have hf0 := blk_frozen Be.out 0
          have hc1 : z2.cell? ⟨ge, 1, none⟩ = some (.int .i64 op) := (blk_cell Be.out 1).trans rfl
          have hf1 := blk_frozen Be.out 1
          have hc2 : z2.cell? ⟨ge, 2, none⟩ = some (.string K) := (blk_cell Be.out 2).trans rfl
          have hf2 := blk_frozen Be.out 2
          have hc3 : z2.cell? ⟨ge, 3, none⟩ = some (.string V) := (blk_cell Be.out 3).trans rfl
          have hf3 := blk_frozen Be.out 3
          have hc4 : z2.cell? ⟨ge, 4, none⟩ = some (.string O) := (blk_cell Be.out 4).trans rfl
          have hf4 := blk_frozen Be.out 4
          have hc5 : z2.cell? ⟨ge, 5, none⟩ = some (.int .i64 0) := (blk_cell Be.out 5).trans rfl
          have hf5 := blk_frozen Be.out 5
          go_upto_if 74 with (go_at_call 16; (with_reducible refine (HScript.boscageref30_Uses.calls op 3 b3 _ U3.out).mono ?_); rintro e w1 ⟨rfl, ⟨q1, rfl⟩⟩)
          clear hc0 hf0 hc1 hf1 hc2 hf2 hc3 hf3 hc4 hf4 hc5 hf5
          generalize hz : z2.drewN _ = y3
          have Be2 : Aside0 (y3.heap[ge]? = some (.cells #[.int .i64 T, .int .i64 op, .string K, .string V, .string O, .int .i64 0] 54 (0, 0))) := ⟨hz ▸ Be.out⟩
          have HB2 : Aside0 (Below W.heap.size W y3) := ⟨hz ▸ pw_below_drewN HB.out _⟩
          have HR2 : Aside0 (Kd.R k54 54 y3 W.heap.size (fun k => k ≠ ge) (.slice Ar acc.length cr) acc) := ⟨hz ▸ Kd.R_drewN HR.out _⟩
          clear hz Be HB HR
          have Be := Be2; have HB := HB2; have HR := HR2
          clear Be2 HB2 HR2
          (try simp only [Act.put, List.setIfInBounds_toArray, List.set_cons_zero, List.set_cons_succ])
          go_cut [0] (fun s0 wc => ∃ (A7 : Option Addr) (c7 : Nat), s0 = .slice A7 r6.length c7 ∧ Aside0 (r6.length ≤ c7) ∧ Aside0 (Kd.C (Kd.int .u8) W A7 r6.length r6) ∧ Aside0 (wc.heap[ge]? = some (.cells #[.int .i64 T, .int .i64 op, .string K, .string V, .string O, .int .i64 H] 54 (0, 0))) ∧ Aside0 (Below W.heap.size W wc) ∧ Aside0 (Kd.R k54 54 wc W.heap.size (fun k => k ≠ ge) (.slice Ar acc.length cr) acc))
          case first =>
            cases b3 with
            | true =>
              have hc0 : y3.cell? ⟨ge, 0, none⟩ = some (.int .i64 T) := (blk_cell Be.out 0).trans rfl
              have hf0 := blk_frozen Be.out 0
              have hc1 : y3.cell? ⟨ge, 1, none⟩ = some (.int .i64 op) := (blk_cell Be.out 1).trans rfl
              have hf1 := blk_frozen Be.out 1
              have hc2 : y3.cell? ⟨ge, 2, none⟩ = some (.string K) := (blk_cell Be.out 2).trans rfl
              have hf2 := blk_frozen Be.out 2
              have hc3 : y3.cell? ⟨ge, 3, none⟩ = some (.string V) := (blk_cell Be.out 3).trans rfl
              have hf3 := blk_frozen Be.out 3
              have hc4 : y3.cell? ⟨ge, 4, none⟩ = some (.string O) := (blk_cell Be.out 4).trans rfl
              have hf4 := blk_frozen Be.out 4
              have hc5 : y3.cell? ⟨ge, 5, none⟩ = some (.int .i64 0) := (blk_cell Be.out 5).trans rfl
              have hf5 := blk_frozen Be.out 5
              go_wp2_with ((go_at_call 40; (with_reducible refine (one_t r5 H r6 K3.out A6 c6 _ (Kd.C_below C6.out (by repeat (with_reducible first | exact HB.out | apply pw_below_drewN | apply below_drew1))) L6.out G5.out).mono ?_); rintro e w1 ⟨A7, c7, rfl, hl, hcf, ⟨q1, rfl⟩⟩; have C7 := Aside0.mk (hcf _ C6.out); have L7 := Aside0.mk hl; clear hl hcf))
              go_meet
              case rel => exact ⟨A7, c7, rfl, L7, C7, ⟨by refine blk_put (cs := #[.int .i64 T, .int .i64 op, .string K, .string V, .string O, .int .i64 0]) ?_ 5 _ rfl; exact Be.out⟩, ⟨below_set (pw_below_drewN HB.out _) GEe.out⟩, ⟨Kd.R_far (p := ⟨ge, 5, none⟩) (Kd.R_drewN HR.out _) (fun k hk => hk) _⟩⟩
            | false =>
              obtain ⟨e1_, e2_⟩ := Prod.mk.inj (show ((0 : Int), r5) = (H, r6) from K3.out)
              have HQ1 := Aside0.mk e1_; have HQ2 := Aside0.mk e2_; clear e1_ e2_
              go_wp2
              go_meet
              case rel => exact ⟨A6, c6, by rw [HQ2.out], ⟨by rw [← HQ2.out]; exact L6.out⟩, ⟨by rw [← HQ2.out]; exact C6.out⟩, ⟨by rw [← HQ1.out]; exact Be.out⟩, HB, HR⟩
          case rest =>
          clear Be HB HR
          obtain ⟨A7, c7, rfl, L7, C7, Be, HB, HR⟩ := hcut
          have hc0 : wc.cell? ⟨ge, 0, none⟩ = some (.int .i64 T) := (blk_cell Be.out 0).trans rfl
          have hf0 := blk_frozen Be.out 0
          have hc1 : wc.cell? ⟨ge, 1, none⟩ = some (.int .i64 op) := (blk_cell Be.out 1).trans rfl
          have hf1 := blk_frozen Be.out 1
          have hc2 : wc.cell? ⟨ge, 2, none⟩ = some (.string K) := (blk_cell Be.out 2).trans rfl
          have hf2 := blk_frozen Be.out 2
          have hc3 : wc.cell? ⟨ge, 3, none⟩ = some (.string V) := (blk_cell Be.out 3).trans rfl
          have hf3 := blk_frozen Be.out 3
          have hc4 : wc.cell? ⟨ge, 4, none⟩ = some (.string O) := (blk_cell Be.out 4).trans rfl
          have hf4 := blk_frozen Be.out 4
          have hc5 : wc.cell? ⟨ge, 5, none⟩ = some (.int .i64 H) := (blk_cell Be.out 5).trans rfl
          have hf5 := blk_frozen Be.out 5
          go_wp2_with (at_builtin; refine Kd.R_append k54 (w0 := W) W.heap.size rfl (.tmp 82) (.tmp 84) 42 54 (.agg #[(.int .i64 0), (.int .i64 0), (.string ⟨#[]⟩), (.string ⟨#[]⟩), (.string ⟨#[]⟩), (.int .i64 0)]) 72 rfl Tryd.underlying42 HScript.info54 rfl (by decide) (by decide) (.slice Ar acc.length cr) acc (⟨T, ⟨op, K, V, O, H⟩⟩ : S54) _ (fun k => k ≠ ge) (fun _ => False) rfl rfl (HScript.k54_mkM _ _ _ ⟨T, ⟨op, K, V, O, H⟩⟩) (fun _ hk => hk.elim) ?aF ?aO ?aB ?aS ?aL ?_; (case aF => intro k hk; have := blk_lt Be.out; have h2 : wc.heap.size ≤ k := hk; omega); (case aO => (with_reducible repeat (first | apply Kd.R_drewN | apply Kd.R_drew)); exact HR.out); (case aB => exact (by repeat (with_reducible first | exact HB.out | apply pw_below_drewN | apply below_drew1))); (case aS => exact (show Below W.heap.size W _ from (by repeat (with_reducible first | exact HB.out | apply pw_below_drewN | apply below_drew1))).size); (case aL => omega); intro v9 w9 ho hb hg_ hat_; have HR9 := Aside0.mk ho; have HB9 := Aside0.mk hb; clear ho hb hg_ hat_)
          go_roundg (5001 - (acc ++ [(⟨T, ⟨op, K, V, O, H⟩⟩ : S54)]).length)
          case measure => rw [List.length_append, List.length_singleton]; omega
          case rel => exact ⟨acc ++ [⟨T, ⟨op, K, V, O, H⟩⟩], r6, Nat.le_refl _, by rw [List.length_append, List.length_singleton]; omega, ⟨⟨A7, c7, rfl, L7.out, C7.out⟩⟩, G6, ⟨by (with_reducible repeat (first | apply Kd.R_drewN | apply Kd.R_drew)); exact Kd.R_mono HR9.out (fun _ _ => trivial)⟩, ⟨by repeat (with_reducible first | exact HB9.out | apply pw_below_drewN | apply below_drew1)⟩, HD2⟩
        · obtain ⟨x0, x1, x2, x3⟩ := UO.out h13
          subst x0 x1 x2 x3
          obtain ⟨e1_, e2_⟩ := Prod.mk.inj (show ((⟨#[]⟩ : ByteArray), r2) = (K, r3) from K0.out)
          subst e1_ e2_
          obtain ⟨e1_, e2_⟩ := Prod.mk.inj (show ((⟨#[]⟩ : ByteArray), r2) = (V, r4) from K1.out)
          subst e1_ e2_
          obtain ⟨e1_, e2_⟩ := Prod.mk.inj (show ((⟨#[]⟩ : ByteArray), r2) = (O, r5) from K2.out)
          subst e1_ e2_
          obtain ⟨e1_, e2_⟩ := Prod.mk.inj (show ((0 : Int), r2) = (H, r6) from K3.out)
          subst e1_ e2_
          clear K0 K1 K2 K3 U0 U1 U2 U3 UO
          obtain ⟨t0, ht0⟩ : ∃ b, decide (1 ≤ op) = b := ⟨_, rfl⟩
          have ht1 : t0 = true → decide (op ≤ 13) = false := fun h => by subst h; exact decide_eq_false (fun h2 => h13 ⟨of_decide_eq_true ht0, h2⟩)
          clear h13
          cases t0 with
          | true =>
            have ht2 := ht1 rfl
            clear ht1
            go_upto_region 15 with (fail)
            clear hc0 hf0 hc1 hf1 hc2 hf2 hc3 hf3 hc4 hf4 hc5 hf5
            obtain ⟨wc, hz⟩ : ∃ w, w6 = w := ⟨_, rfl⟩
            subst hz
            have hc0 : w6.cell? ⟨ge, 0, none⟩ = some (.int .i64 T) := (blk_cell Be.out 0).trans rfl
            have hf0 := blk_frozen Be.out 0
            have hc1 : w6.cell? ⟨ge, 1, none⟩ = some (.int .i64 op) := (blk_cell Be.out 1).trans rfl
            have hf1 := blk_frozen Be.out 1
            have hc2 : w6.cell? ⟨ge, 2, none⟩ = some (.string (⟨#[]⟩ : ByteArray)) := (blk_cell Be.out 2).trans rfl
            have hf2 := blk_frozen Be.out 2
            have hc3 : w6.cell? ⟨ge, 3, none⟩ = some (.string (⟨#[]⟩ : ByteArray)) := (blk_cell Be.out 3).trans rfl
            have hf3 := blk_frozen Be.out 3
            have hc4 : w6.cell? ⟨ge, 4, none⟩ = some (.string (⟨#[]⟩ : ByteArray)) := (blk_cell Be.out 4).trans rfl
            have hf4 := blk_frozen Be.out 4
            have hc5 : w6.cell? ⟨ge, 5, none⟩ = some (.int .i64 0) := (blk_cell Be.out 5).trans rfl
            have hf5 := blk_frozen Be.out 5
            go_wp2_with (at_builtin; refine Kd.R_append k54 (w0 := W) W.heap.size rfl (.tmp 82) (.tmp 84) 42 54 (.agg #[(.int .i64 0), (.int .i64 0), (.string ⟨#[]⟩), (.string ⟨#[]⟩), (.string ⟨#[]⟩), (.int .i64 0)]) 72 rfl Tryd.underlying42 HScript.info54 rfl (by decide) (by decide) (.slice Ar acc.length cr) acc (⟨T, ⟨op, (⟨#[]⟩ : ByteArray), (⟨#[]⟩ : ByteArray), (⟨#[]⟩ : ByteArray), 0⟩⟩ : S54) _ (fun k => k ≠ ge) (fun _ => False) rfl rfl (HScript.k54_mkM _ _ _ ⟨T, ⟨op, (⟨#[]⟩ : ByteArray), (⟨#[]⟩ : ByteArray), (⟨#[]⟩ : ByteArray), 0⟩⟩) (fun _ hk => hk.elim) ?aF ?aO ?aB ?aS ?aL ?_; (case aF => intro k hk; have := blk_lt Be.out; have h2 : w6.heap.size ≤ k := hk; omega); (case aO => (with_reducible repeat (first | apply Kd.R_drewN | apply Kd.R_drew)); exact HR.out); (case aB => exact (by repeat (with_reducible first | exact HB.out | apply pw_below_drewN | apply below_drew1))); (case aS => exact (show Below W.heap.size W _ from (by repeat (with_reducible first | exact HB.out | apply pw_below_drewN | apply below_drew1))).size); (case aL => omega); intro v9 w9 ho hb hg_ hat_; have HR9 := Aside0.mk ho; have HB9 := Aside0.mk hb; clear ho hb hg_ hat_)
            go_roundg (5001 - (acc ++ [(⟨T, ⟨op, (⟨#[]⟩ : ByteArray), (⟨#[]⟩ : ByteArray), (⟨#[]⟩ : ByteArray), 0⟩⟩ : S54)]).length)
            case measure => rw [List.length_append, List.length_singleton]; omega
            case rel => exact ⟨acc ++ [⟨T, ⟨op, (⟨#[]⟩ : ByteArray), (⟨#[]⟩ : ByteArray), (⟨#[]⟩ : ByteArray), 0⟩⟩], r2, Nat.le_refl _, by rw [List.length_append, List.length_singleton]; omega, ⟨⟨A3, c3, rfl, L3.out, C3.out⟩⟩, G2, ⟨by (with_reducible repeat (first | apply Kd.R_drewN | apply Kd.R_drew)); exact Kd.R_mono HR9.out (fun _ _ => trivial)⟩, ⟨by repeat (with_reducible first | exact HB9.out | apply pw_below_drewN | apply below_drew1)⟩, HD2⟩
          | false =>
            clear ht1
            go_upto_region 15 with (fail)
            clear hc0 hf0 hc1 hf1 hc2 hf2 hc3 hf3 hc4 hf4 hc5 hf5
            have hc0 : w6.cell? ⟨ge, 0, none⟩ = some (.int .i64 T) := (blk_cell Be.out 0).trans rfl
            have hf0 := blk_frozen Be.out 0
            have hc1 : w6.cell? ⟨ge, 1, none⟩ = some (.int .i64 op) := (blk_cell Be.out 1).trans rfl
            have hf1 := blk_frozen Be.out 1
            have hc2 : w6.cell? ⟨ge, 2, none⟩ = some (.string (⟨#[]⟩ : ByteArray)) := (blk_cell Be.out 2).trans rfl
            have hf2 := blk_frozen Be.out 2
            have hc3 : w6.cell? ⟨ge, 3, none⟩ = some (.string (⟨#[]⟩ : ByteArray)) := (blk_cell Be.out 3).trans rfl
            have hf3 := blk_frozen Be.out 3
            have hc4 : w6.cell? ⟨ge, 4, none⟩ = some (.string (⟨#[]⟩ : ByteArray)) := (blk_cell Be.out 4).trans rfl
            have hf4 := blk_frozen Be.out 4
            have hc5 : w6.cell? ⟨ge, 5, none⟩ = some (.int .i64 0) := (blk_cell Be.out 5).trans rfl
            have hf5 := blk_frozen Be.out 5
            go_wp2_with (at_builtin; refine Kd.R_append k54 (w0 := W) W.heap.size rfl (.tmp 82) (.tmp 84) 42 54 (.agg #[(.int .i64 0), (.int .i64 0), (.string ⟨#[]⟩), (.string ⟨#[]⟩), (.string ⟨#[]⟩), (.int .i64 0)]) 72 rfl Tryd.underlying42 HScript.info54 rfl (by decide) (by decide) (.slice Ar acc.length cr) acc (⟨T, ⟨op, (⟨#[]⟩ : ByteArray), (⟨#[]⟩ : ByteArray), (⟨#[]⟩ : ByteArray), 0⟩⟩ : S54) _ (fun k => k ≠ ge) (fun _ => False) rfl rfl (HScript.k54_mkM _ _ _ ⟨T, ⟨op, (⟨#[]⟩ : ByteArray), (⟨#[]⟩ : ByteArray), (⟨#[]⟩ : ByteArray), 0⟩⟩) (fun _ hk => hk.elim) ?aF ?aO ?aB ?aS ?aL ?_; (case aF => intro k hk; have := blk_lt Be.out; have h2 : w6.heap.size ≤ k := hk; omega); (case aO => (with_reducible repeat (first | apply Kd.R_drewN | apply Kd.R_drew)); exact HR.out); (case aB => exact (by repeat (with_reducible first | exact HB.out | apply pw_below_drewN | apply below_drew1))); (case aS => exact (show Below W.heap.size W _ from (by repeat (with_reducible first | exact HB.out | apply pw_below_drewN | apply below_drew1))).size); (case aL => omega); intro v9 w9 ho hb hg_ hat_; have HR9 := Aside0.mk ho; have HB9 := Aside0.mk hb; clear ho hb hg_ hat_)
            go_roundg (5001 - (acc ++ [(⟨T, ⟨op, (⟨#[]⟩ : ByteArray), (⟨#[]⟩ : ByteArray), (⟨#[]⟩ : ByteArray), 0⟩⟩ : S54)]).length)
            case measure => rw [List.length_append, List.length_singleton]; omega
            case rel => exact ⟨acc ++ [⟨T, ⟨op, (⟨#[]⟩ : ByteArray), (⟨#[]⟩ : ByteArray), (⟨#[]⟩ : ByteArray), 0⟩⟩], r2, Nat.le_refl _, by rw [List.length_append, List.length_singleton]; omega, ⟨⟨A3, c3, rfl, L3.out, C3.out⟩⟩, G2, ⟨by (with_reducible repeat (first | apply Kd.R_drewN | apply Kd.R_drew)); exact Kd.R_mono HR9.out (fun _ _ => trivial)⟩, ⟨by repeat (with_reducible first | exact HB9.out | apply pw_below_drewN | apply below_drew1)⟩, HD2⟩
      · have hlt5 : ¬ (acc.length : Int) < 5000 := by omega
        have hD : acc = decode bs := by
          have := HD.out
          rw [show 5000 - acc.length = 0 by omega] at this
          simpa [decL] using this
        have HD2 := Aside0.mk hD
        clear hD HD hc1
        go_wp2
        go_ret
        exact ⟨_, rfl, by rw [← HD2.out]; (with_reducible repeat (first | apply Kd.R_drewN | apply Kd.R_drew)); exact HR.out, (by repeat (first | (with_reducible first | exact HB.out | apply below_alloc | apply pw_below_drewN | apply below_drew1) | exact HB.out))⟩

end Go.Proofs.YtfpjfndelkgciaaDoor.Sc
