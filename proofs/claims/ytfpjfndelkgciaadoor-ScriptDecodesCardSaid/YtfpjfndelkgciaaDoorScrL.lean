/- The walks of the script layer's three laws. -/
import Derived.Test.YtfpjfndelkgciaaDoorScrF
import Derived.Test.YtfpjfndelkgciaaDoorScrQ
namespace Go.Proofs.YtfpjfndelkgciaaDoor.Sc
open Go.RowKit Go.Proofs.YtfpjfndelkgciaaDoorW.PrintWords Go.Proofs.YtfpjfndelkgciaaDoorW.PrintLast Go.Proofs.YtfpjfndelkgciaaDoorW.PrintMore
open HScript (S25 S54 k25 k54 z25 z54)
open Fw (usesB Used)
set_option linter.unusedVariables false
set_option linter.unusedSimpArgs false

/-- Bytes that may be read. -/
structure Bs (W : World) (v : Value) (bs : List Int) : Prop where
  mk ::
  is : ∃ A c, v = .slice A bs.length c ∧ bs.length ≤ c ∧ Kd.C (Kd.int .u8) W A bs.length bs
structure Es (W : World) (v : Value) (l : List S54) : Prop where
  mk ::
  is : ∃ A c, v = .slice A l.length c ∧ l.length ≤ c ∧ Kd.C k54 W A l.length l
theorem Bs.below {W w : World} {v : Value} {bs : List Int} (h : Bs W v bs) (hb : Below W.heap.size W w) : Bs w v bs := by
  obtain ⟨A, c, e, hl, hC⟩ := h.is
  exact ⟨A, c, e, hl, Kd.C_below hC hb⟩
theorem Es.below {W w : World} {v : Value} {l : List S54} (h : Es W v l) (hb : Below W.heap.size W w) : Es w v l := by
  obtain ⟨A, c, e, hl, hC⟩ := h.is
  exact ⟨A, c, e, hl, Kd.C_below hC hb⟩
theorem Es.of_R {w : World} {base : Nat} {ok : Nat → Prop} {v : Value} {l : List S54} (h : Kd.R k54 54 w base ok v l) : Es w v l := ⟨Kd.R_reads h⟩
theorem Bs.of_R {w : World} {base : Nat} {ok : Nat → Prop} {v : Value} {l : List Int} (h : Kd.R (Kd.int .u8) 5 w base ok v l) : Bs w v l := ⟨Kd.R_reads h⟩
theorem Bs.of_own {w : World} {base : Nat} {v : Value} {l : List Int} (h : w.ownsRow base 5 1 v l.length (nums .u8 l)) : Bs w v l := Bs.of_R (ok := fun _ => True) (Kd.R_of_own (enc := Value.int .u8) (h1 := fun _ => rfl) h (fun _ _ => trivial))
theorem few_e (v : Value) (l : List S54) (W : World) (h : Es W v l) : Calls Tryd.prog 29 #[v] W fun e w' => ∃ u, e = .returned u ∧ Es w' u (l.take 5001) ∧ Below W.heap.size W w' := by
  obtain ⟨A, c, rfl, hl, hC⟩ := h.is
  refine (few29 A c l W hC hl).mono ?_
  rintro e w' ⟨u, he, hr, hb⟩
  exact ⟨u, he, Es.of_R hr, hb⟩
theorem bytes_e (v : Value) (bs : List Int) (W : World) (h : Bs W v bs) : Calls Tryd.prog 24 #[v] W fun e w' => ∃ u, e = .returned u ∧ Bs w' u (bs.take 20000) ∧ Below W.heap.size W w' := by
  obtain ⟨A, c, rfl, hl, hC⟩ := h.is
  refine (bytes24 A c bs W hC hl).mono ?_
  rintro e w' ⟨u, he, hr, hb⟩
  exact ⟨u, he, Bs.of_R hr, hb⟩
theorem decode_e (v : Value) (bs : List Int) (W : World) (h : Bs W v bs) (hb : Rg bs) (hm : bs.length ≤ 1000000000) (HU : Used W) : Calls Tryd.prog 26 #[v] W fun e w' => ∃ u, e = .returned u ∧ Es w' u (decode bs) ∧ Below W.heap.size W w' := by
  obtain ⟨A, c, rfl, hl, hC⟩ := h.is
  refine (decode_c A c bs W hC hl hb hm HU).mono ?_
  rintro e w' ⟨u, he, hr, hb⟩
  exact ⟨u, he, Es.of_R hr, hb⟩
theorem rdecode_e (v : Value) (bs : List Int) (W : World) (h : Bs W v bs) (hb : Rg bs) : Calls Tryd.prog 27 #[v] W fun e w' => ∃ u, e = .returned u ∧ Es w' u (decode bs) ∧ Below W.heap.size W w' := by
  obtain ⟨A, c, rfl, hl, hC⟩ := h.is
  refine (rdecode_c A c bs W hC hl hb).mono ?_
  rintro e w' ⟨u, he, hr, hb⟩
  exact ⟨u, he, Es.of_R hr, hb⟩
theorem encode_e (v : Value) (l : List S54) (W : World) (h : Es W v l) (HU : Used W) : Calls Tryd.prog 30 #[v] W fun e w' => ∃ u, e = .returned (.tuple #[u, .int .i64 (encode l).2]) ∧ Bs w' u (encode l).1 ∧ Below W.heap.size W w' := by
  obtain ⟨A, c, rfl, hl, hC⟩ := h.is
  refine (encode_c A c l W hC hl HU).mono ?_
  rintro e w' ⟨u, he, hr, hb⟩
  exact ⟨u, he, Bs.of_own hr, hb⟩
theorem rencode_e (v : Value) (l : List S54) (W : World) (h : Es W v l) : Calls Tryd.prog 31 #[v] W fun e w' => ∃ u, e = .returned (.tuple #[u, .int .i64 (encode l).2]) ∧ Bs w' u (encode l).1 ∧ Below W.heap.size W w' := by
  obtain ⟨A, c, rfl, hl, hC⟩ := h.is
  obtain ⟨k, hk⟩ := rEncode_f l
  refine (HScript.boscageref42_Encode.calls k A c l (encode l).1 (encode l).2 W hC hl hk).mono ?_
  rintro e w' ⟨u, he, hr, hb⟩
  exact ⟨u, he, Bs.of_R hr, hb⟩
theorem rsame_e (v u : Value) (l m : List S54) (W : World) (h : Es W v l) (h' : Es W u m) (hl : l.length ≤ 100000) : Calls Tryd.prog 25 #[v, u] W fun e w' => e = .returned (.bool (same l m)) ∧ Drawn0 W w' := by
  obtain ⟨A, c, rfl, h1, hC⟩ := h.is
  obtain ⟨A', c', rfl, h1', hC'⟩ := h'.is
  obtain ⟨k, hk⟩ := rsame_f l m hl
  exact HScript.boscageref42_Same.calls k A c l A' c' m _ W hC h1 hC' h1' hk
theorem psame_e (v u : Value) (l m : List S54) (W : World) (h : Es W v l) (h' : Es W u m) (hl : l.length ≤ 100000) : Calls Tryd.prog 32 #[v, u] W fun e w' => e = .returned (.bool (same l m)) ∧ Drawn0 W w' := by
  obtain ⟨A, c, rfl, h1, hC⟩ := h.is
  obtain ⟨A', c', rfl, h1', hC'⟩ := h'.is
  obtain ⟨k, hk⟩ := psame_f l m hl
  exact HScript.script_Same.calls k A c l A' c' m _ W hC h1 hC' h1' hk
theorem dec_len (bs : List Int) (h : Rg bs) : (decode bs).length ≤ 100000 := by have := (decL_ok 5000 bs h).1; unfold decode; omega
theorem take2 {α : Type} (l : List α) (n : Nat) : (l.take n).take n = l.take n := by rw [List.take_take, Nat.min_self]

theorem law_decodes (v : Value) (bs : List Int) (W : World) (h : Bs W v bs) (hb : Rg bs) (HU : Used W) : Calls Tryd.prog 6 #[v] W fun e w' => e = .returned (.bool true) ∧ Below W.heap.size W w' := by
  obtain ⟨b1, hb1⟩ : ∃ b, b = bs.take 20000 := ⟨_, rfl⟩
  have G1 : Rg b1 := by rw [hb1]; exact hb.take _
  have e2 : b1.take 20000 = b1 := by rw [hb1]; exact take2 _ _
  have HL1 := Aside0.mk (show b1.length ≤ 1000000000 by rw [hb1, List.length_take]; omega)
  have HG := Aside0.mk G1
  have HE2 := Aside0.mk e2
  have HDL := Aside0.mk (dec_len b1 G1)
  have HS := Aside0.mk (same_refl (decode b1))
  have HV := Aside0.mk h
  have H1 := Aside0.mk hb1.symm
  clear hb1 G1 e2 h hb
  go_enter Tryd.func6, Tryd.ntmps6
  go_upto_region 2 with (go_at_call 24; (with_reducible refine (bytes_e v bs _ HV.out).mono ?_); rintro e w1 ⟨u1, rfl, h1, hb1⟩; rw [H1.out] at h1; have B1 := Aside0.mk h1; have HB1 := Aside0.mk hb1; clear h1 hb1)
  have HU1 := HU.below HB1.out
  go_wp2_with (first
    | (go_at_call 24; (with_reducible refine (bytes_e u1 b1 _ B1.out).mono ?_); rintro e w2 ⟨u2, rfl, h1, hb1⟩; rw [HE2.out] at h1; have B2 := Aside0.mk h1; have HB2 := Aside0.mk hb1; clear h1 hb1)
    | (go_at_call 26; (with_reducible refine (decode_e u2 b1 _ B2.out HG.out HL1.out (HU1.below HB2.out)).mono ?_); rintro e w3 ⟨u3, rfl, h1, hb1⟩; have E3 := Aside0.mk h1; have HB3 := Aside0.mk (below_step HB2.out hb1); clear h1 hb1)
    | (go_at_call 27; (with_reducible refine (rdecode_e u1 b1 _ (B1.out.below HB3.out) HG.out).mono ?_); rintro e w4 ⟨u4, rfl, h1, hb1⟩; have E4 := Aside0.mk h1; have HB34 := Aside0.mk hb1; have HB4 := Aside0.mk (below_step HB3.out hb1); clear h1 hb1)
    | (go_at_call 25; (with_reducible refine (rsame_e u3 u4 _ _ _ (E3.out.below HB34.out) E4.out HDL.out).mono ?_); rw [HS.out]; rintro e w5 ⟨rfl, ⟨q5, rfl⟩⟩)
    | (go_at_call 28; (with_reducible refine (works_c _ (HU1.below (by repeat (with_reducible first | exact HB4.out | apply pw_below_drewN | apply below_drew1)))).mono ?_); rintro e w6 ⟨rfl, hb⟩; have HB6 := Aside0.mk (below_step (by repeat (with_reducible first | exact HB4.out | apply pw_below_drewN | apply below_drew1)) hb); clear hb))
  go_ret
  exact ⟨rfl, below_step HB1.out HB6.out⟩
end Go.Proofs.YtfpjfndelkgciaaDoor.Sc
