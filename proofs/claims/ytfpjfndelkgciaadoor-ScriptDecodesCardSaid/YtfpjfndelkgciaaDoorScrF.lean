/- The script layer's whole that must work; the law's few and bytes. -/
import Derived.Test.YtfpjfndelkgciaaDoorScrG
import Derived.Test.YtfpjfndelkgciaaDoorHScriptx6
namespace Go.Proofs.YtfpjfndelkgciaaDoor.Sc
open Go.RowKit Go.Proofs.YtfpjfndelkgciaaDoorW.PrintWords Go.Proofs.YtfpjfndelkgciaaDoorW.PrintLast Go.Proofs.YtfpjfndelkgciaaDoorW.PrintMore
open HScript (S25 S54 k25 k54 z25 z54)
open Fw (usesB Used)
attribute [local go_sem] max2_int min2_int max_two min_two
set_option linter.unusedVariables false
set_option linter.unusedSimpArgs false

def ex : S54 := ⟨0, ⟨1, ⟨#[97]⟩, ⟨#[]⟩, ⟨#[]⟩, 0⟩⟩
theorem dec_ex : decode [0, 1, 1, 97] = [ex] := by kernel_rfl
theorem enc_ex : encode [ex] = ([0, 1, 1, 97], 0) := by kernel_rfl
theorem str_ex : strOfNums [0, 1, 1, 97] = ⟨#[0, 1, 1, 97]⟩ := by kernel_rfl
theorem reads4 (W : World) (a b c d : Int) : Kd.C (Kd.int .u8) (W.alloc (.cells #[.int .u8 a, .int .u8 b, .int .u8 c, .int .u8 d] 5)) (some ⟨W.heap.size, 0, none⟩) 4 [a, b, c, d] := by
  have h := blk_new W (.cells #[.int .u8 a, .int .u8 b, .int .u8 c, .int .u8 d] 5)
  refine Kd.C_of_reads (enc := Value.int .u8) (d := (0 : Int)) (h1 := fun _ => rfl) ⟨rfl, by decide, fun _ => ⟨_, rfl, fun j hj => ?_⟩⟩
  rw [add_plain]
  match j, hj with
  | 0, _ => exact (blk_cell h 0).trans rfl
  | 1, _ => exact (blk_cell h 1).trans rfl
  | 2, _ => exact (blk_cell h 2).trans rfl
  | 3, _ => exact (blk_cell h 3).trans rfl
theorem eq54 (x : S54) (w : World) : (binOp .eql 54 (.agg #[.int .i64 x.f0, .int .i64 x.f1.f0, .string x.f1.f1, .string x.f1.f2, .string x.f1.f3, .int .i64 x.f1.f4]) (.agg #[.int .i64 x.f0, .int .i64 x.f1.f0, .string x.f1.f1, .string x.f1.f2, .string x.f1.f3, .int .i64 x.f1.f4])).run Tryd.prog w = .ok (.bool true) w := by
  simp [binOp, Op.equal, show Op.maxDepth = 9997 + 3 from rfl, HScript.eqA54 9997 w, Result.andThen]
theorem works_c (W : World) (HU : Used W) : Calls Tryd.prog 28 #[] W fun e w' => e = .returned (.bool true) ∧ Below W.heap.size W w' := by
  have hu54 := Tryd.underlying54
  have hu25 := Tryd.underlying25
  obtain ⟨w0, hw0⟩ : ∃ w, w = W.alloc (.cells #[.int .u8 0, .int .u8 1, .int .u8 1, .int .u8 97] 5) := ⟨_, rfl⟩
  obtain ⟨g0, hg0⟩ : ∃ g, g = W.heap.size := ⟨_, rfl⟩
  have hr4 : Kd.C (Kd.int .u8) w0 (some ⟨g0, 0, none⟩) 4 [0, 1, 1, 97] := by rw [hw0, hg0]; exact reads4 W 0 1 1 97
  have hb0 : Below W.heap.size W w0 := by rw [hw0]; exact below_alloc (Below.refl _ _) _
  have hdec : Calls Tryd.prog 26 #[.slice (some ⟨g0, 0, none⟩) 4 4] w0 fun e w' => ∃ v, e = .returned v ∧ Kd.R k54 54 w' w0.heap.size (fun _ => True) v [ex] ∧ Below w0.heap.size w0 w' := by
    have := decode_c (some ⟨g0, 0, none⟩) 4 [0, 1, 1, 97] w0 hr4 (by decide) (by intro x hx; simp at hx; omega) (by decide) (HU.below hb0)
    rw [dec_ex] at this
    exact this
  have HDEC := Aside0.mk hdec
  have HB0 := Aside0.mk hb0
  have HW0 := Aside0.mk hw0
  clear hr4 hb0 hdec hw0
  go_enter Tryd.func28, Tryd.ntmps28
  go_upto_region 1 with (fail)
  go_upto_region 2 with (rw [← hg0, ← HW0.out]; go_at_call 26; (with_reducible refine HDEC.out.mono ?_); rintro e w1 ⟨v, rfl, hr, hb⟩; have HR := Aside0.mk hr; have HB := Aside0.mk (below_step HB0.out hb); clear hr hb)
  obtain ⟨A1, c1, hv⟩ := Kd.R_slice HR.out
  have hv1 : v = .slice A1 1 c1 := hv
  subst hv1
  obtain ⟨-, hc1, hC1⟩ := Kd.R_reads' HR.out
  have henc : Calls Tryd.prog 30 #[.slice A1 1 c1] w1 fun e w' => ∃ v, e = .returned (.tuple #[v, .int .i64 0]) ∧ w'.ownsRow w1.heap.size 5 1 v 4 (nums .u8 [0, 1, 1, 97]) ∧ Below w1.heap.size w1 w' := by
    have := encode_c A1 c1 [ex] w1 hC1 hc1 (HU.below HB.out)
    rw [enc_ex] at this
    exact this
  have HENC := Aside0.mk henc
  obtain ⟨ad, e, x0, x1, x2, x3, x4, x5⟩ := HScript.at_T54 hC1 0 (by decide) (by decide)
  cases e
  rw [show ad.add ((0 : Int).toNat * 6) = ad by rw [show ((0 : Int).toNat * 6) = 0 from rfl, Addr.add_zero']] at x0 x1 x2 x3 x4 x5
  have X := Aside0.mk (And.intro x0 (And.intro x1 (And.intro x2 (And.intro x3 (And.intro x4 x5)))))
  clear hC1 henc hc1 hv x0 x1 x2 x3 x4 x5
  go_upto_region 3 with (go_at_call 30; (with_reducible refine HENC.out.mono ?_); rintro e w2 ⟨v2, rfl, ho, hb⟩; have HO := Aside0.mk ho; have HB2 := Aside0.mk hb; clear ho hb)
  obtain ⟨y0, y1, y2, y3, y4, y5⟩ := X.out
  replace y0 : w2.cell? ad = some (.int .i64 0) := pw_cell_below HB2.out y0
  replace y1 : w2.cell? ⟨ad.block, ad.off + 1, none⟩ = some (.int .i64 1) := pw_cell_below HB2.out y1
  replace y2 : w2.cell? ⟨ad.block, ad.off + 2, none⟩ = some (.string ⟨#[97]⟩) := pw_cell_below HB2.out y2
  replace y3 : w2.cell? ⟨ad.block, ad.off + 3, none⟩ = some (.string ⟨#[]⟩) := pw_cell_below HB2.out y3
  replace y4 : w2.cell? ⟨ad.block, ad.off + 4, none⟩ = some (.string ⟨#[]⟩) := pw_cell_below HB2.out y4
  replace y5 : w2.cell? ⟨ad.block, ad.off + 5, none⟩ = some (.int .i64 0) := pw_cell_below HB2.out y5
  have heq : ∀ w, (binOp .eql 54 (.agg #[.int .i64 0, .int .i64 1, .string ⟨#[97]⟩, .string ⟨#[]⟩, .string ⟨#[]⟩, .int .i64 0]) (.agg #[.int .i64 0, .int .i64 1, .string ⟨#[97]⟩, .string ⟨#[]⟩, .string ⟨#[]⟩, .int .i64 0])).run Tryd.prog w = .ok (.bool true) w := fun w => eq54 ex w
  obtain ⟨A2, c2, hv2⟩ := own_slice HO.out
  have hcv : (convert 39 9 v2).run Tryd.prog w2 = .ok (.string ⟨#[0, 1, 1, 97]⟩) w2 := by rw [← str_ex]; exact own_string Tryd.underlying39 Tryd.underlying5 Tryd.underlying9 HO.out
  have hl : ((1 : Int) == 1) = true := by decide
  clear X hv2
  go_wp2
  go_ret
  exact ⟨rfl, below_step HB.out HB2.out⟩
theorem bytes24 (A : Option Addr) (c : Nat) (bs : List Int) (W : World) (hC : Kd.C (Kd.int .u8) W A bs.length bs) (hc : bs.length ≤ c) :
    Calls Tryd.prog 24 #[.slice A bs.length c] W fun e w' => ∃ v, e = .returned v ∧ Kd.R (Kd.int .u8) 5 w' W.heap.size (fun _ => True) v (bs.take 20000) ∧ Below W.heap.size W w' := by
  obtain ⟨j, hj⟩ : ∃ j, j = min bs.length 20000 := ⟨_, rfl⟩
  have hif : (if (20000 : Int) < (bs.length : Int) then (20000 : Int) else (bs.length : Int)) = (j : Int) := by rw [hj]; split <;> omega
  have hjl : j ≤ bs.length := by omega
  obtain ⟨i0, hi0, _, hsz, _⟩ := info_parts HScript.info5
  have hcut := cut_to (P := Tryd.prog) 39 5 .i64 Tryd.underlying39 hi0 A bs.length c (j : Int) (by omega) (by omega) hc
  rw [Int.toNat_natCast] at hcut
  have etake : bs.take j = bs.take 20000 := by
    rw [hj]
    rcases Nat.le_total bs.length 20000 with h | h
    · rw [Nat.min_eq_left h, List.take_length, List.take_of_length_le h]
    · rw [Nat.min_eq_right h]
  have hT := Kd.C_take (m := j) hC hjl
  have hlen : (bs.take j).length = j := by rw [List.length_take]; omega
  rw [hlen] at hT
  have HT := Aside0.mk hT
  have HJ := Aside0.mk (show j ≤ 20000 by omega)
  have HE := Aside0.mk etake
  have HLE := Aside0.mk hlen
  have hcb : ¬ ((c : Int) < (j : Int)) := by omega
  clear hC hc hj hT hi0 hsz etake hlen hjl
  go_enter Tryd.func24, Tryd.ntmps24
  go_wp2_with (first
    | ((with_reducible refine gate_dst (N := 3) rfl ?_); refine Kd.R_lit (Kd.int .u8) (w0 := W) W.heap.size 5 ?hg (N := 3) ?hd (xs := ([] : List Int)) (inner := []) (ok := fun _ => True) (okp := fun _ => True) ?hr (Reps.none _ _) (fun _ hk => hk) trivial (Below.refl _ _) (Nat.le_refl _) (by simp) ?_; (case hd => rfl); (case hg => rfl); (case hr => first | (go_simp; done) | (go_simp; rfl)); intro v9 w9 ho hb hg_ hnew_; have HR := Aside0.mk ho; have HB := Aside0.mk hb; clear ho hb hg_ hnew_)
    | ((with_reducible refine gate_builtin (b := .append) (xs := #[.tmp 3, .tmp 8]) rfl ?_); at_builtin; refine print_append_row (w0 := W) W.heap.size rfl (.tmp 3) (.tmp 8) 39 5 .u8 1 rfl Tryd.underlying39 HScript.info5 (by decide) v9 [] (bs.take j) A j c rfl rfl (Kd.own_of_R HR.out) (Kd.reads_of_C (d := (0 : Int)) (Kd.C_below HT.out HB.out)) HB.out HB.out.size ?aL ?_; (case aL => have := HJ.out; simp only [List.length_nil]; omega); intro v1 w1 hown hb hg hat; have HO1 := Aside0.mk hown; have HB1 := Aside0.mk hb; clear hown hb hg hat))
  go_ret
  refine ⟨_, rfl, ?_, HB1.out⟩
  rw [← HE.out]
  exact Kd.R_of_own (enc := Value.int .u8) (h1 := fun _ => rfl) (by have h := HO1.out; rw [List.nil_append] at h; exact h) (fun _ _ => trivial)
theorem few29 (A : Option Addr) (c : Nat) (l : List S54) (W : World) (hC : Kd.C k54 W A l.length l) (hc : l.length ≤ c) :
    Calls Tryd.prog 29 #[.slice A l.length c] W fun e w' => ∃ v, e = .returned v ∧ Kd.R k54 54 w' W.heap.size (fun _ => True) v (l.take 5001) ∧ Below W.heap.size W w' := by
  refine HScript.boscagelaw42_few.calls A c l (l.take 5001) W hC hc ?_
  unfold HScript.boscagelaw42_few.f
  have h0 : 0 ≤ mn (l.length : Int) 5001 := by unfold mn; split <;> omega
  have h1 : mn (l.length : Int) 5001 ≤ (l.length : Int) := by unfold mn; split <;> omega
  have h2 : l.take (mn (l.length : Int) 5001).toNat = l.take 5001 := by
    unfold mn
    split
    · rfl
    · rw [Int.toNat_natCast, List.take_length, List.take_of_length_le (by omega)]
  have h3 : (l.take 5001).length ≤ 5001 := by rw [List.length_take]; omega
  simp only [Option.bind_some, List.nil_append, List.length_nil]
  rw [if_pos h0, if_pos h1, h2, if_pos (by omega)]
end Go.Proofs.YtfpjfndelkgciaaDoor.Sc
