/- script.Decode's closures over its place and its bytes. -/
import Derived.Test.YtfpjfndelkgciaaDoorScrE
import Derived.Test.YtfpjfndelkgciaaDoorScrB
import Derived.Shelf.GgClosure.Gives
namespace Go.Proofs.YtfpjfndelkgciaaDoor.Sc
open Go.RowKit Go.Proofs.YtfpjfndelkgciaaDoorW.PrintWords Go.Proofs.YtfpjfndelkgciaaDoorW.PrintLast Go.Proofs.YtfpjfndelkgciaaDoorW.PrintMore
open HScript (S25 S54 k25 k54 z25 z54)
attribute [local go_sem] max2_int min2_int max_two min_two
set_option linter.unusedVariables false
set_option linter.unusedSimpArgs false

/-- The place a in the bytes bs: the place's block, the bytes', that of the function 'next'. -/
structure St (W0 W : World) (ga gb gn : Nat) (A : Option Addr) (c : Nat) (bs : List Int) (a : Nat) : Prop where
  bel : Below W0.heap.size W0 W
  ba : W.heap[ga]? = some (.cells #[.int .i64 (a : Int)] 3 (0, 0))
  bb : W.heap[gb]? = some (.cells #[.slice A bs.length c] 39 (0, 0))
  bn : W.heap[gn]? = some (.cells #[.func (.func 37) #[] #[.pointer (some ⟨ga, 0, none⟩), .pointer (some ⟨gb, 0, none⟩)]] 55 (0, 0))
  ge : W0.heap.size ≤ ga
  le : a ≤ bs.length
  lc : bs.length ≤ c
  rd : Kd.C (Kd.int .u8) W0 A bs.length bs
section
variable {W0 W w : World} {ga gb gn c a : Nat} {A : Option Addr} {bs : List Int}
theorem St.nab (h : St W0 W ga gb gn A c bs a) : gb ≠ ga := blk_ne h.bb h.ba (by decide)
theorem St.nan (h : St W0 W ga gb gn A c bs a) : gn ≠ ga := blk_ne h.bn h.ba (by decide)
theorem St.cells (h : St W0 W ga gb gn A c bs a) : W.cell? ⟨ga, 0, none⟩ = some (.int .i64 (a : Int)) ∧ W.frozen? ⟨ga, 0, none⟩ = false ∧ W.cell? ⟨gb, 0, none⟩ = some (.slice A bs.length c) ∧ W.cell? ⟨gn, 0, none⟩ = some (.func (.func 37) #[] #[.pointer (some ⟨ga, 0, none⟩), .pointer (some ⟨gb, 0, none⟩)]) :=
  ⟨(blk_cell h.ba 0).trans rfl, blk_frozen h.ba 0, (blk_cell h.bb 0).trans rfl, (blk_cell h.bn 0).trans rfl⟩
theorem St.set (h : St W0 W ga gb gn A c bs a) (a' : Nat) (ha : a' ≤ bs.length) : St W0 (W.setCell ⟨ga, 0, none⟩ (.int .i64 (a' : Int))) ga gb gn A c bs a' :=
  ⟨below_set h.bel h.ge, blk_put (cs := #[.int .i64 (a : Int)]) h.ba 0 _ rfl, blk_far h.bb h.nab _, blk_far h.bn h.nan _, h.ge, ha, h.lc, h.rd⟩
theorem St.below (h : St W0 W ga gb gn A c bs a) (hb : Below W.heap.size W w) : St W0 w ga gb gn A c bs a :=
  ⟨below_step h.bel hb, blk_below h.ba hb, blk_below h.bb hb, blk_below h.bn hb, h.ge, h.le, h.lc, h.rd⟩
theorem St.drewN (h : St W0 W ga gb gn A c bs a) (q : Nat) : St W0 (W.drewN q) ga gb gn A c bs a := h.below (pw_below_drewN (Below.refl _ _) q)
theorem St.far (h : St W0 W ga gb gn A c bs a) {b j : Nat} (hg : W0.heap.size ≤ b) (h1 : b ≠ ga) (h2 : b ≠ gb) (h3 : b ≠ gn) (v : Value) : St W0 (W.setCell ⟨b, j, none⟩ v) ga gb gn A c bs a :=
  ⟨below_set h.bel hg, blk_far h.ba h1.symm _, blk_far h.bb h2.symm _, blk_far h.bn h3.symm _, h.ge, h.le, h.lc, h.rd⟩
theorem St.now (h : St W0 W ga gb gn A c bs a) : Kd.C (Kd.int .u8) W A bs.length bs := Kd.C_below h.rd h.bel
end
theorem drop_hd (bs : List Int) (a : Nat) (h : a < bs.length) : hd (bs.drop a) = rd bs (a : Int) := by
  unfold hd rd
  rw [List.drop_eq_getElem_cons h]
  simp [h]

def NextIs (W0 W : World) (ga gb gn : Nat) (A : Option Addr) (c : Nat) (bs : List Int) (a : Nat) (e : Ending) (w' : World) : Prop := ∃ a', e = .returned (.int .i64 (hd (bs.drop a))) ∧ bs.drop a' = (bs.drop a).drop 1 ∧ St W0 w' ga gb gn A c bs a' ∧ Mv W w' (fun k => k = ga)
theorem next_c (W0 : World) (ga gb gn : Nat) (A : Option Addr) (c : Nat) (bs : List Int) (a : Nat) (W : World) (h : St W0 W ga gb gn A c bs a) (hb : Rg bs) (hm : bs.length ≤ 1000000000) :
    Calls Tryd.prog 37 #[.pointer (some ⟨ga, 0, none⟩), .pointer (some ⟨gb, 0, none⟩)] W fun e w' => NextIs W0 W ga gb gn A c bs a e w' := by
  obtain ⟨c0, f0, c1, -⟩ := h.cells
  have HS := Aside0.mk h
  have hn := h.nab
  have hle := h.le
  by_cases hlt : a < bs.length
  · have hltI : ¬ ((bs.length : Int) ≤ (a : Int)) := by omega
    have hltJ : (a : Int) < (bs.length : Int) := by omega
    have e1 : wrap64 ((a : Int) + 1) = ((a + 1 : Nat) : Int) := by unfold wrap64; omega
    have e2 : wrap64 (((a + 1 : Nat) : Int) - 1) = (a : Int) := by unfold wrap64; omega
    have e2' : wrap64 ((a : Int) + 1 - 1) = (a : Int) := by unfold wrap64; omega
    obtain ⟨ad, e, hx⟩ := Kd.at_int h.now (a : Int) (by omega) hltJ
    cases e
    have hne : ad.block ≠ ga := fun he => by
      obtain ⟨ad2, e3, hx2⟩ := Kd.at_int h.rd (a : Int) (by omega) hltJ
      cases e3
      have := World.block_lt_of_cell? W0 _ hx2
      rw [add_block] at this
      have := h.ge
      omega
    rw [Int.toNat_natCast] at hx
    have hr := hb (rd bs (a : Int)) (by rw [show rd bs (a : Int) = bs[a] by simp [rd, hlt]]; exact List.getElem_mem hlt)
    have hw := u8_w hr
    have hx3 : (W.setCell ⟨ga, 0, none⟩ (.int .i64 ((a : Int) + 1))).cell? (ad.add a) = some (.int .u8 (rd bs (a : Int))) := (cell_far (p := ⟨ga, 0, none⟩) (by rw [add_block]; exact hne) _).trans hx
    have HH := Aside0.mk (drop_hd bs a hlt)
    have HW := Aside0.mk hw
    have HT := Aside0.mk hlt
    clear h hle hb hr hw hlt
    go_enter Tryd.func37, Tryd.ntmps37
    go_wp2
    go_ret
    refine ⟨a + 1, ?_, by rw [List.drop_drop], ?_, ?_⟩
    · rw [HH.out]
      exact congrArg (fun v => Ending.returned (.int .i64 v)) HW.out
    · have := HS.out.set (a + 1) (by have := HT.out; omega)
      exact this
    · exact (Mv.refl W (fun k => k = ga)).set (j := 0) (.inl rfl) _
  · have hltI : ((bs.length : Int) ≤ (a : Int)) := by omega
    have HT := Aside0.mk hlt
    clear h hlt
    go_enter Tryd.func37, Tryd.ntmps37
    go_wp2
    go_ret
    have hd0 : bs.drop a = [] := List.drop_eq_nil_of_le (by have := HT.out; omega)
    refine ⟨a, by rw [hd0]; rfl, by rw [hd0]; rfl, ?_, ?_⟩
    · exact HS.out.below (by repeat (first | exact Below.refl _ _ | apply pw_below_drewN | apply below_drew1))
    · exact Mv.of_below (by repeat (first | exact Below.refl _ _ | apply pw_below_drewN | apply below_drew1)) _
theorem eg37 : ∀ args w, (callFunc 37 args).run Tryd.prog w = .ok (.enter 37 args) w := enters_of Tryd.func37 (by kernel_rfl) rfl
theorem eg38 : ∀ args w, (callFunc 38 args).run Tryd.prog w = .ok (.enter 38 args) w := enters_of Tryd.func38 (by kernel_rfl) rfl
theorem place_no (gn ga gb : Nat) (W : World) : Calls Tryd.prog 38 #[.string ⟨#[]⟩, .pointer (some ⟨gn, 0, none⟩), .pointer (some ⟨ga, 0, none⟩), .pointer (some ⟨gb, 0, none⟩)] W fun e w' => e = .returned (.string ⟨#[]⟩) ∧ Drawn0 W w' := by
  go_enter Tryd.func38, Tryd.ntmps38
  go_wp2
  go_ret
  exact ⟨rfl, by repeat (first | exact Drawn0.refl _ | apply Drawn0.step)⟩

def TextIs (W0 W : World) (ga gb gn : Nat) (A : Option Addr) (c : Nat) (bs : List Int) (s : ByteArray) (r : List Int) (e : Ending) (w' : World) : Prop := ∃ a', e = .returned (.string s) ∧ bs.drop a' = r ∧ St W0 w' ga gb gn A c bs a' ∧ Mv W w' (fun k => k = ga)
theorem mid_take (bs : List Int) (a n : Nat) : (bs.take (min (a + n) bs.length)).drop a = (bs.drop a).take n := by
  rw [List.drop_take]
  rcases Nat.le_total (a + n) bs.length with h | h
  · rw [Nat.min_eq_left h, Nat.add_sub_cancel_left]
  · rw [Nat.min_eq_right h, List.take_of_length_le (by rw [List.length_drop]; exact Nat.le_refl _), List.take_of_length_le (by rw [List.length_drop]; omega)]
theorem mid_drop (bs : List Int) (a n : Nat) : bs.drop (min (a + n) bs.length) = (bs.drop a).drop n := by
  rw [List.drop_drop]
  rcases Nat.le_total (a + n) bs.length with h | h
  · rw [Nat.min_eq_left h]
  · rw [Nat.min_eq_right h, List.drop_length, List.drop_eq_nil_of_le h]
set_option maxHeartbeats 1000000 in
theorem place_yes (W0 : World) (ga gb gn : Nat) (A : Option Addr) (c : Nat) (bs : List Int) (a : Nat) (s : ByteArray) (r : List Int) (W : World) (h : St W0 W ga gb gn A c bs a) (hb : Rg bs) (hm : bs.length ≤ 1000000000) (hk : tx true (bs.drop a) = (s, r)) :
    Calls Tryd.prog 38 #[.string ⟨#[120]⟩, .pointer (some ⟨gn, 0, none⟩), .pointer (some ⟨ga, 0, none⟩), .pointer (some ⟨gb, 0, none⟩)] W fun e w' => TextIs W0 W ga gb gn A c bs s r e w' := by
  obtain ⟨e1_, e2_⟩ := Prod.mk.inj (show (strOfNums (((bs.drop a).drop 1).take (hd (bs.drop a) % 17).toNat), ((bs.drop a).drop 1).drop (hd (bs.drop a) % 17).toNat) = (s, r) from hk)
  obtain ⟨x, hx⟩ : ∃ x, x = hd (bs.drop a) := ⟨_, rfl⟩
  have hx0 := (hb.drop a).hd
  rw [← hx] at e1_ e2_ hx0
  have E1 := Aside0.mk e1_
  have E2 := Aside0.mk e2_
  have HX := Aside0.mk hx
  obtain ⟨N, hN⟩ : ∃ N : Nat, Int.tmod x 17 = (N : Int) := ⟨(Int.tmod x 17).toNat, by have : Int.tmod x 17 = x % 17 := Int.tmod_eq_emod_of_nonneg hx0.1; omega⟩
  have hNx : (x % 17).toNat = N := by have : Int.tmod x 17 = x % 17 := Int.tmod_eq_emod_of_nonneg hx0.1; omega
  have hN17 : N < 17 := by have : Int.tmod x 17 = x % 17 := Int.tmod_eq_emod_of_nonneg hx0.1; omega
  have HNX := Aside0.mk hNx
  have HN17 := Aside0.mk hN17
  obtain ⟨c0, f0, c1, c2⟩ := h.cells
  have HS := Aside0.mk h
  have HB := Aside0.mk hb
  have HM := Aside0.mk hm
  have eg := eg37
  clear h hb hm hk hx e1_ e2_ hx0 hNx hN17
  go_enter Tryd.func38, Tryd.ntmps38
  go_upto_region 4 with (go_at_fn 37; (with_reducible refine (next_c W0 ga gb gn A c bs a _ HS.out HB.out HM.out).mono ?_); rintro e w1 ⟨a1, rfl, hr1, hs1, hm1⟩; rw [← HX.out]; have HR1 := Aside0.mk hr1; have HS1 := Aside0.mk hs1; have HM1 := Aside0.mk hm1; clear hr1 hs1 hm1)
  clear c0 f0 c1 c2
  obtain ⟨c0, f0, c1, c2⟩ := HS1.out.cells
  have e3 : wrap64 ((a1 : Int) + (N : Int)) = (a1 : Int) + (N : Int) := by have := HS1.out.le; have := HM.out; have := HN17.out; unfold wrap64; omega
  obtain ⟨a2, ha2⟩ : ∃ a2, a2 = min (a1 + N) bs.length := ⟨_, rfl⟩
  have hif : (if (bs.length : Int) < (a1 : Int) + (N : Int) then (bs.length : Int) else (a1 : Int) + (N : Int)) = (a2 : Int) := by rw [ha2]; split <;> omega
  have HA2 := Aside0.mk ha2
  clear ha2
  go_upto_region 6 with (fail)
  have HS2 := Aside0.mk (HS1.out.set a2 (by rw [HA2.out]; exact Nat.min_le_right _ _))
  have HM2 := Aside0.mk (HM1.out.set (j := 0) (.inl rfl) (.int .i64 (a2 : Int)))
  have hle12 : a1 ≤ a2 := by have := HS1.out.le; rw [HA2.out]; omega
  have HLE := Aside0.mk hle12
  have HL1 := Aside0.mk HS1.out.lc
  clear c0 f0 c1 c2 e3 hif HS1 HM1
  generalize w1.setCell ⟨ga, 0, none⟩ (.int .i64 (a2 : Int)) = w2 at HS2 HM2 ⊢
  obtain ⟨c0, -, c1, -⟩ := HS2.out.cells
  obtain ⟨i0, hi0, _, hsz, _⟩ := info_parts HScript.info5
  have hcut := cut_mid (P := Tryd.prog) 39 5 .i64 .i64 Tryd.underlying39 hi0 1 hsz A bs.length c (a1 : Int) (a2 : Int) (by omega) (by omega) (by have := HS2.out.le; omega) HL1.out
  have hmid := Kd.C_mid (lo := a1) (hi := a2) HS2.out.now hle12 HS2.out.le HL1.out
  have em : (bs.take a2).drop a1 = (bs.drop a1).take N := by rw [HA2.out]; exact mid_take bs a1 N
  have el : ((bs.take a2).drop a1).length = a2 - a1 := by rw [List.length_drop, List.length_take]; have := HS2.out.le; omega
  simp only [Int.toNat_natCast] at hcut
  rw [← el] at hcut
  have es : strOfNums ((bs.take a2).drop a1) = s := by rw [em, HR1.out, ← E1.out, HNX.out]
  obtain ⟨A9, hA9⟩ : ∃ A9, A9 = (if c = a1 then A else A.map (·.add (a1 * 1))) := ⟨_, rfl⟩
  rw [← hA9] at hcut
  have hmid2 : Kd.C (Kd.int .u8) w2 A9 ((bs.take a2).drop a1).length ((bs.take a2).drop a1) := by rw [hA9]; exact hmid
  have hcv : (convert 39 9 (.slice A9 ((bs.take a2).drop a1).length (c - a1))).run Tryd.prog w2 = .ok (.string s) w2 := by
    rw [← es]
    exact Kd.C_string Tryd.underlying39 Tryd.underlying5 Tryd.underlying9 hmid2
  obtain ⟨n9, hn9⟩ : ∃ n, n = ((bs.take a2).drop a1).length := ⟨_, rfl⟩
  rw [← hn9] at hcut hcv
  clear hmid hmid2 em el es hA9 hn9 hi0 hsz
  go_wp2
  go_ret
  refine ⟨a2, rfl, ?_, ?_, ?_⟩
  · rw [HA2.out, mid_drop, HR1.out, ← E2.out, HNX.out]
  · exact HS2.out
  · exact HM2.out
end Go.Proofs.YtfpjfndelkgciaaDoor.Sc
