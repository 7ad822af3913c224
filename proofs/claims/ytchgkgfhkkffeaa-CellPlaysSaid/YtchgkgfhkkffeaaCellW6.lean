/- The walk of the law CellChanges. -/
import Derived.Test.YtchgkgfhkkffeaaCellW5
import Derived.Test.YtchgkgfhkkffeaaCellO
import Derived.Test.YtchgkgfhkkffeaaPCellChangesx1
namespace Go.Proofs.Ytchgkgfhkkffeaa.Ce
open Go.RowKit Go.Proofs.YtchgkgfhkkffeaaW.PrintWords Go.Proofs.YtchgkgfhkkffeaaW.PrintLast Go.Proofs.YtchgkgfhkkffeaaW.PrintMore
attribute [local go_sem] max2_int min2_int max_two min_two
set_option linter.unusedVariables false
set_option linter.unusedSimpArgs false

abbrev wc3 (x : W3) : List Value := [.int .i64 x.1, .int .i64 x.2.1, .int .i64 x.2.2]
abbrev RW (W : World) (A : Option Addr) (ws : List W3) : Prop := RA 3 wc3 W A ws
theorem RW.at_ {W : World} {A : Option Addr} {ws : List W3} (h : RW W A ws) {j : Nat} {x : W3} (hj : ws[j]? = some x) : ∃ b off, A = some ⟨b, off, none⟩ ∧ W.cell? ⟨b, off + j * 3, none⟩ = some (.int .i64 x.1) ∧ W.cell? ⟨b, off + j * 3 + 1, none⟩ = some (.int .i64 x.2.1) ∧ W.cell? ⟨b, off + j * 3 + 2, none⟩ = some (.int .i64 x.2.2) := by
  rcases h with rfl | ⟨b, off, hA, -, hc⟩
  · simp at hj
  · exact ⟨b, off, hA, hc j x hj 0 (by decide), hc j x hj 1 (by decide), hc j x hj 2 (by decide)⟩
/-- The act in its box. -/
def Act8 (W : World) (b : Nat) (a : Act4) : Prop := W.heap[b]? = some (.cells (actCells a).toArray 49 (0, 0))
theorem Act8.c {W : World} {b : Nat} {a : Act4} (h : Act8 W b a) : W.cell? ⟨b, 1, none⟩ = some (.int .i64 a.2.1) ∧ W.cell? ⟨b, 2, none⟩ = some (.int .i64 a.2.2.1.1) ∧ W.cell? ⟨b, 3, none⟩ = some (.int .i64 a.2.2.1.2.1) ∧ W.cell? ⟨b, 4, none⟩ = some (.int .i64 a.2.2.1.2.2) ∧ W.cell? ⟨b, 5, none⟩ = some (.int .i64 a.2.2.2.1) ∧ W.cell? ⟨b, 6, none⟩ = some (.int .i64 a.2.2.2.2.1) ∧ W.cell? ⟨b, 7, none⟩ = some (.int .i64 a.2.2.2.2.2) :=
  ⟨(blk_cell h 1).trans rfl, (blk_cell h 2).trans rfl, (blk_cell h 3).trans rfl, (blk_cell h 4).trans rfl, (blk_cell h 5).trans rfl, (blk_cell h 6).trans rfl, (blk_cell h 7).trans rfl⟩

theorem fill_get (ws : List W3) (k m : Nat) (hk : k < m) (hm : m ≤ ws.length) : (ws.take k ++ List.replicate (m - k) zero)[k]? = some zero := by
  rw [List.getElem?_append_right (by rw [List.length_take]; omega), List.length_take, Nat.min_eq_left (by omega), Nat.sub_self]
  exact rep_get _ 0 (by omega)
theorem fill_set (ws : List W3) (k m : Nat) (x : W3) (hk : k < m) (hx : ws[k]? = some x) : (ws.take k ++ List.replicate (m - k) zero).set k x = ws.take (k + 1) ++ List.replicate (m - (k + 1)) zero := by
  have hkl := lt_of_get hx
  obtain ⟨_, he⟩ := List.getElem?_eq_some_iff.1 hx
  rw [List.set_append, if_neg (by rw [List.length_take]; omega), List.length_take, Nat.min_eq_left (by omega), Nat.sub_self, show m - k = (m - (k + 1)) + 1 by omega, List.replicate_succ, List.set_cons_zero, List.take_succ_eq_append_getElem hkl, he, List.append_assoc]
  rfl

/-- All that lay in a world still lies. -/
structure Held (W W' : World) : Prop where mk :: (out : Below W.heap.size W W')
theorem Held.refl (W : World) : Held W W := ⟨Below.refl _ _⟩
theorem Held.drewN {W w' : World} (h : Held W w') (n : Nat) : Held W (w'.drewN n) := ⟨pw_below_drewN h.out n⟩
theorem Held.drew {W w' : World} (h : Held W w') : Held W w'.drew := ⟨below_drew1 h.out⟩
theorem Held.below {W w' w2 : World} (h : Held W w') (hb : Below w'.heap.size w' w2) : Held W w2 := ⟨below_step h.out hb⟩
theorem want_all (w4 : World) (gq : Nat) (z : W3) (hb : w4.heap[gq]? = some (.cells #[.int .i64 z.1, .int .i64 z.2.1, .int .i64 z.2.2] 47 (0, 0))) : ∀ w', Held w4 w' → (w'.cell? ⟨gq, 0, none⟩ = some (.int .i64 z.1) ∧ w'.cell? ⟨gq, 1, none⟩ = some (.int .i64 z.2.1) ∧ w'.cell? ⟨gq, 2, none⟩ = some (.int .i64 z.2.2) ∧ Held w4 w') := by
  intro w' h
  have h2 := blk_below hb h.out
  exact ⟨(blk_cell h2 0).trans rfl, (blk_cell h2 1).trans rfl, (blk_cell h2 2).trans rfl, h⟩

def eq3 (x o : W3) : Bool := x.1 == o.1 && (x.2.1 == o.2.1 && x.2.2 == o.2.2)
theorem eq3_true {x o : W3} (h : eq3 x o = true) : x = o := by
  unfold eq3 at h
  simp only [Bool.and_eq_true, beq_iff_eq] at h
  obtain ⟨a, b, c⟩ := x
  obtain ⟨a', b', c'⟩ := o
  obtain ⟨h1, h2, h3⟩ := h
  simp only at h1 h2 h3
  subst h1 h2 h3
  rfl
/-- What a Cas does. -/
def CasIs (ws : List W3) (i : Int) (o y : W3) (is : Bool) (f : Int) (ws2 : List W3) : Prop :=
  (∃ (j : Nat) (x : W3), i = j ∧ ws[j]? = some x ∧ f = 0 ∧ is = eq3 x o ∧ ws2 = if is = true then ws.set j y else ws) ∨ (decide (0 ≤ i ∧ i < (ws.length : Int)) = false ∧ f = 2 ∧ is = false ∧ ws2 = ws)
theorem cas_any (p g : Nat) (ws : List W3) (n i : Int) (o y : W3) (W : World) (h : IsC W p g ws n) :
    Calls Try.prog 38 #[.pointer (some ⟨p, 0, none⟩), .int .i64 i, wv o, wv y] W fun e w' => ∃ (is : Bool) (f : Int) (ws2 : List W3) (n2 : Int), e = .returned (.tuple #[.bool is, .int .i64 f]) ∧ IsC w' p g ws2 n2 ∧ Kept p g W w' ∧ CasIs ws i o y is f ws2 := by
  by_cases hi : 0 ≤ i ∧ i < (ws.length : Int)
  · obtain ⟨j, rfl⟩ : ∃ j : Nat, i = j := ⟨i.toNat, by omega⟩
    have hj : j < ws.length := by omega
    have hx := List.getElem?_eq_getElem hj
    generalize ws[j] = x at hx
    cases he : eq3 x o with
    | true =>
      obtain rfl := eq3_true he
      refine (cas_eq p g ws n j x y W h hx).mono ?_
      rintro e w' ⟨rfl, h1, h2⟩
      exact ⟨true, 0, _, _, rfl, h1, h2, .inl ⟨j, x, rfl, hx, rfl, he.symm, rfl⟩⟩
    | false =>
      refine (cas_ne p g ws n j x o y W h hx he).mono ?_
      rintro e w' ⟨rfl, h1, h2⟩
      exact ⟨false, 0, _, _, rfl, h1, h2, .inl ⟨j, x, rfl, hx, rfl, he.symm, rfl⟩⟩
  · have hd := decide_eq_false hi
    refine (cas_off _ i 2 o y W (off_out W p g ws n i h hd)).mono ?_
    rintro e w' ⟨rfl, hb⟩
    exact ⟨false, 2, ws, n, rfl, h.below hb, Kept.of_below hb, .inr ⟨hd, rfl, rfl, rfl⟩⟩
/-- What the cells hold behind it. -/
theorem cas_want {ws : List W3} {i : Int} {o y : W3} {is : Bool} {f : Int} {ws2 : List W3} (h : CasIs ws i o y is f ws2) (k : Nat) (x : W3) (hx : ws[k]? = some x) : ws2[k]? = some (if (((k : Int) == i) && is) = true then y else x) := by
  rcases h with ⟨j, x', rfl, hx', rfl, rfl, rfl⟩ | ⟨hd, rfl, rfl, rfl⟩
  · cases he : eq3 x' o with
    | false => simpa using hx
    | true =>
      simp only [if_true, Bool.and_true]
      by_cases hk : k = j
      · subst hk
        rw [List.getElem?_set_self (lt_of_get hx)]
        simp
      · rw [List.getElem?_set_ne (fun h => hk h.symm), hx, if_neg (by simp; omega)]
  · simpa using hx
theorem among_c (j m : Nat) (hj : j < m) (hm : m ≤ 1000) (W : World) : Calls Try.prog 40 #[.int .i64 (j : Int), .int .i64 (m : Int)] W fun e w' => e = .returned (.int .i64 (j : Int)) ∧ Drawn0 W w' := by
  have wj : IntKind.u64.wrap (j : Int) = j := by rw [IntKind.wrap_u64]; omega
  have wm : IntKind.u64.wrap (m : Int) = m := by rw [IntKind.wrap_u64]; omega
  refine PCellChanges.boscagebase_Among.calls (j : Int) (m : Int) (j : Int) W ?_
  unfold PCellChanges.boscagebase_Among.f
  rw [if_neg (by omega), wj, wm, if_neg (by omega)]
  congr 1
  have : Int.tmod (j : Int) (m : Int) = j := by
    rw [Int.tmod_eq_emod_of_nonneg (by omega), Int.emod_eq_of_lt (by omega) (by omega)]
  rw [this]
  unfold wrap64
  omega
theorem quiet1 {f : FuncId} {args : Array Value} {v : Value} {w : World} {a : Nat} (h : Calls Try.prog f args (w.drewN a) fun e w' => e = .returned v ∧ Drawn0 (w.drewN a) w') : Calls Try.prog f args (w.drewN a) fun e w'' => e = .returned v ∧ ∃ n, w'' = w.drewN n :=
  h.mono fun _ _ ⟨he, m, hm⟩ => ⟨he, a + m, by rw [hm, World.drewN_drewN]⟩
theorem take_get {ws : List W3} {m k : Nat} {x : W3} (hk : k < m) (hx : ws[k]? = some x) : (ws.take m)[k]? = some x := by
  rw [List.getElem?_take, if_pos hk, hx]

set_option maxHeartbeats 8000000 in
set_option maxRecDepth 100000 in
theorem changes_walk (A : Option Addr) (cap : Nat) (ws : List W3) (a : Act4) (W : World) (hr : RW W A ws) (m : Nat) (hm : m = min ws.length 20) :
    Calls Try.prog 9 #[.slice A ws.length cap, .agg (actCells a).toArray] W fun e w' => e = .returned (.bool true) ∧ Below W.heap.size W w' := by
  have hu47 := Try.underlying47
  have hu49 := Try.underlying49
  have HR := Aside0.mk hr
  have HB0 := Aside0.mk (Below.refl W.heap.size W)
  have hmn : (if (20 : Int) < (ws.length : Int) then 20 else (ws.length : Int)) = (m : Int) := by split <;> omega
  have HM := Aside0.mk hm
  have hm20 : m ≤ 20 := by omega
  have HML := Aside0.mk (show m ≤ ws.length by omega)
  clear hr hm
  unfold actCells
  go_enter Try.func9, Try.ntmps9
  go_upto_region 4 with (first | (go_at_call 35; (with_reducible refine (works_c _).mono ?_); rintro x w1 ⟨rfl, hb⟩; have HB1 := Aside0.mk (below_step (by repeat (with_reducible first | exact HB0.out | apply below_alloc | apply pw_below_drewN | apply below_drew1)) hb); have HW := Aside0.mk hb; clear hb))
  obtain ⟨ba, hba⟩ : ∃ ba, ba = W.heap.size := ⟨_, rfl⟩
  rw [← hba]
  have HA : Aside0 (Act8 w1 ba a) := ⟨by rw [hba]; exact blk_below (heap_alloc_new _ _) HW.out⟩
  have HBA := Aside0.mk hba
  clear HW hba HB0 hmn
  go_wp2_with (fail)
  refine (new_ok m _ (by omega)).mono ?_
  rintro x w2 ⟨p, g, rfl, hi, hb, hp, hg⟩
  have HI := Aside0.mk hi
  have HB := Aside0.mk (below_step HB1.out hb)
  have HAb := Aside0.mk (show Act8 w2 ba a from blk_below HA.out hb)
  have HP := Aside0.mk (Nat.le_trans HB1.out.size hp)
  have HG := Aside0.mk (Nat.le_trans HB1.out.size hg)
  have HNp := Aside0.mk (show ba ≠ p from Nat.ne_of_lt (Nat.lt_of_lt_of_le (blk_lt HA.out) hp))
  have HNg := Aside0.mk (show ba ≠ g from Nat.ne_of_lt (Nat.lt_of_lt_of_le (blk_lt HA.out) hg))
  clear hi hb hp hg HA HB1
  go_wp2
  go_loopg [8] (m + 1) (fun gg s8 wr => ∃ kk : Nat, ∃ cnt : Int, kk ≤ m ∧ m + 1 - kk ≤ gg ∧ s8 = .int .i64 kk ∧ Aside0 (IsC wr p g (ws.take kk ++ List.replicate (m - kk) zero) cnt) ∧ Aside0 (Below W.heap.size W wr) ∧ Aside0 (Act8 wr ba a))
  case atStart => exact ⟨0, 0, Nat.zero_le _, by omega, rfl, ⟨by simpa using HI.out⟩, HB, HAb⟩
  case round =>
    clear HI HB HAb
    obtain ⟨kk, cnt, hkk, hg, rfl, HI, HB, HAb⟩ := hrel
    by_cases hk : kk < m
    · have hlt : (kk : Int) < (m : Int) := by omega
      have hlt2 : (kk : Int) < (ws.length : Int) := by have := HML.out; omega
      obtain ⟨x, hx⟩ : ∃ x, ws[kk]? = some x := ⟨ws[kk]'(by have := HML.out; omega), List.getElem?_eq_getElem _⟩
      obtain ⟨b, off, e, c0, c1, c2⟩ := RW.at_ (HR.out.below HB.out) hx
      cases e
      have HJ := Aside0.mk (fill_get ws kk m hk HML.out)
      have HS := Aside0.mk (fill_set ws kk m x hk hx)
      clear hx
      go_wp2_with (first | (go_at_call 37; (with_reducible refine (store_in p g _ cnt kk zero x _ HI.out HJ.out).mono ?_); rintro y w3 ⟨rfl, hi, hk3⟩; rw [HS.out] at hi; have HI3 := Aside0.mk hi; have HB3 := Aside0.mk (Kept.below hk3 HB.out HP.out HG.out); have HA3 := Aside0.mk (show Act8 w3 ba a from Kept.blk hk3 HAb.out HNp.out HNg.out); clear hi hk3))
      go_roundg (m + 1 - (kk + 1))
      case measure => omega
      case rel => exact ⟨kk + 1, _, by omega, by omega, by go_num, HI3, HB3, HA3⟩
    · have hlt : ¬ (kk : Int) < (m : Int) := by omega
      obtain rfl : m = kk := by omega
      have HI2 : Aside0 (IsC wr p g (ws.take m) cnt) := ⟨by have := HI.out; rwa [Nat.sub_self, List.replicate_zero, List.append_nil] at this⟩
      clear HI
      go_upto_region 10 with (fail)
      obtain ⟨a1, a2, a3, a4, a5, a6, a7⟩ := HAb.out.c
      go_upto_region 11 with (first | (go_at_call 38; (with_reducible refine (cas_any p g _ cnt a.2.1 a.2.2.1 a.2.2.2 _ HI2.out).mono ?_); rintro y w3 ⟨is, f, ws2, n2, rfl, hi, hk3, hcas⟩; have HI3 := Aside0.mk hi; have HC := Aside0.mk hcas; have HB3 := Aside0.mk (Kept.below hk3 HB.out HP.out HG.out); have HA3 := Aside0.mk (show Act8 w3 ba a from Kept.blk hk3 HAb.out HNp.out HNg.out); clear hi hk3 hcas))
      clear a1 a2 a3 a4 a5 a6 a7 HI2 HB HAb
      have HI := HI3; have HB := HB3; have HAb := HA3
      clear HI3 HB3 HA3
      go_wp2
      go_loopg [11] (m + 1) (fun gg s11 wr => ∃ kk : Nat, kk ≤ m ∧ m + 1 - kk ≤ gg ∧ s11 = .int .i64 kk ∧ Aside0 (IsC wr p g ws2 n2) ∧ Aside0 (Below W.heap.size W wr) ∧ Aside0 (Act8 wr ba a))
      case atStart => exact ⟨0, Nat.zero_le _, by omega, rfl, HI, HB, HAb⟩
      case round =>
        clear HI HB HAb
        obtain ⟨kk, hkk2, hg2, rfl, HI, HB0, HAb⟩ := hrel
        by_cases hk : kk < m
        · have hlt : (kk : Int) < (m : Int) := by omega
          have hlt2 : (kk : Int) < (ws.length : Int) := by have := HML.out; omega
          obtain ⟨x, hx⟩ : ∃ x, ws[kk]? = some x := ⟨ws[kk]'(by have := HML.out; omega), List.getElem?_eq_getElem _⟩
          obtain ⟨b, off, e, c0, c1, c2⟩ := RW.at_ (HR.out.below HB0.out) hx
          cases e
          have HZ0 := Aside0.mk (cas_want HC.out kk x (take_get hk hx))
          have HB := HB0
          clear hx
          obtain ⟨b1, hkI⟩ : ∃ b1, ((kk : Int) == a.2.1) = b1 := ⟨_, rfl⟩
          cases b1 with
          | false =>
            have HZ : Aside0 (ws2[kk]? = some x) := ⟨by have := HZ0.out; rw [hkI] at this; exact this⟩
            clear HZ0
            go_upto_region 17 with (first | ((with_reducible refine gate_dst (N := 12) rfl ?_); refine box_event ?hg (N := 12) ?hd (cs := #[.int .i64 0, .int .i64 0, .int .i64 0]) (t := 47) ?hr ?_; (case hd => rfl); (case hg => rfl); (case hr => first | (go_simp; done) | (go_simp; rfl)); intro gq hg wq hbox hb; have n0_ := Aside0.mk (below_step (by repeat (first | (with_reducible first | exact HB.out | apply below_alloc | apply pw_below_drewN | apply below_drew1) | exact HB.out)) hb); have n1_ := Aside0.mk (hbox); have n2_ := Aside0.mk ((by rw [hg]; exact (below_size (by repeat (first | (with_reducible first | exact HB.out | apply below_alloc | apply pw_below_drewN | apply below_drew1) | exact HB.out))) : W.heap.size ≤ gq)); clear HB; have HB := n0_; have Bq := n1_; have GEq := n2_; clear n0_ n1_ n2_; have HQ := Aside0.mk hb; have HGQ := Aside0.mk (Nat.le_of_eq hg.symm); clear hb hbox hg; have hcq0_q : wq.cell? ⟨gq, 0, none⟩ = some (.int .i64 0) := (blk_cell Bq.out 0).trans rfl; have hfq0_q := blk_frozen Bq.out 0; have hcq1_q : wq.cell? ⟨gq, 1, none⟩ = some (.int .i64 0) := (blk_cell Bq.out 1).trans rfl; have hfq1_q := blk_frozen Bq.out 1; have hcq2_q : wq.cell? ⟨gq, 2, none⟩ = some (.int .i64 0) := (blk_cell Bq.out 2).trans rfl; have hfq2_q := blk_frozen Bq.out 2; obtain ⟨a1, a2, a3, a4, a5, a6, a7⟩ := (show Act8 wq ba a from blk_below HAb.out HQ.out).c; have hne1 : ba ≠ gq := Nat.ne_of_lt (Nat.lt_of_lt_of_le (blk_lt HAb.out) HGQ.out); have hne2 : gq ≠ ba := hne1.symm))
            obtain ⟨w4, hw⟩ : ∃ w, w = ((wq.setCell ⟨gq, 0, none⟩ (.int .i64 x.1)).setCell ⟨gq, 1, none⟩ (.int .i64 x.2.1)).setCell ⟨gq, 2, none⟩ (.int .i64 x.2.2) := ⟨_, rfl⟩
            rw [← hw]
            have HQ4 : Aside0 (Below wr.heap.size wr w4) := ⟨by rw [hw]; exact (below_set (below_set (below_set HQ.out HGQ.out) HGQ.out) HGQ.out)⟩
            have Bw : Aside0 (w4.heap[gq]? = some (.cells #[.int .i64 x.1, .int .i64 x.2.1, .int .i64 x.2.2] 47 (0, 0))) := ⟨by rw [hw]; refine blk_put (cs := #[.int .i64 x.1, .int .i64 x.2.1, .int .i64 0]) ?_ 2 _ rfl; skip; refine blk_put (cs := #[.int .i64 x.1, .int .i64 0, .int .i64 0]) ?_ 1 _ rfl; skip; refine blk_put (cs := #[.int .i64 0, .int .i64 0, .int .i64 0]) ?_ 0 _ rfl; skip; exact Bq.out⟩
            clear hw Bq HQ HB hcq0_q hfq0_q hcq1_q hfq1_q hcq2_q hfq2_q a1 a2 a3 a4 a5 a6 a7 c0 c1 c2
            have HB := Aside0.mk (below_step HB0.out HQ4.out)
            have HA4 := Aside0.mk (show Act8 w4 ba a from blk_below HAb.out HQ4.out)
            have HI4 := Aside0.mk (HI.out.below HQ4.out)
            have hneq := neq47 x x false (same3 _)
            have Hall := Aside0.mk (want_all w4 gq x Bw.out)
            obtain ⟨q0, q1, q2, hheld⟩ := Hall.out w4 (Held.refl w4)
            go_region_held3 (fun w' => w'.cell? ⟨gq, 0, none⟩ = some (.int .i64 x.1) ∧ w'.cell? ⟨gq, 1, none⟩ = some (.int .i64 x.2.1) ∧ w'.cell? ⟨gq, 2, none⟩ = some (.int .i64 x.2.2) ∧ Held w4 w')
              ((go_split_ands; first | exact Hall.out _ (by assumption) | exact Hall.out _ (Held.drewN (by assumption) _) | exact Hall.out _ (Held.drew (by assumption)) | exact Hall.out _ (Held.below (by assumption) (by assumption))))
              ((go_at_call 39; go_split_ands; (with_reducible refine (peek_in p g ws2 n2 kk x _ (HI4.out.below (Held.out (by assumption))) HZ.out).mono ?_); rintro y w5 ⟨rfl, hb⟩))
            go_wp2
            go_split_ands
            go_roundg (m + 1 - (kk + 1))
            case measure => omega
            case rel => exact ⟨kk + 1, by omega, by omega, by go_num, ⟨HI4.out.below (Held.out (by assumption))⟩, ⟨below_step HB.out (Held.out (by assumption))⟩, ⟨blk_below HA4.out (Held.out (by assumption))⟩⟩
          | true =>
            cases is with
            | false =>
              have HZ : Aside0 (ws2[kk]? = some x) := ⟨by have := HZ0.out; rw [hkI] at this; exact this⟩
              clear HZ0
              go_upto_region 17 with (first | ((with_reducible refine gate_dst (N := 12) rfl ?_); refine box_event ?hg (N := 12) ?hd (cs := #[.int .i64 0, .int .i64 0, .int .i64 0]) (t := 47) ?hr ?_; (case hd => rfl); (case hg => rfl); (case hr => first | (go_simp; done) | (go_simp; rfl)); intro gq hg wq hbox hb; have n0_ := Aside0.mk (below_step (by repeat (first | (with_reducible first | exact HB.out | apply below_alloc | apply pw_below_drewN | apply below_drew1) | exact HB.out)) hb); have n1_ := Aside0.mk (hbox); have n2_ := Aside0.mk ((by rw [hg]; exact (below_size (by repeat (first | (with_reducible first | exact HB.out | apply below_alloc | apply pw_below_drewN | apply below_drew1) | exact HB.out))) : W.heap.size ≤ gq)); clear HB; have HB := n0_; have Bq := n1_; have GEq := n2_; clear n0_ n1_ n2_; have HQ := Aside0.mk hb; have HGQ := Aside0.mk (Nat.le_of_eq hg.symm); clear hb hbox hg; have hcq0_q : wq.cell? ⟨gq, 0, none⟩ = some (.int .i64 0) := (blk_cell Bq.out 0).trans rfl; have hfq0_q := blk_frozen Bq.out 0; have hcq1_q : wq.cell? ⟨gq, 1, none⟩ = some (.int .i64 0) := (blk_cell Bq.out 1).trans rfl; have hfq1_q := blk_frozen Bq.out 1; have hcq2_q : wq.cell? ⟨gq, 2, none⟩ = some (.int .i64 0) := (blk_cell Bq.out 2).trans rfl; have hfq2_q := blk_frozen Bq.out 2; obtain ⟨a1, a2, a3, a4, a5, a6, a7⟩ := (show Act8 wq ba a from blk_below HAb.out HQ.out).c; have hne1 : ba ≠ gq := Nat.ne_of_lt (Nat.lt_of_lt_of_le (blk_lt HAb.out) HGQ.out); have hne2 : gq ≠ ba := hne1.symm))
              obtain ⟨w4, hw⟩ : ∃ w, w = ((wq.setCell ⟨gq, 0, none⟩ (.int .i64 x.1)).setCell ⟨gq, 1, none⟩ (.int .i64 x.2.1)).setCell ⟨gq, 2, none⟩ (.int .i64 x.2.2) := ⟨_, rfl⟩
              rw [← hw]
              have HQ4 : Aside0 (Below wr.heap.size wr w4) := ⟨by rw [hw]; exact (below_set (below_set (below_set HQ.out HGQ.out) HGQ.out) HGQ.out)⟩
              have Bw : Aside0 (w4.heap[gq]? = some (.cells #[.int .i64 x.1, .int .i64 x.2.1, .int .i64 x.2.2] 47 (0, 0))) := ⟨by rw [hw]; refine blk_put (cs := #[.int .i64 x.1, .int .i64 x.2.1, .int .i64 0]) ?_ 2 _ rfl; skip; refine blk_put (cs := #[.int .i64 x.1, .int .i64 0, .int .i64 0]) ?_ 1 _ rfl; skip; refine blk_put (cs := #[.int .i64 0, .int .i64 0, .int .i64 0]) ?_ 0 _ rfl; skip; exact Bq.out⟩
              clear hw Bq HQ HB hcq0_q hfq0_q hcq1_q hfq1_q hcq2_q hfq2_q a1 a2 a3 a4 a5 a6 a7 c0 c1 c2
              have HB := Aside0.mk (below_step HB0.out HQ4.out)
              have HA4 := Aside0.mk (show Act8 w4 ba a from blk_below HAb.out HQ4.out)
              have HI4 := Aside0.mk (HI.out.below HQ4.out)
              have hneq := neq47 x x false (same3 _)
              have Hall := Aside0.mk (want_all w4 gq x Bw.out)
              obtain ⟨q0, q1, q2, hheld⟩ := Hall.out w4 (Held.refl w4)
              go_region_held3 (fun w' => w'.cell? ⟨gq, 0, none⟩ = some (.int .i64 x.1) ∧ w'.cell? ⟨gq, 1, none⟩ = some (.int .i64 x.2.1) ∧ w'.cell? ⟨gq, 2, none⟩ = some (.int .i64 x.2.2) ∧ Held w4 w')
                ((go_split_ands; first | exact Hall.out _ (by assumption) | exact Hall.out _ (Held.drewN (by assumption) _) | exact Hall.out _ (Held.drew (by assumption)) | exact Hall.out _ (Held.below (by assumption) (by assumption))))
                ((go_at_call 39; go_split_ands; (with_reducible refine (peek_in p g ws2 n2 kk x _ (HI4.out.below (Held.out (by assumption))) HZ.out).mono ?_); rintro y w5 ⟨rfl, hb⟩))
              go_wp2
              go_split_ands
              go_roundg (m + 1 - (kk + 1))
              case measure => omega
              case rel => exact ⟨kk + 1, by omega, by omega, by go_num, ⟨HI4.out.below (Held.out (by assumption))⟩, ⟨below_step HB.out (Held.out (by assumption))⟩, ⟨blk_below HA4.out (Held.out (by assumption))⟩⟩
            | true =>
              have HZ : Aside0 (ws2[kk]? = some a.2.2.2) := ⟨by have := HZ0.out; rw [hkI] at this; exact this⟩
              clear HZ0
              go_upto_region 17 with (first | ((with_reducible refine gate_dst (N := 12) rfl ?_); refine box_event ?hg (N := 12) ?hd (cs := #[.int .i64 0, .int .i64 0, .int .i64 0]) (t := 47) ?hr ?_; (case hd => rfl); (case hg => rfl); (case hr => first | (go_simp; done) | (go_simp; rfl)); intro gq hg wq hbox hb; have n0_ := Aside0.mk (below_step (by repeat (first | (with_reducible first | exact HB.out | apply below_alloc | apply pw_below_drewN | apply below_drew1) | exact HB.out)) hb); have n1_ := Aside0.mk (hbox); have n2_ := Aside0.mk ((by rw [hg]; exact (below_size (by repeat (first | (with_reducible first | exact HB.out | apply below_alloc | apply pw_below_drewN | apply below_drew1) | exact HB.out))) : W.heap.size ≤ gq)); clear HB; have HB := n0_; have Bq := n1_; have GEq := n2_; clear n0_ n1_ n2_; have HQ := Aside0.mk hb; have HGQ := Aside0.mk (Nat.le_of_eq hg.symm); clear hb hbox hg; have hcq0_q : wq.cell? ⟨gq, 0, none⟩ = some (.int .i64 0) := (blk_cell Bq.out 0).trans rfl; have hfq0_q := blk_frozen Bq.out 0; have hcq1_q : wq.cell? ⟨gq, 1, none⟩ = some (.int .i64 0) := (blk_cell Bq.out 1).trans rfl; have hfq1_q := blk_frozen Bq.out 1; have hcq2_q : wq.cell? ⟨gq, 2, none⟩ = some (.int .i64 0) := (blk_cell Bq.out 2).trans rfl; have hfq2_q := blk_frozen Bq.out 2; obtain ⟨a1, a2, a3, a4, a5, a6, a7⟩ := (show Act8 wq ba a from blk_below HAb.out HQ.out).c; have hne1 : ba ≠ gq := Nat.ne_of_lt (Nat.lt_of_lt_of_le (blk_lt HAb.out) HGQ.out); have hne2 : gq ≠ ba := hne1.symm))
              obtain ⟨w4, hw⟩ : ∃ w, w = (((((wq.setCell ⟨gq, 0, none⟩ (.int .i64 x.1)).setCell ⟨gq, 1, none⟩ (.int .i64 x.2.1)).setCell ⟨gq, 2, none⟩ (.int .i64 x.2.2)).setCell ⟨gq, 0, none⟩ (.int .i64 a.2.2.2.1)).setCell ⟨gq, 1, none⟩ (.int .i64 a.2.2.2.2.1)).setCell ⟨gq, 2, none⟩ (.int .i64 a.2.2.2.2.2) := ⟨_, rfl⟩
              rw [← hw]
              have HQ4 : Aside0 (Below wr.heap.size wr w4) := ⟨by rw [hw]; exact (below_set (below_set (below_set (below_set (below_set (below_set HQ.out HGQ.out) HGQ.out) HGQ.out) HGQ.out) HGQ.out) HGQ.out)⟩
              have Bw : Aside0 (w4.heap[gq]? = some (.cells #[.int .i64 a.2.2.2.1, .int .i64 a.2.2.2.2.1, .int .i64 a.2.2.2.2.2] 47 (0, 0))) := ⟨by rw [hw]; refine blk_put (cs := #[.int .i64 a.2.2.2.1, .int .i64 a.2.2.2.2.1, .int .i64 x.2.2]) ?_ 2 _ rfl; skip; refine blk_put (cs := #[.int .i64 a.2.2.2.1, .int .i64 x.2.1, .int .i64 x.2.2]) ?_ 1 _ rfl; skip; refine blk_put (cs := #[.int .i64 x.1, .int .i64 x.2.1, .int .i64 x.2.2]) ?_ 0 _ rfl; skip; refine blk_put (cs := #[.int .i64 x.1, .int .i64 x.2.1, .int .i64 0]) ?_ 2 _ rfl; skip; refine blk_put (cs := #[.int .i64 x.1, .int .i64 0, .int .i64 0]) ?_ 1 _ rfl; skip; refine blk_put (cs := #[.int .i64 0, .int .i64 0, .int .i64 0]) ?_ 0 _ rfl; skip; exact Bq.out⟩
              clear hw Bq HQ HB hcq0_q hfq0_q hcq1_q hfq1_q hcq2_q hfq2_q a1 a2 a3 a4 a5 a6 a7 c0 c1 c2
              have HB := Aside0.mk (below_step HB0.out HQ4.out)
              have HA4 := Aside0.mk (show Act8 w4 ba a from blk_below HAb.out HQ4.out)
              have HI4 := Aside0.mk (HI.out.below HQ4.out)
              have hneq := neq47 a.2.2.2 a.2.2.2 false (same3 _)
              have Hall := Aside0.mk (want_all w4 gq a.2.2.2 Bw.out)
              obtain ⟨q0, q1, q2, hheld⟩ := Hall.out w4 (Held.refl w4)
              go_region_held3 (fun w' => w'.cell? ⟨gq, 0, none⟩ = some (.int .i64 a.2.2.2.1) ∧ w'.cell? ⟨gq, 1, none⟩ = some (.int .i64 a.2.2.2.2.1) ∧ w'.cell? ⟨gq, 2, none⟩ = some (.int .i64 a.2.2.2.2.2) ∧ Held w4 w')
                ((go_split_ands; first | exact Hall.out _ (by assumption) | exact Hall.out _ (Held.drewN (by assumption) _) | exact Hall.out _ (Held.drew (by assumption)) | exact Hall.out _ (Held.below (by assumption) (by assumption))))
                ((go_at_call 39; go_split_ands; (with_reducible refine (peek_in p g ws2 n2 kk a.2.2.2 _ (HI4.out.below (Held.out (by assumption))) HZ.out).mono ?_); rintro y w5 ⟨rfl, hb⟩))
              go_wp2
              go_split_ands
              go_roundg (m + 1 - (kk + 1))
              case measure => omega
              case rel => exact ⟨kk + 1, by omega, by omega, by go_num, ⟨HI4.out.below (Held.out (by assumption))⟩, ⟨below_step HB.out (Held.out (by assumption))⟩, ⟨blk_below HA4.out (Held.out (by assumption))⟩⟩
        · have hlt : ¬ (kk : Int) < (m : Int) := by omega
          obtain ⟨a1, a2, a3, a4, a5, a6, a7⟩ := HAb.out.c
          rcases HC.out with ⟨j, x, hI, hx, rfl, his, -⟩ | ⟨hd, rfl, rfl, -⟩
          · have hjm : j < m := by have := lt_of_get hx; rw [List.length_take] at this; omega
            have hx2 : ws[j]? = some x := by rw [List.getElem?_take, if_pos hjm] at hx; exact hx
            obtain ⟨b, off, e, c0, c1, c2⟩ := RW.at_ (HR.out.below HB0.out) hx2
            cases e
            rw [hI] at a1
            have d0 : decide (0 ≤ (j : Int)) = true := decide_eq_true (by omega)
            have d1 : decide ((j : Int) < (m : Int)) = true := decide_eq_true (by omega)
            have hjl : (j : Int) < (ws.length : Int) := by have := lt_of_get hx2; omega
            have heq := eql47 x a.2.2.1 is his.symm
            have HJM := Aside0.mk hjm
            have hjm' : j < m := hjm
            clear hx hx2 hI his
            go_wp2
            go_quiet (with_reducible exact quiet1 (among_c j m HJM.out (by omega) _))
            go_wp2
            go_ret
            exact ⟨by first | rfl | (cases is <;> rfl) | simp, by repeat (with_reducible first | exact HB0.out | apply pw_below_drewN | apply below_drew1)⟩
          · have HD := Aside0.mk hd
            obtain ⟨b0, hb0⟩ : ∃ b0, decide (0 ≤ a.2.1) = b0 := ⟨_, rfl⟩
            obtain ⟨b1, hb1⟩ : ∃ b1, decide (a.2.1 < (m : Int)) = b1 := ⟨_, rfl⟩
            have hbb : (b0 && b1) = false := by
              rw [← hb0, ← hb1, ← Bool.decide_and]
              have := HD.out
              rw [List.length_take, Nat.min_eq_left HML.out] at this
              exact this
            clear hd
            cases b0 with
            | false =>
              clear hb1 hbb
              go_wp2
              go_quiet (fail)
              go_wp2
              go_ret
              exact ⟨rfl, by repeat (with_reducible first | exact HB0.out | apply pw_below_drewN | apply below_drew1)⟩
            | true =>
              have hb2 : b1 = false := by simpa using hbb
              subst hb2
              clear hbb
              go_wp2
              go_quiet (fail)
              go_wp2
              go_ret
              exact ⟨rfl, by repeat (with_reducible first | exact HB0.out | apply pw_below_drewN | apply below_drew1)⟩

theorem CellChanges (A : Option Addr) (cap : Nat) (ws : List W3) (a : Act4) (W : World) (hr : RA 3 (fun x : W3 => [.int .i64 x.1, .int .i64 x.2.1, .int .i64 x.2.2]) W A ws) :
    Calls Try.prog 9 #[.slice A ws.length cap, .agg (actCells a).toArray] W fun e w' => e = .returned (.bool true) ∧ Below W.heap.size W w' := changes_walk A cap ws a W hr _ rfl

end Go.Proofs.Ytchgkgfhkkffeaa.Ce
