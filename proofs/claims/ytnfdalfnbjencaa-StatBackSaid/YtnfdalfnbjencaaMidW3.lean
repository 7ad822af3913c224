/- The walk of stat.Middle: a copy sorted by the closure, by the library's contract of slices.SortFunc. -/
import Derived.Test.YtnfdalfnbjencaaMidW1
import Derived.Test.YtnfdalfnbjencaaMidL
namespace Go.Proofs.Ytnfdalfnbjencaa.Fw
open Go.RowKit Go.Proofs.Ytnfdalfnbjencaa.Fl Go.Proofs.YtnfdalfnbjencaaW.PrintWords Go.Proofs.YtnfdalfnbjencaaW.PrintMore
open Go.Sort (SWO PermIn SortedIn Holds)
open Go.Shelf
set_option linter.unusedVariables false
set_option linter.unusedSimpArgs false

theorem full_info23 : Try.prog.underlying 23 = some (.float .f64) := Try.underlying23

/-- A row of floats of the call's own, as the sort asks for it. -/
theorem holds_of_R {w : World} {base : Nat} {ys : List Nat} {g cap : Nat} (hy : ∀ y ∈ ys, y < full) (h : FL.R 23 w base (fun _ => True) (.slice (some ⟨g, 0, none⟩) ys.length cap) ys) :
    Holds encF w g 0 (ys.attachWith (· < full) hy).toArray := by
  intro j hj
  have hj' : j < ys.length := by simpa using hj
  obtain ⟨h1, h2⟩ := Kd.R_cell (0 : Nat) h (j : Int) (by omega) (by omega)
  rw [Int.toNat_natCast] at h1 h2
  rw [Nat.zero_add]
  refine ⟨h1.trans ?_, h2⟩
  congr 1
  unfold encF
  congr 1
  rw [getElem!_pos _ j hj]
  simp [rdOf, hj']

theorem below_sortWorld {w0 w : World} {blk off n : Nat} {d : Array W64} {os : Array Obj} (hb : Below w0.heap.size w0 w) (hk : w0.heap.size ≤ blk) : Below w0.heap.size w0 (sortWorld encF w blk off n d os) := by
  refine hb.trans ⟨rfl, rfl, rfl, ?_, ?_⟩
  · simp [sortWorld, Sort.grow, Sort.putRow, Sort.mapBlock, Sort.ahead]
  · intro k hk2
    have hkw : k < w.heap.size := Nat.lt_of_lt_of_le hk2 hb.size
    show ((Sort.putRow encF (Sort.ahead w n) blk off d).heap ++ os)[k]? = _
    rw [Array.getElem?_append_left (by simpa [Sort.ahead] using hkw)]
    simp only [Sort.putRow, Sort.mapBlock, Sort.ahead, Array.getElem?_modify]
    rw [if_neg (by omega)]

set_option maxHeartbeats 2000000 in
theorem sort_c (g cap : Nat) (ys : List Nat) (w0 w : World) (hy : ∀ y ∈ ys, y < full) (hl : ys.length ≤ 1000000) (hk : w0.heap.size ≤ g) (hb : Below w0.heap.size w0 w) (hg : g < w.heap.size)
    (h : FL.R 23 w w0.heap.size (fun _ => True) (.slice (some ⟨g, 0, none⟩) ys.length cap) ys) :
    Calls Try.prog 54 #[.slice (some ⟨g, 0, none⟩) ys.length cap, .func (.func 55) #[] #[]] w fun e w' => e = .returned (.tuple #[]) ∧ Below w0.heap.size w0 w' ∧ ∀ k, k < ys.length → k = (ys.length - 1) / 2 → ∃ m, w'.cell? ⟨g, k, none⟩ = some (.float .f64 m) ∧ MidIs ys m := by
  have hH := holds_of_R hy h
  have hsz : (ys.attachWith (· < full) hy).toArray.size = ys.length := by simp
  have eg : ∀ args w, (callFunc 55 args).run Try.prog w = .ok (.enter 55 args) w := enters_of Try.func55 (by kernel_rfl) rfl
  have hS := Any.slices_SortFunc Try.sortL encF (fun _ => rfl) cf swo_cf 55 #[] g 0 cap (ys.attachWith (· < full) hy).toArray w eg (cmpReads g 0 _ w).lays hH hg (by rw [hsz]; omega)
  rw [hsz] at hS
  change Calls Try.prog 54 _ _ _ at hS
  refine hS.mono ?_
  rintro e w' ⟨rfl, d', n, os, hp, hs, rfl⟩
  refine ⟨rfl, below_sortWorld hb hk, fun k hk1 hk2 => ?_⟩
  have hd : d'.size = ys.length := hp.1.trans hsz
  have hC := (holds_sortWorld encF w g 0 n _ d' os hg hH hp.1) k (by omega)
  rw [Nat.zero_add] at hC
  have hkd : k < d'.size := by omega
  rw [getElem!_pos d' k hkd] at hC
  refine ⟨d'[k].1, hC.1, d'[k].2, .inr ?_⟩
  have hperm : (d'.toList.map Subtype.val).Perm ys := by
    have h3 := hp.2.2
    rw [← hd] at h3
    have e2 : (ys.attachWith (· < full) hy).toArray.extract 0 d'.size = (ys.attachWith (· < full) hy).toArray := by rw [hp.1]; exact Array.extract_size
    rw [e2, Array.extract_size] at h3
    have h4 := h3.map Subtype.val
    simpa using h4
  have hlen : (d'.toList.map Subtype.val).length = d'.size := by simp
  have hm := mid_sorted ys (d'.toList.map Subtype.val) hperm hy (fun i j hi hj hij => by
    have := hs i j (Nat.zero_le _) hij (by rw [hlen] at hj; omega)
    rw [lt_cf] at this
    rw [hlen] at hi hj
    rw [getElem!_pos d' i hi, getElem!_pos d' j hj] at this
    simp only [List.getElem_map, Array.getElem_toList]
    have := of_decide_eq_false this
    omega) k (by rw [hlen]; exact hkd) hk2
  simp only [List.getElem_map, Array.getElem_toList] at hm
  exact ⟨hperm.subset (List.mem_map.2 ⟨d'[k], by simp, rfl⟩), hm⟩

set_option maxHeartbeats 2000000 in
set_option maxRecDepth 100000 in
theorem middle_c (A : Option Addr) (c : Nat) (ys : List Nat) (w : World) (hr : RF w A ys) (hy : ∀ x ∈ ys, x < full) (hl : ys.length ≤ 1000000) :
    Calls Try.prog 38 #[.slice A ys.length c] w fun e w' => ∃ m, e = .returned (.float .f64 m) ∧ MidIs ys m ∧ Below w.heap.size w w' := by
  by_cases h0 : ys.length = 0
  · obtain rfl := List.eq_nil_of_length_eq_zero h0
    go_enter Try.func38, Try.ntmps38
    go_wp2_with (go_at_call 46; (with_reducible refine (naN_c _).mono ?_); rintro e w1 ⟨rfl, ⟨n0, rfl⟩⟩)
    go_ret
    exact ⟨nanBits, rfl, ⟨nanBits_lt, .inl ⟨rfl, rfl⟩⟩, by repeat (with_reducible first | exact Below.refl _ _ | apply pw_below_drewN | apply below_drew1)⟩
  · have h0' : ((ys.length : Int) == 0) = false := by rw [beq_eq_false_iff_ne]; omega
    have HR := Aside0.mk hr
    have HY := Aside0.mk hy
    have HL := Aside0.mk hl
    have hlen : (ys.length : Int) ≤ 1000000 := by omega
    have hpos : 0 < (ys.length : Int) := by omega
    clear hr hy hl
    go_enter Try.func38, Try.ntmps38
    go_upto_region 4 with (go_at_call 53; (with_reducible refine (clone_c A c ys _ HR.out (by omega) HL.out).mono ?_); rintro e w1 ⟨v, rfl, ho, hb⟩; have HO := Aside0.mk ho; have HB := Aside0.mk hb; clear ho hb)
    obtain ⟨g, cap, rfl, hgw, hgl⟩ : ∃ g cap, v = .slice (some ⟨g, 0, none⟩) ys.length cap ∧ w.heap.size ≤ g ∧ g < w1.heap.size := by
      have hown := Kd.own_of_R HO.out
      exact World.ownsRow.form hown (by omega)
    have HS := Aside0.mk (sort_c g cap ys w w1 HY.out HL.out hgw HB.out hgl HO.out)
    clear HO
    go_wp2_with (go_at_call 54; (with_reducible refine HS.out.mono ?_); rintro e w2 ⟨rfl, hb2, hcell⟩; have HB2 := Aside0.mk hb2; have HC := Aside0.mk hcell; clear hb2 hcell; have hq := quo2 ys.length (by omega); have hw1 : IntKind.i64.wrap ((ys.length : Int) - 1) = (ys.length : Int) - 1 := by { simp [IntKind.wrap, IntKind.bits, IntKind.signed]; omega }; obtain ⟨t, ht⟩ : ∃ t, t = (ys.length - 1) / 2 := ⟨_, rfl⟩; rw [← ht] at hq; have htl : t < ys.length := (by omega); obtain ⟨m, hm, hmid⟩ := HC.out t htl ht; have HM := Aside0.mk hmid; clear hmid; have htl2 : (t : Int) < (ys.length : Int) := (by omega); clear ht)
    go_ret
    exact ⟨m, rfl, HM.out, HB2.out⟩

end Go.Proofs.Ytnfdalfnbjencaa.Fw
