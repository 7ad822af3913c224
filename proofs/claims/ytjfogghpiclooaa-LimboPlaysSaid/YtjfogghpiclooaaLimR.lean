/- The walk of boscagelaw16.LimboPlays. -/
import Derived.Test.YtjfogghpiclooaaLimP
import Derived.Test.YtjfogghpiclooaaLimK
import Derived.OpenShut
namespace Go.Proofs.Ytjfogghpiclooaa.Li
open Go.RowKit Go.Proofs.YtjfogghpiclooaaW.PrintWords Go.Proofs.YtjfogghpiclooaaW.PrintLast Go.Proofs.YtjfogghpiclooaaW.PrintMore
open HSplit (S35 S43 S74 S75 k35 k43 k74 k75 kept kept4 back give)
set_option linter.unusedVariables false
set_option linter.unusedSimpArgs false

/-- A call of a program: what it does, on which list, with which groups. -/
abbrev ActV := Int × Int × List S74
def kA : Kd ActV := Kd.pair (Kd.int .i64) (Kd.pair (Kd.int .i64) (Kd.slice 74 k74))
theorem act_at {w : World} {A : Option Addr} {n : Nat} {xs : List ActV} (h : Kd.C kA w A n xs) {j : Nat} {a : ActV} (hj : xs[j]? = some a) : ∃ ad A2 c2, A = some ad ∧ w.cell? (ad.add (j * 3)) = some (.int .i64 a.1) ∧ w.cell? ⟨(ad.add (j * 3)).block, (ad.add (j * 3)).off + 1, none⟩ = some (.int .i64 a.2.1) ∧ w.cell? ⟨(ad.add (j * 3)).block, (ad.add (j * 3)).off + 2, none⟩ = some (.slice A2 a.2.2.length c2) ∧ a.2.2.length ≤ c2 ∧ Kd.C k74 w A2 a.2.2.length a.2.2 := by
  have hjl := (List.getElem?_eq_some_iff.1 hj).1
  obtain ⟨ad, c, e, _, hK, hc0⟩ := Kd.C_get h (0, 0, []) (j : Int) (by omega) (by have := h.1; omega)
  have hc : ∀ i u, c[i]? = some u → w.cell? (ad.add (j * 3 + i)) = some u := fun i u hu => by have := hc0 i u hu; rwa [Int.toNat_natCast] at this
  have hq : xs.getD ((j : Int)).toNat (0, 0, []) = a := by simp [hj]
  rw [hq] at hK
  obtain ⟨c0, c1, rfl, h0, ⟨c2, c3, rfl, h2, ⟨A2, cc, rfl, h4, h5⟩⟩⟩ := hK
  cases h0
  cases h2
  refine ⟨ad, A2, cc, e, hc 0 _ rfl, ?_, ?_, h4, h5⟩
  · rw [← add_field _ _ 1 (by omega)]; exact hc 1 _ rfl
  · rw [← add_field _ _ 2 (by omega)]; exact hc 2 _ rfl

/-- The document's lists: their row at block gw; none of it is F's. -/
structure Wr (w : World) (b gw : Nat) (wvs : List Value) (Ls : List (List S35)) (F : Nat → Prop) : Prop where
  row : w.heap[gw]? = some (.cells wvs.toArray 22 (0, 0))
  len : wvs.length = Ls.length
  nf : ¬ F gw
  base : b ≤ gw
  ws : ∀ (j : Nat) (v : Value) (L : List S35), wvs[j]? = some v → Ls[j]? = some L → Kd.V k74 74 w b (fun k => ¬ F k ∧ k ≠ gw) v (back L)
section
variable {W w : World} {b gw : Nat} {wvs : List Value} {Ls : List (List S35)} {F F' : Nat → Prop}
theorem Wr.mv (h : Wr W b gw wvs Ls F) (hm : Mv W w F) (hF : ∀ k, F' k → F k ∨ W.heap.size ≤ k) : Wr w b gw wvs Ls F' := by
  have hg := blk_lt h.row
  refine ⟨(hm.block gw hg h.nf).trans h.row, h.len, fun hk => ?_, h.base, fun j v L hv hL => ?_⟩
  · rcases hF gw hk with h1 | h1
    · exact h.nf h1
    · omega
  · refine Kd.V_map (h.ws j v L hv hL) fun A hA => Kd.F_mono (Kd.F_step (Kd.F_bound hA) fun k hk hlt => hm.block k hlt hk.1.1) fun k hk => ⟨fun h1 => ?_, hk.1.2⟩
    rcases hF k h1 with h2 | h2
    · exact hk.1.1 h2
    · have := hk.2
      omega
theorem Wr.below (h : Wr W b gw wvs Ls F) (hb : Below W.heap.size W w) : Wr w b gw wvs Ls F := h.mv (Mv.of_below hb F) fun k hk => .inl hk
theorem Wr.drewN (h : Wr W b gw wvs Ls F) (k : Nat) : Wr (W.drewN k) b gw wvs Ls F := h.below (pw_below_drewN (Below.refl _ _) k)
theorem Wr.drew (h : Wr W b gw wvs Ls F) : Wr W.drew b gw wvs Ls F := h.below (below_drew1 (Below.refl _ _))
theorem Wr.lt (h : Wr W b gw wvs Ls F) : gw < W.heap.size := blk_lt h.row
theorem Wr.get (h : Wr W b gw wvs Ls F) {j : Nat} {v : Value} (hj : wvs[j]? = some v) : W.cell? ⟨gw, j, none⟩ = some v ∧ W.frozen? ⟨gw, j, none⟩ = false := ⟨(blk_cell h.row j).trans (by simpa using hj), blk_frozen h.row j⟩
/-- Another value at j. -/
theorem Wr.put (h : Wr W b gw wvs Ls F) (j : Nat) {v : Value} {L : List S35} (hv : Kd.V k74 74 W b (fun k => ¬ F k ∧ k ≠ gw) v (back L)) : Wr (W.setCell ⟨gw, j, none⟩ v) b gw (wvs.set j v) (Ls.set j L) F := by
  refine ⟨blk_put h.row j v (by simp), by simpa using h.len, h.nf, h.base, fun i u M hu hM => ?_⟩
  have far : ∀ {u : Value} {M : List S35}, Kd.V k74 74 W b (fun k => ¬ F k ∧ k ≠ gw) u (back M) → Kd.V k74 74 (W.setCell ⟨gw, j, none⟩ v) b (fun k => ¬ F k ∧ k ≠ gw) u (back M) := fun hq => Kd.V_map hq fun A hA => Kd.F_far (p := ⟨gw, j, none⟩) hA (fun k hk => hk.2) _
  by_cases hij : i = j
  · subst hij
    rw [List.getElem?_set] at hu hM
    simp only [if_true] at hu hM
    split at hu <;> split at hM <;> simp_all
  · rw [List.getElem?_set_ne (fun e => hij e.symm)] at hu hM
    exact far (h.ws i u M hu hM)
end
theorem IsM.farw {W : World} {b p g gw : Nat} {vs wvs : List Value} {Ls : List (List S35)} {n : Int} {F : Nat → Prop} (h : IsM W b p g vs Ls n F) (hn : ¬ F gw) (j : Nat) (v : Value) : IsM (W.setCell ⟨gw, j, none⟩ v) b p g vs Ls n F := h.far hn j v
theorem IsM.same {W : World} {b p g : Nat} {vs : List Value} {Ls : List (List S35)} {n : Int} {F : Nat → Prop} (h : IsM W b p g vs Ls n F) : ∀ k, F k → b ≤ k := fun k hk => (h.base k hk).1

/-- What the lists hold, in plain: not too much, and no group without items. -/
structure Pl (kk m : Nat) (Ls : List (List S35)) : Prop where
  len : Ls.length = m
  few : ∀ L ∈ Ls, L.length ≤ 20 * kk
  items : ∀ L ∈ Ls, ∀ g ∈ L, 0 < g.f2.length ∧ g.f2.length ≤ 20
theorem mem_set {α : Type} {l : List α} {j : Nat} {x y : α} (h : y ∈ l.set j x) : y = x ∨ y ∈ l := by
  rcases List.mem_or_eq_of_mem_set h with h | h
  · exact .inr h
  · exact .inl h
theorem Pl.next {kk m : Nat} {Ls : List (List S35)} (h : Pl kk m Ls) : Pl (kk + 1) m Ls := ⟨h.len, fun L hL => by have := h.few L hL; omega, h.items⟩
theorem Pl.take {kk m : Nat} {Ls : List (List S35)} (h : Pl kk m Ls) (j : Nat) : Pl (kk + 1) m (Ls.set j []) :=
  ⟨by simpa using h.len, fun L hL => by rcases mem_set hL with rfl | h1; exact Nat.zero_le _; have := h.few L h1; omega, fun L hL g hg => by rcases mem_set hL with rfl | h1; simp at hg; exact h.items L h1 g hg⟩
theorem Pl.push {kk m : Nat} {Ls : List (List S35)} (h : Pl kk m Ls) (j : Nat) (L : List S35) (hj : Ls[j]? = some L) (l : List S74) : Pl (kk + 1) m (Ls.set j (L ++ kept (give l))) := by
  have hm : L ∈ Ls := List.mem_of_getElem? hj
  refine ⟨by simpa using h.len, fun M hM => ?_, fun M hM g hg => ?_⟩
  · rcases mem_set hM with rfl | h1
    · have := h.few L hm
      have := HSplit.kept_len (give l)
      have := HSplit.give_len l
      rw [List.length_append]
      omega
    · have := h.few M h1
      omega
  · rcases mem_set hM with rfl | h1
    · rcases List.mem_append.1 hg with h2 | h2
      · exact h.items L hm g h2
      · obtain ⟨h3, h4⟩ := HSplit.kept_in _ g h2
        exact ⟨h4, HSplit.give_in l g h3⟩
    · exact h.items M h1 g hg
theorem back_app (a b : List S35) : back (a ++ b) = back a ++ back b := by simp [back]
theorem Pl.flat {kk m : Nat} {Ls : List (List S35)} (h : Pl kk m Ls) : Ls.flatMap kept = Ls.flatten := by
  rw [← List.flatMap_id]
  have key : ∀ l : List (List S35), (∀ L ∈ l, ∀ g ∈ L, 0 < g.f2.length) → l.flatMap kept = l.flatMap id := by
    intro l
    induction l with
    | nil => intro _; rfl
    | cons L l ih =>
      intro hl
      rw [List.flatMap_cons, List.flatMap_cons, ih fun M hM => hl M (List.mem_cons_of_mem _ hM), HSplit.kept_all L (hl L List.mem_cons_self)]
      rfl
  exact key Ls fun L hL g hg => (h.items L hL g hg).1
theorem flatten_len {kk : Nat} : ∀ Ls : List (List S35), (∀ L ∈ Ls, L.length ≤ 20 * kk) → Ls.flatten.length ≤ 20 * kk * Ls.length
  | [], _ => by simp
  | L :: Ls, h => by
    have h1 := h L List.mem_cons_self
    have h2 := flatten_len Ls fun M hM => h M (List.mem_cons_of_mem _ hM)
    rw [List.flatten_cons, List.length_append, List.length_cons, Nat.mul_succ]
    omega

theorem make_ws (m : Nat) (hm : m ≤ 200) (W : World) : (Instr.makeSlice 50 (.int .i64 (m : Int)) (.int .i64 (m : Int))).run Try.prog W = .ok (.slice (some ⟨W.heap.size, 0, none⟩) m m) (W.alloc (.cells (List.replicate m (Value.slice none 0 0)).toArray 22)) := by
  obtain ⟨i, hi, hz⟩ := Option.map_eq_some_iff.1 (show (Try.prog.info? 22).map (fun i => (i.zero, i.size, i.bytes)) = some (some (.slice none 0 0), 1, 24) by kernel_rfl)
  simp only [Prod.mk.injEq] at hz
  have := run_make (P := Try.prog) W 50 22 i _ Try.underlying50 hi hz.1 .i64 .i64 (m : Int) (m : Int) (by omega) (Int.le_refl _) (by rw [hz.2.2]; omega) (by omega)
  rw [hz.2.1, Int.toNat_natCast, Nat.mul_one, show (Value.slice none 0 0).cells = #[.slice none 0 0] from rfl] at this
  have e : madeCells #[Value.slice none 0 0] m = (List.replicate m (Value.slice none 0 0)).toArray := by
    rw [← toList_madeCells_one]
  rw [← e]
  exact this
/-- Which of the two calls an act is. -/
def among2 (d : Int) : Nat := (wrap64 (Int.tmod (IntKind.u64.wrap d) 2)).toNat
theorem among2_eq (d : Int) : wrap64 (Int.tmod (IntKind.u64.wrap d) 2) = (among2 d : Int) ∧ among2 d < 2 := by
  have h : 0 ≤ IntKind.u64.wrap d := by rw [IntKind.wrap_u64]; omega
  have e : Int.tmod (IntKind.u64.wrap d) 2 = IntKind.u64.wrap d % 2 := Int.tmod_eq_emod_of_nonneg h
  unfold among2
  rw [e]
  unfold wrap64
  omega
theorem among2_c (d : Int) (k : Nat) (hk : among2 d = k) (W : World) : Calls Try.prog 18 #[.int .i64 d, .int .i64 2] W fun e w' => e = .returned (.int .i64 (k : Int)) ∧ Drawn0 W w' := by
  subst hk
  have w4 : IntKind.u64.wrap 2 = 2 := by rw [IntKind.wrap_u64]; rfl
  refine HSplit.boscagebase_Among.calls d 2 _ W ?_
  unfold HSplit.boscagebase_Among.f
  rw [if_neg (by decide), w4, if_neg (by decide), (among2_eq d).1]

theorem C_empty {α : Type} (d : Kd α) (W : World) (A : Option Addr) : Kd.C d W A 0 [] := ⟨rfl, by decide, fun h => absurd h (by decide)⟩
/-- Back of no groups, and Same of none and none. -/
theorem back_none (W : World) : Calls Try.prog 11 #[.slice none 0 0] W fun e w' => (∃ A c, e = .returned (.slice A 0 c)) ∧ Below W.heap.size W w' := by
  obtain ⟨kb, hkb⟩ := HSplit.back_ev [] (by simp) (fun g hg => by simp at hg)
  refine (HSplit.boscagelaw16_Back.calls kb none 0 [] [] W (C_empty _ _ _) (Nat.le_refl _) (hkb kb (Nat.le_refl _))).mono ?_
  rintro e w' ⟨v, rfl, ho, hb⟩
  obtain ⟨A, c, rfl⟩ := Kd.N_slice (Kd.S_N ho)
  exact ⟨⟨A, c, rfl⟩, hb⟩
theorem same_none (A : Option Addr) (c : Nat) (A' : Option Addr) (c' : Nat) (W : World) : Calls Try.prog 13 #[.slice A 0 c, .slice A' 0 c'] W fun e w' => e = .returned (.bool true) ∧ Drawn0 W w' := by
  obtain ⟨ks, hks⟩ := HSplit.same_ev [] (by simp) (fun g hg => by simp at hg)
  exact HSplit.boscageref16_Same.calls ks A c [] A' c' [] true W (C_empty _ _ _) (Nat.zero_le _) (C_empty _ _ _) (Nat.zero_le _) (hks ks (Nat.le_refl _))

/-- New lists hold nothing. -/
theorem IsM.fresh {W : World} {b p g m : Nat} (h : IsL W p g (List.replicate m (.slice none 0 0)) 0) (hp : b ≤ p) (hg : b ≤ g) : IsM W b p g (List.replicate m (.slice none 0 0)) (List.replicate m []) 0 (fun k => k = p ∨ k = g) := by
  refine ⟨h, by simp, fun k hk => ?_, .inl rfl, .inr rfl, fun _ _ => False, fun j v L hv hL => ?_, fun _ _ hk => hk.elim, fun _ _ _ _ hk => hk.elim⟩
  · rcases hk with rfl | rfl
    · exact ⟨hp, h.lt_p⟩
    · exact ⟨hg, h.lt_g⟩
  · rw [List.getElem?_replicate] at hv hL
    split at hv <;> split at hL <;> simp_all
    subst hv hL
    exact Kd.N_nil _ _ _ _ _
theorem Wr.fresh {W : World} {b gw m : Nat} {F : Nat → Prop} (h : W.heap[gw]? = some (.cells (List.replicate m (Value.slice none 0 0)).toArray 22 (0, 0))) (hb : b ≤ gw) (hn : ¬ F gw) : Wr W b gw (List.replicate m (.slice none 0 0)) (List.replicate m []) F := by
  refine ⟨h, by simp, hn, hb, fun j v L hv hL => ?_⟩
  rw [List.getElem?_replicate] at hv hL
  split at hv <;> split at hL <;> simp_all
  subst hv hL
  exact Kd.V_nil _ _ _ _ _

set_option maxHeartbeats 4000000 in
set_option maxRecDepth 100000 in
theorem plays_walk (n : Int) (A : Option Addr) (cap : Nat) (acts : List ActV) (W : World) (h0 : 0 ≤ n) (h1 : n ≤ 255) (hr : Kd.C kA W A acts.length acts) (m : Nat) (hm : (m : Int) = n % 5) (hm4 : m ≤ 4) :
    Calls Try.prog 5 #[.int .u8 n, .slice A acts.length cap] W fun e w' => e = .returned (.bool true) ∧ Below W.heap.size W w' := by
  have hu52 := Try.underlying52
  have HR := Aside0.mk hr
  have hmk := make_ws m (by omega)
  generalize hcs : (List.replicate m (Value.slice none 0 0)).toArray = cs at hmk
  have HCS := Aside0.mk hcs
  have hmi := hm.symm
  clear hr hm hcs
  go_enter Try.func5, Try.ntmps5
  go_upto_region 2 with (fail)
  go_wp2_with (fail)
  refine (new_ok m _ (by omega)).mono ?_
  rintro x w2 ⟨p, g, rfl, hi, hb, hp, hg⟩
  have HI := Aside0.mk (IsM.fresh (b := W.heap.size) hi hp hg)
  have HB := Aside0.mk hb
  clear hi hb hp hg
  go_upto_region 4 with (fail)
  obtain ⟨gw, hgw⟩ : ∃ h, h = w2.heap.size := ⟨_, rfl⟩
  obtain ⟨w3, hw3⟩ : ∃ w3, w3 = w2.alloc (.cells cs 22) := ⟨_, rfl⟩
  rw [← hw3]
  try rw [← hgw]
  have hb23 : Below w2.heap.size w2 w3 := by rw [hw3]; exact below_alloc (Below.refl _ _) _
  have HW := Aside0.mk (Wr.fresh (W := w3) (b := W.heap.size) (gw := gw) (m := m) (F := fun k => k = p ∨ k = g) (by rw [hw3, hgw, HCS.out]; exact heap_alloc_new _ _) (by rw [hgw]; exact HB.out.size) (by have := HI.out.lists.lt_p; have := HI.out.lists.lt_g; rw [hgw]; omega))
  have HI3 := Aside0.mk (HI.out.below hb23)
  have HB3 := Aside0.mk (below_step HB.out hb23)
  clear hw3 hgw HI HB hmk HCS hb23
  generalize (fun k => k = p ∨ k = g) = F at HW HI3
  have HPL : Aside0 (Pl 0 m (List.replicate m [])) := ⟨⟨by simp, fun L hL => by rw [(List.mem_replicate.1 hL).2]; exact Nat.zero_le _, fun L hL g hg => by rw [(List.mem_replicate.1 hL).2] at hg; simp at hg⟩⟩
  go_wp2
  go_loopg [9, 10] (acts.length + 1) (fun gg s9 s10 wr => ∃ kk : Nat, ∃ (vs wvs : List Value) (Ls : List (List S35)) (cnt : Int) (F : Nat → Prop), kk ≤ acts.length ∧ kk ≤ 30 ∧ acts.length + 1 - kk ≤ gg ∧ s9 = .int .i64 cnt ∧ s10 = .int .i64 kk ∧ Aside0 (Pl kk m Ls) ∧ Aside0 (IsM wr W.heap.size p g vs Ls cnt F) ∧ Aside0 (Wr wr W.heap.size gw wvs Ls F) ∧ Aside0 (Below W.heap.size W wr))
  case atStart => exact ⟨0, _, _, _, 0, F, Nat.zero_le _, Nat.zero_le _, by omega, rfl, rfl, HPL, HI3, HW, HB3⟩
  case round =>
    clear HI3 HW HB3 HPL
    obtain ⟨kk, vs, wvs, Ls, cnt, F, hkk, hkk30, hgg, rfl, rfl, HPL, HI, HW, HB0⟩ := hrel
    by_cases hk : kk < acts.length
    · have hlt : (kk : Int) < (acts.length : Int) := by omega
      by_cases hk30 : kk < 30
      · have hlt30 : (kk : Int) < 30 := by omega
        go_upto_region 9 with (fail)
        obtain ⟨⟨d, i, l⟩, hx⟩ : ∃ a, acts[kk]? = some a := ⟨acts[kk], List.getElem?_eq_getElem hk⟩
        obtain ⟨ad, A2, c2, e, x0, x1, x2, hl2, hc2⟩ := act_at HR.out hx
        cases e
        simp only at x0 x1 x2 hl2 hc2
        replace x0 := pw_cell_below HB0.out x0
        replace x1 := pw_cell_below HB0.out x1
        replace x2 := pw_cell_below HB0.out x2
        have HCL := Aside0.mk hc2
        have HLC := Aside0.mk hl2
        clear hx hc2 hl2
        go_upto_region 10 with (first | ((with_reducible refine gate_dst (N := 11) rfl ?_); refine box_event ?hg (N := 11) ?hd (cs := #[.int .i64 0, .int .i64 0, .slice none 0 0]) (t := 52) ?hr ?_; (case hd => rfl); (case hg => rfl); (case hr => first | (go_simp; done) | (go_simp; rfl)); intro ga hg wa hbox hb; have Ba := Aside0.mk hbox; have HQ := Aside0.mk hb; have HGQ := Aside0.mk (Nat.le_of_eq hg.symm); have hca0 : wa.cell? ⟨ga, 0, none⟩ = some (.int .i64 0) := (blk_cell Ba.out 0).trans rfl; have hfa0 := blk_frozen Ba.out 0; have hca1 : wa.cell? ⟨ga, 1, none⟩ = some (.int .i64 0) := (blk_cell Ba.out 1).trans rfl; have hfa1 := blk_frozen Ba.out 1; have hca2 : wa.cell? ⟨ga, 2, none⟩ = some (.slice none 0 0) := (blk_cell Ba.out 2).trans rfl; have hfa2 := blk_frozen Ba.out 2; clear hb hbox hg))
        obtain ⟨wq, hw⟩ : ∃ w, w = ((wa.setCell ⟨ga, 0, none⟩ (.int .i64 d)).setCell ⟨ga, 1, none⟩ (.int .i64 i)).setCell ⟨ga, 2, none⟩ (.slice A2 l.length c2) := ⟨_, rfl⟩
        rw [← hw]
        have HQq : Aside0 (Below wr.heap.size wr wq) := ⟨by rw [hw]; exact below_set (below_set (below_set HQ.out HGQ.out) HGQ.out) HGQ.out⟩
        have HAq : Aside0 (wq.heap[ga]? = some (.cells #[.int .i64 d, .int .i64 i, .slice A2 l.length c2] 52 (0, 0))) := ⟨by rw [hw]; refine blk_put (cs := #[.int .i64 d, .int .i64 i, .slice none 0 0]) ?_ 2 _ rfl; refine blk_put (cs := #[.int .i64 d, .int .i64 0, .slice none 0 0]) ?_ 1 _ rfl; refine blk_put (cs := #[.int .i64 0, .int .i64 0, .slice none 0 0]) ?_ 0 _ rfl; exact Ba.out⟩
        have HNF : Aside0 (¬ F ga) := ⟨fun hF => by have := (HI.out.base ga hF).2; have := HGQ.out; have h5 : wr.heap.size ≤ ga := HGQ.out; omega⟩
        clear hw Ba HQ HGQ x0 x1 x2 hca0 hca1 hca2 hfa0 hfa1 hfa2
        have HBq := Aside0.mk (below_step HB0.out HQq.out)
        have HIq := Aside0.mk (HI.out.below HQq.out)
        have HWq := Aside0.mk (HW.out.below HQq.out)
        clear HI HW HB0 HQq
        obtain ⟨kq, hkq⟩ : ∃ kq, among2 d = kq := ⟨_, rfl⟩
        have HKQ := Aside0.mk hkq
        have HKL := Aside0.mk (show kq < 2 by rw [← hkq]; exact (among2_eq d).2)
        clear hkq
        obtain ⟨kg, hkg⟩ := HSplit.give_ev l
        have HKG := Aside0.mk (hkg kg (Nat.le_refl _))
        clear hkg
        have a0 := (blk_cell HAq.out 0).trans (show _ = some (Value.int .i64 d) from rfl)
        have a1 := (blk_cell HAq.out 1).trans (show _ = some (Value.int .i64 i) from rfl)
        have a2 := (blk_cell HAq.out 2).trans (show _ = some (Value.slice A2 l.length c2) from rfl)
        by_cases hi : 0 ≤ i ∧ i < (m : Int)
        · obtain ⟨j, rfl⟩ : ∃ j : Nat, i = j := ⟨i.toNat, by omega⟩
          have hjm : j < m := by omega
          have e0 : decide (0 ≤ (j : Int)) = true := decide_eq_true (by omega)
          have e1 : decide ((j : Int) < (m : Int)) = true := decide_eq_true (by omega)
          have HJM := Aside0.mk hjm
          clear hi
          obtain ⟨v, L, hv, hL⟩ := HIq.out.vs_get (j := j) (by rw [HIq.out.len, HPL.out.len]; exact hjm)
          have HJV := Aside0.mk hv
          have HJL := Aside0.mk hL
          obtain ⟨wv, hwv⟩ : ∃ wv, wvs[j]? = some wv := ⟨_, List.getElem?_eq_getElem (by rw [HWq.out.len, HPL.out.len]; exact hjm)⟩
          have HJW := Aside0.mk hwv
          clear hv hL hwv
          go_upto_if 64 with (first | (go_at_call 18; (with_reducible refine (among2_c d kq HKQ.out _).mono ?_); rintro e w1 ⟨rfl, ⟨j1, rfl⟩⟩))
          generalize hz : wq.drewN _ = w4
          have HB4 : Aside0 (Below W.heap.size W w4) := ⟨hz ▸ pw_below_drewN HBq.out _⟩
          have HI4 : Aside0 (IsM w4 W.heap.size p g vs Ls cnt F) := ⟨hz ▸ HIq.out.drewN _⟩
          have HW4 : Aside0 (Wr w4 W.heap.size gw wvs Ls F) := ⟨hz ▸ HWq.out.drewN _⟩
          have HA4 : Aside0 (w4.heap[ga]? = some (.cells #[.int .i64 d, .int .i64 (j : Int), .slice A2 l.length c2] 52 (0, 0))) := ⟨hz ▸ HAq.out⟩
          replace a0 : w4.cell? ⟨ga, 0, none⟩ = _ := (blk_cell HA4.out 0).trans (show _ = some (Value.int .i64 d) from rfl)
          replace a1 : w4.cell? ⟨ga, 1, none⟩ = _ := (blk_cell HA4.out 1).trans (show _ = some (Value.int .i64 (j : Int)) from rfl)
          replace a2 : w4.cell? ⟨ga, 2, none⟩ = _ := (blk_cell HA4.out 2).trans (show _ = some (Value.slice A2 l.length c2) from rfl)
          clear hz HBq HIq HWq HAq
          (try simp only [Act.put, List.setIfInBounds_toArray, List.set_cons_zero, List.set_cons_succ])
          go_cut [9] (fun s9 wc => ∃ (vs' wvs' : List Value) (Ls' : List (List S35)) (F' : Nat → Prop), s9 = .int .i64 (wrap64 (cnt + 1)) ∧ Aside0 (Pl (kk + 1) m Ls') ∧ Aside0 (IsM wc W.heap.size p g vs' Ls' (wrap64 (cnt + 1)) F') ∧ Aside0 (Wr wc W.heap.size gw wvs' Ls' F') ∧ Aside0 (Below W.heap.size W wc))
          case first =>
            rcases hkq : kq with _ | _ | q
            · subst hkq
              go_upto_region 16 with (fail)
              refine start_ (n := 9) (S := fun w' => w'.cell? ⟨ga, 1, none⟩ = some (.int .i64 (j : Int)) ∧ w'.cell? ⟨ga, 2, none⟩ = some (.slice A2 l.length c2)) (ds := []) #[false, false, false, false, false, false, false, false, false] (by kernel_rfl) rfl rfl ⟨a1, a2⟩ (fun hHeld => ?_)
              have HZ := Aside0.mk (show Below w4.heap.size w4 w4.drew from below_drew1 (Below.refl _ _))
              generalize w4.drew = w5 at HZ hHeld ⊢
              refine pure_ (i := 0) (N := some 65) (v := ?_) (a' := ?_) #[true, false, false, false, false, false, false, false, false] rfl rfl (by kernel_rfl) (fun _ _ _ h => h) (Or.inl ⟨by rfl, ?_⟩) ?_ ?_
              rotate_left
              · intro w'
                go_simp
                with_reducible rfl
              rotate_left
              · (simp only [Act.put, List.setIfInBounds_toArray, List.set_cons_zero, List.set_cons_succ, i64_w, i32_w])
                rfl
              refine pure_ (i := 1) (N := some 66) (v := ?_) (a' := ?_) #[true, true, false, false, false, false, false, false, false] rfl rfl (by kernel_rfl) (fun _ _ _ h => h) (Or.inl ⟨by rfl, ?_⟩) ?_ ?_
              rotate_left
              · intro w'
                go_simp
                with_reducible rfl
              rotate_left
              · (simp only [Act.put, List.setIfInBounds_toArray, List.set_cons_zero, List.set_cons_succ, i64_w, i32_w])
                rfl
              refine pure_ (i := 3) (N := some 68) (v := ?_) (a' := ?_) #[true, true, false, true, false, false, false, false, false] rfl rfl (by kernel_rfl) (fun _ _ _ h => h) (Or.inl ⟨by rfl, ?_⟩) ?_ ?_
              rotate_left
              · intro w'
                go_simp
                with_reducible rfl
              rotate_left
              · (simp only [Act.put, List.setIfInBounds_toArray, List.set_cons_zero, List.set_cons_succ, i64_w, i32_w])
                rfl
              refine pure_ (i := 7) (N := some 72) (v := ?_) (a' := ?_) #[true, true, false, true, false, false, false, true, false] rfl rfl (by kernel_rfl) (fun _ _ _ h => h) (Or.inl ⟨by rfl, ?_⟩) ?_ ?_
              rotate_left
              · intro w'
                go_simp
                with_reducible rfl
              rotate_left
              · (simp only [Act.put, List.setIfInBounds_toArray, List.set_cons_zero, List.set_cons_succ, i64_w, i32_w])
                rfl
              refine take_ (i := 2) (N := some 67) (v := ?_) (a' := ?_) #[true, true, true, true, false, false, false, true, false] rfl rfl (by kernel_rfl) (fun _ _ _ h => h) (Or.inl ⟨by rfl, ?_⟩) hHeld ?_ ?_
              rotate_left
              · rintro w' ⟨s0, s1⟩
                go_simp
                with_reducible rfl
              rotate_left
              · (simp only [Act.put, List.setIfInBounds_toArray, List.set_cons_zero, List.set_cons_succ, i64_w, i32_w])
                rfl
              refine take_ (i := 4) (N := some 69) (v := ?_) (a' := ?_) #[true, true, true, true, true, false, false, true, false] rfl rfl (by kernel_rfl) (fun _ _ _ h => h) (Or.inl ⟨by rfl, ?_⟩) hHeld ?_ ?_
              rotate_left
              · rintro w' ⟨s0, s1⟩
                go_simp
                with_reducible rfl
              rotate_left
              · (simp only [Act.put, List.setIfInBounds_toArray, List.set_cons_zero, List.set_cons_succ, i64_w, i32_w])
                rfl
              refine one_ (i := 5) (N := some 70) #[true, true, true, true, true, true, false, true, false] rfl rfl (by kernel_rfl) (by decide) (fun K hK => ?_)
              refine goes_ Try.func9 (by kernel_rfl) rfl #[.slice A2 l.length c2] (by rfl) rfl rfl (by (try simp only [List.map_toArray, List.map_cons, List.map_nil]); first | done | rfl | (simp only [List.length_drop, List.length_take]; rfl)) ?_
              refine (HSplit.boscagelaw16_Give.calls kg A2 c2 l (give l) _ (Kd.C_below HCL.out (below_step HB4.out HZ.out)) HLC.out HKG.out).mono ?_
              rintro e w6 ⟨uw6, rfl, ho, hb⟩
              refine ⟨_, rfl, ?_⟩
              have HU := Aside0.mk (Kd.S_N (Kd.S_bound ho))
              have HZ6 := Aside0.mk (below_step HZ.out hb)
              have HSZ := Aside0.mk (show w4.heap.size ≤ w5.heap.size from HZ.out.size)
              obtain ⟨A6, c6, rfl⟩ := Kd.N_slice HU.out
              have b1 := pw_cell_below HZ6.out a1
              have b2 := pw_cell_below HZ6.out a2
              clear ho hb
              refine hK.out _ _ ⟨b1, b2⟩ (fun hHeld => ?_)
              clear hK K
              refine norm_ (a' := ?_) ?_ ?_
              rotate_left
              · show Act.put _ (some 70) _ = _
                (simp only [Act.put, List.setIfInBounds_toArray, List.set_cons_zero, List.set_cons_succ, i64_w, i32_w])
                rfl
              refine one_ (i := 6) (N := some 71) #[true, true, true, true, true, true, true, true, false] rfl rfl (by kernel_rfl) (by decide) (fun K hK => ?_)
              refine goes_ Try.func19 (by kernel_rfl) rfl #[.pointer (some ⟨p, 0, none⟩), .int .i64 (j : Int), .slice A6 (give l).length c6] (by rfl) rfl rfl (by (try simp only [List.map_toArray, List.map_cons, List.map_nil]); first | done | rfl | (simp only [List.length_drop, List.length_take]; rfl)) ?_
              refine (push_in W.heap.size p g vs Ls cnt F j v L _ (HI4.out.below HZ6.out) HJV.out HJL.out A6 c6 (give l) ⟨A6, c6, rfl, (Kd.N_reads' HU.out).2.1, Kd.F_mono (Kd.N_F HU.out) (fun k hk hF => ?nf)⟩ ?lL ?lg ?li).mono ?_
              case nf => have := (HI4.out.base k hF).2; have := HSZ.out; have := hk.2.1; omega
              case lL => have := HPL.out.few L (List.mem_of_getElem? HJL.out); omega
              case lg => have := HSplit.give_len l; omega
              case li => intro g hg; have := HSplit.give_in l g hg; omega
              rintro e wp ⟨rfl, v', F', hi, hmv, hF'⟩
              refine ⟨_, rfl, ?_⟩
              have HIp := Aside0.mk hi
              have HMV := Aside0.mk hmv
              have HF' := Aside0.mk hF'
              have HWp := Aside0.mk ((HW4.out.below HZ6.out).mv hmv hF')
              have HBp := Aside0.mk (Mv.below (below_step HB4.out HZ6.out) hmv (Nat.le_trans HB4.out.size HZ6.out.size) (fun k hk => (HI4.out.base k hk).1))
              have HAp := Aside0.mk (show wp.heap[ga]? = some (.cells #[.int .i64 d, .int .i64 (j : Int), .slice A2 l.length c2] 52 (0, 0)) from (hmv.block ga (Nat.lt_of_lt_of_le (blk_lt HA4.out) HZ6.out.size) HNF.out).trans (blk_below HA4.out HZ6.out))
              clear b1 b2 a1 a2
              have b1 : wp.cell? ⟨ga, 1, none⟩ = some (.int .i64 (j : Int)) := (blk_cell HAp.out 1).trans rfl
              have b2 : wp.cell? ⟨ga, 2, none⟩ = some (.slice A2 l.length c2) := (blk_cell HAp.out 2).trans rfl
              clear hi hmv hF'
              refine hK.out _ _ ⟨b1, b2⟩ (fun hHeld => ?_)
              clear hK K
              refine norm_ (a' := ?_) ?_ ?_
              rotate_left
              · show Act.put _ (some 71) _ = _
                (simp only [Act.put, List.setIfInBounds_toArray, List.set_cons_zero, List.set_cons_succ, i64_w, i32_w])
                rfl
              refine pure_ (i := 8) (N := some 73) (v := ?_) (a' := ?_) #[true, true, true, true, true, true, true, true, true] rfl rfl (by kernel_rfl) (fun _ _ _ h => h) (Or.inl ⟨by rfl, ?_⟩) ?_ ?_
              rotate_left
              · intro w'
                go_simp
                with_reducible rfl
              rotate_left
              · (simp only [Act.put, List.setIfInBounds_toArray, List.set_cons_zero, List.set_cons_succ, i64_w, i32_w])
                rfl
              refine done_ (by kernel_rfl) ?_

              go_upto_region 19 with (fail)
              obtain ⟨w7, hz⟩ : ∃ w, wp = w := ⟨_, rfl⟩
              rw [hz]
              have HB7 : Aside0 (Below W.heap.size W w7) := ⟨hz ▸ HBp.out⟩
              have HI7 : Aside0 (IsM w7 W.heap.size p g (vs.set j v') (Ls.set j (L ++ kept (give l))) (wrap64 (cnt + 1)) F') := ⟨hz ▸ HIp.out⟩
              have HW7 : Aside0 (Wr w7 W.heap.size gw wvs Ls F') := ⟨hz ▸ HWp.out⟩
              have a1 : w7.cell? ⟨ga, 1, none⟩ = some (.int .i64 (j : Int)) := hz ▸ b1
              have a2 : w7.cell? ⟨ga, 2, none⟩ = some (.slice A2 l.length c2) := hz ▸ b2
              clear hz HBp HIp HWp HAp HMV b1 b2 HU HZ6 HSZ HZ
              have HVW := Aside0.mk (HW7.out.ws j wv L HJW.out HJL.out)
              obtain ⟨Aw, cw, rfl⟩ := Kd.V_slice HVW.out
              have HJW' := HJW
              have a3 := (HW7.out.get HJW.out).1
              have hlw : (j : Int) < (m : Int) := by have := HJM.out; omega
              have HLL := Aside0.mk (show L.length ≤ 600 by have := HPL.out.few L (List.mem_of_getElem? HJL.out); omega)
              have HLG := Aside0.mk (show (kept4 (back (give l))).length ≤ 20 by have := HSplit.give_len l; have h2 : (kept4 (back (give l))).length ≤ (back (give l)).length := List.length_filter_le _ _; rw [HSplit.back_len] at h2; omega)
              obtain ⟨kb, hkb⟩ := HSplit.back_ev (give l) (by have := HSplit.give_len l; omega) (fun g hg => by have := HSplit.give_in l g hg; omega)
              have HKB := Aside0.mk (hkb kb (Nat.le_refl _))
              clear hkb
              obtain ⟨ks, hks⟩ := HSplit.some_ev (back (give l)) (by rw [HSplit.back_len]; have := HSplit.give_len l; omega)
              have HKS := Aside0.mk (hks ks (Nat.le_refl _))
              clear hks
              refine start_ (n := 18) (S := fun w' => w'.cell? ⟨ga, 1, none⟩ = some (.int .i64 (j : Int)) ∧ w'.cell? ⟨ga, 2, none⟩ = some (.slice A2 l.length c2) ∧ w'.cell? ⟨gw, j, none⟩ = some (.slice Aw (back L).length cw)) (ds := [17]) #[false, false, false, false, false, false, false, false, false, false, false, false, false, false, false, false, false, false] (by kernel_rfl) rfl rfl ⟨a1, a2, a3⟩ (fun hHeld => ?_)
              have HZ := Aside0.mk (show Below w7.heap.size w7 w7.drew from below_drew1 (Below.refl _ _))
              have HSZ := Aside0.mk (show w7.drew.heap.size = w7.heap.size from rfl)
              generalize w7.drew = w8 at HZ HSZ hHeld ⊢
              refine pure_ (i := 0) (N := some 75) (v := ?_) (a' := ?_) #[true, false, false, false, false, false, false, false, false, false, false, false, false, false, false, false, false, false] rfl rfl (by kernel_rfl) (fun _ _ _ h => h) (Or.inl ⟨by rfl, ?_⟩) ?_ ?_
              rotate_left
              · intro w'
                go_simp
                with_reducible rfl
              rotate_left
              · (simp only [Act.put, List.setIfInBounds_toArray, List.set_cons_zero, List.set_cons_succ, i64_w, i32_w])
                rfl
              refine pure_ (i := 1) (N := some 76) (v := ?_) (a' := ?_) #[true, true, false, false, false, false, false, false, false, false, false, false, false, false, false, false, false, false] rfl rfl (by kernel_rfl) (fun _ _ _ h => h) (Or.inl ⟨by rfl, ?_⟩) ?_ ?_
              rotate_left
              · intro w'
                go_simp
                with_reducible rfl
              rotate_left
              · (simp only [Act.put, List.setIfInBounds_toArray, List.set_cons_zero, List.set_cons_succ, i64_w, i32_w])
                rfl
              refine pure_ (i := 4) (N := some 79) (v := ?_) (a' := ?_) #[true, true, false, false, true, false, false, false, false, false, false, false, false, false, false, false, false, false] rfl rfl (by kernel_rfl) (fun _ _ _ h => h) (Or.inl ⟨by rfl, ?_⟩) ?_ ?_
              rotate_left
              · intro w'
                go_simp
                with_reducible rfl
              rotate_left
              · (simp only [Act.put, List.setIfInBounds_toArray, List.set_cons_zero, List.set_cons_succ, i64_w, i32_w])
                rfl
              refine pure_ (i := 5) (N := some 80) (v := ?_) (a' := ?_) #[true, true, false, false, true, true, false, false, false, false, false, false, false, false, false, false, false, false] rfl rfl (by kernel_rfl) (fun _ _ _ h => h) (Or.inl ⟨by rfl, ?_⟩) ?_ ?_
              rotate_left
              · intro w'
                go_simp
                with_reducible rfl
              rotate_left
              · (simp only [Act.put, List.setIfInBounds_toArray, List.set_cons_zero, List.set_cons_succ, i64_w, i32_w])
                rfl
              refine pure_ (i := 10) (N := some 85) (v := ?_) (a' := ?_) #[true, true, false, false, true, true, false, false, false, false, true, false, false, false, false, false, false, false] rfl rfl (by kernel_rfl) (fun _ _ _ h => h) (Or.inl ⟨by rfl, ?_⟩) ?_ ?_
              rotate_left
              · intro w'
                go_simp
                with_reducible rfl
              rotate_left
              · (simp only [Act.put, List.setIfInBounds_toArray, List.set_cons_zero, List.set_cons_succ, i64_w, i32_w])
                rfl
              refine take_ (i := 2) (N := some 77) (v := ?_) (a' := ?_) #[true, true, true, false, true, true, false, false, false, false, true, false, false, false, false, false, false, false] rfl rfl (by kernel_rfl) (fun _ _ _ h => h) (Or.inl ⟨by rfl, ?_⟩) hHeld ?_ ?_
              rotate_left
              · rintro w' ⟨s0, s1, s2⟩
                go_simp
                with_reducible rfl
              rotate_left
              · (simp only [Act.put, List.setIfInBounds_toArray, List.set_cons_zero, List.set_cons_succ, i64_w, i32_w])
                rfl
              refine take_ (i := 6) (N := some 81) (v := ?_) (a' := ?_) #[true, true, true, false, true, true, true, false, false, false, true, false, false, false, false, false, false, false] rfl rfl (by kernel_rfl) (fun _ _ _ h => h) (Or.inl ⟨by rfl, ?_⟩) hHeld ?_ ?_
              rotate_left
              · rintro w' ⟨s0, s1, s2⟩
                go_simp
                with_reducible rfl
              rotate_left
              · (simp only [Act.put, List.setIfInBounds_toArray, List.set_cons_zero, List.set_cons_succ, i64_w, i32_w])
                rfl
              refine take_ (i := 11) (N := some 86) (v := ?_) (a' := ?_) #[true, true, true, false, true, true, true, false, false, false, true, true, false, false, false, false, false, false] rfl rfl (by kernel_rfl) (fun _ _ _ h => h) (Or.inl ⟨by rfl, ?_⟩) hHeld ?_ ?_
              rotate_left
              · rintro w' ⟨s0, s1, s2⟩
                go_simp
                with_reducible rfl
              rotate_left
              · (simp only [Act.put, List.setIfInBounds_toArray, List.set_cons_zero, List.set_cons_succ, i64_w, i32_w])
                rfl
              refine pure_ (i := 7) (N := some 82) (v := ?_) (a' := ?_) #[true, true, true, false, true, true, true, true, false, false, true, true, false, false, false, false, false, false] rfl rfl (by kernel_rfl) (fun _ _ _ h => h) (Or.inl ⟨by rfl, ?_⟩) ?_ ?_
              rotate_left
              · intro w'
                go_simp
                with_reducible rfl
              rotate_left
              · (simp only [Act.put, List.setIfInBounds_toArray, List.set_cons_zero, List.set_cons_succ, i64_w, i32_w])
                rfl
              refine take_ (i := 8) (N := some 83) (v := ?_) (a' := ?_) #[true, true, true, false, true, true, true, true, true, false, true, true, false, false, false, false, false, false] rfl rfl (by kernel_rfl) (fun _ _ _ h => h) (Or.inl ⟨by rfl, ?_⟩) hHeld ?_ ?_
              rotate_left
              · rintro w' ⟨s0, s1, s2⟩
                go_simp
                with_reducible rfl
              rotate_left
              · (simp only [Act.put, List.setIfInBounds_toArray, List.set_cons_zero, List.set_cons_succ, i64_w, i32_w])
                rfl
              refine one_ (i := 3) (N := some 78) #[true, true, true, true, true, true, true, true, true, false, true, true, false, false, false, false, false, false] rfl rfl (by kernel_rfl) (by decide) (fun K hK => ?_)
              refine Kd.N_lit_step k74 (w0 := w7) w7.heap.size 74 (by rfl) (N' := 78) rfl (xs := ([] : List S74)) (inner := []) (ok := fun k => ¬ F' k ∧ k ≠ gw) (okp := fun _ => False) ?hr (Reps.none _ _) (fun _ hk => hk.elim) ?hf HZ.out (Nat.le_of_eq HSZ.out.symm) (by simp) ?_
              case hr => first | (go_simp; done) | (go_simp; rfl)
              case hf => exact ⟨fun hk => by have := (HI7.out.base _ hk).2; have := HSZ.out; omega, by have := HW7.out.lt; have := HSZ.out; omega⟩
              intro v9 w9 hn hb9 hg9 hat
              have HN9 := Aside0.mk hn
              have HZ9 := Aside0.mk hb9
              obtain ⟨A9, c9, rfl⟩ := Kd.N_slice hn
              have b1 := pw_cell_below HZ9.out a1; have b2 := pw_cell_below HZ9.out a2; have b3 := pw_cell_below HZ9.out a3
              clear hn hb9 hg9 hat
              refine hK.out _ _ ⟨b1, b2, b3⟩ (fun hHeld => ?_)
              clear hK K
              refine norm_ (a' := ?_) ?_ ?_
              rotate_left
              · show Act.put _ (some 78) _ = _
                (simp only [Act.put, List.setIfInBounds_toArray, List.set_cons_zero, List.set_cons_succ, i64_w, i32_w])
                rfl
              refine one_ (i := 9) (N := some 84) #[true, true, true, true, true, true, true, true, true, true, true, true, false, false, false, false, false, false] rfl rfl (by kernel_rfl) (by decide) (fun K hK => ?_)
              refine Kd.N_append_rows_step k74 (w0 := w7) w7.heap.size (by rfl) (.tmp 78) (.tmp 83) 22 74 (.agg #[(.int .i64 0), (.int .i64 0), (.slice none 0 0)]) 40 rfl Try.underlying22 HSplit.info74 rfl (by decide) (by decide) (.slice A9 ([] : List S74).length c9) ([] : List S74) (back L) Aw _ cw (fun k => ¬ F' k ∧ k ≠ gw) (fun k => (¬ F' k ∧ k ≠ gw) ∧ k < w7.heap.size) rfl rfl HN9.out (Kd.F_below (Kd.F_bound (Kd.V_F HVW.out)) HZ9.out) (fun k hk => ⟨hk.1, fun he => by have := Kd.N_base HN9.out k he.symm; have := hk.2; omega⟩) (fun k hk => ⟨fun hF => by have := (HI7.out.base _ hF).2; have := HZ9.out.size; omega, by have := HW7.out.lt; have := HZ9.out.size; omega⟩) HZ9.out HZ9.out.size (by have := HLL.out; rw [HSplit.back_len]; simp only [List.length_nil]; omega) ?_
              intro v10 w10 hn hb9 hg9 hat
              have HN10 := Aside0.mk hn
              have HZ10 := Aside0.mk hb9
              obtain ⟨A10, c10, rfl⟩ := Kd.N_slice hn
              clear b1 b2 b3
              have b1 := pw_cell_below HZ10.out a1; have b2 := pw_cell_below HZ10.out a2; have b3 := pw_cell_below HZ10.out a3
              clear hn hb9 hg9 hat
              refine hK.out _ _ ⟨b1, b2, b3⟩ (fun hHeld => ?_)
              clear hK K
              refine norm_ (a' := ?_) ?_ ?_
              rotate_left
              · show Act.put _ (some 84) _ = _
                (simp only [Act.put, List.setIfInBounds_toArray, List.set_cons_zero, List.set_cons_succ, i64_w, i32_w])
                rfl
              refine one_ (i := 12) (N := some 87) #[true, true, true, true, true, true, true, true, true, true, true, true, true, false, false, false, false, false] rfl rfl (by kernel_rfl) (by decide) (fun K hK => ?_)
              refine goes_ Try.func9 (by kernel_rfl) rfl #[.slice A2 l.length c2] (by rfl) rfl rfl (by (try simp only [List.map_toArray, List.map_cons, List.map_nil]); first | done | rfl | (simp only [List.length_drop, List.length_take]; rfl)) ?_
              refine (HSplit.boscagelaw16_Give.calls kg A2 c2 l (give l) _ (Kd.C_below HCL.out (below_step HB7.out HZ10.out)) HLC.out HKG.out).mono ?_
              rintro e w11 ⟨uw11, rfl, ho, hb⟩
              refine ⟨_, rfl, ?_⟩
              have HU := Aside0.mk (Kd.S_N (Kd.S_bound ho))
              have HZ11 := Aside0.mk (below_step HZ10.out hb)
              have HN11 := Aside0.mk (Kd.N_below HN10.out hb)
              obtain ⟨A11, c11, rfl⟩ := Kd.N_slice HU.out
              clear b1 b2 b3
              have b1 := pw_cell_below HZ11.out a1; have b2 := pw_cell_below HZ11.out a2; have b3 := pw_cell_below HZ11.out a3
              clear ho hb
              refine hK.out _ _ ⟨b1, b2, b3⟩ (fun hHeld => ?_)
              clear hK K
              refine norm_ (a' := ?_) ?_ ?_
              rotate_left
              · show Act.put _ (some 87) _ = _
                (simp only [Act.put, List.setIfInBounds_toArray, List.set_cons_zero, List.set_cons_succ, i64_w, i32_w])
                rfl
              refine one_ (i := 13) (N := some 88) #[true, true, true, true, true, true, true, true, true, true, true, true, true, true, false, false, false, false] rfl rfl (by kernel_rfl) (by decide) (fun K hK => ?_)
              refine goes_ Try.func11 (by kernel_rfl) rfl #[.slice A11 (give l).length c11] (by rfl) rfl rfl (by (try simp only [List.map_toArray, List.map_cons, List.map_nil]); first | done | rfl | (simp only [List.length_drop, List.length_take]; rfl)) ?_
              refine (HSplit.boscagelaw16_Back.calls kb A11 c11 (give l) (back (give l)) _ (Kd.N_reads' HU.out).2.2 (Kd.N_reads' HU.out).2.1 HKB.out).mono ?_
              rintro e w12 ⟨u12, rfl, ho, hb⟩
              refine ⟨_, rfl, ?_⟩
              have HU12 := Aside0.mk (Kd.S_N (Kd.S_bound ho))
              have HZ12 := Aside0.mk (below_step HZ11.out hb)
              have HN12 := Aside0.mk (Kd.N_below HN11.out hb)
              have HZS := Aside0.mk hb.size
              obtain ⟨A12, c12, rfl⟩ := Kd.N_slice HU12.out
              clear b1 b2 b3
              have b1 := pw_cell_below HZ12.out a1; have b2 := pw_cell_below HZ12.out a2; have b3 := pw_cell_below HZ12.out a3
              clear ho hb
              refine hK.out _ _ ⟨b1, b2, b3⟩ (fun hHeld => ?_)
              clear hK K
              refine norm_ (a' := ?_) ?_ ?_
              rotate_left
              · show Act.put _ (some 88) _ = _
                (simp only [Act.put, List.setIfInBounds_toArray, List.set_cons_zero, List.set_cons_succ, i64_w, i32_w])
                rfl
              have HZ12s := Aside0.mk (show w11.heap.size ≤ w12.heap.size from HZS.out)
              refine one_ (i := 14) (N := some 89) #[true, true, true, true, true, true, true, true, true, true, true, true, true, true, true, false, false, false] rfl rfl (by kernel_rfl) (by decide) (fun K hK => ?_)
              refine goes_ Try.func20 (by kernel_rfl) rfl #[.slice A12 (back (give l)).length c12] (by rfl) rfl rfl (by (try simp only [List.map_toArray, List.map_cons, List.map_nil]); first | done | rfl | (simp only [List.length_drop, List.length_take]; rfl)) ?_
              refine (HSplit.boscageref16_Some.calls ks (fun k => w11.heap.size ≤ k ∧ k < w12.heap.size) A12 c12 (back (give l)) (kept4 (back (give l))) _ ⟨A12, c12, rfl, (Kd.N_reads' HU12.out).2.1, Kd.F_mono (Kd.N_F HU12.out) (fun k hk => ⟨hk.2.1, hk.2.2.1⟩)⟩ HKS.out).mono ?_
              rintro e w13 ⟨u13, rfl, ho, hb⟩
              refine ⟨_, rfl, ?_⟩
              have HU13 := Aside0.mk (Kd.N_bound ho)
              have HZ13 := Aside0.mk (below_step HZ12.out hb)
              have HN13 := Aside0.mk (Kd.N_below HN12.out hb)
              have HS13 := Aside0.mk hb.size
              obtain ⟨A13, c13, rfl⟩ := Kd.N_slice HU13.out
              clear b1 b2 b3
              have b1 := pw_cell_below HZ13.out a1; have b2 := pw_cell_below HZ13.out a2; have b3 := pw_cell_below HZ13.out a3
              clear ho hb
              refine hK.out _ _ ⟨b1, b2, b3⟩ (fun hHeld => ?_)
              clear hK K
              refine norm_ (a' := ?_) ?_ ?_
              rotate_left
              · show Act.put _ (some 89) _ = _
                (simp only [Act.put, List.setIfInBounds_toArray, List.set_cons_zero, List.set_cons_succ, i64_w, i32_w])
                rfl
              refine one_ (i := 15) (N := some 90) #[true, true, true, true, true, true, true, true, true, true, true, true, true, true, true, true, false, false] rfl rfl (by kernel_rfl) (by decide) (fun K hK => ?_)
              refine Kd.N_append_rows_step k74 (w0 := w7) w7.heap.size (by rfl) (.tmp 84) (.tmp 89) 22 74 (.agg #[(.int .i64 0), (.int .i64 0), (.slice none 0 0)]) 40 rfl Try.underlying22 HSplit.info74 rfl (by decide) (by decide) (.slice A10 ([] ++ back L).length c10) ([] ++ back L) (kept4 (back (give l))) A13 _ c13 (fun k => ¬ F' k ∧ k ≠ gw) (fun k => w11.heap.size ≤ k) rfl rfl HN13.out (Kd.F_mono (Kd.N_F HU13.out) (fun k hk => by rcases hk.1 with h1 | h1; exact h1.1; exact Nat.le_trans (HZ12s.out) h1)) (fun k hk => ⟨⟨fun hF => by have := (HI7.out.base _ hF).2; have := HZ11.out.size; omega, by have := HW7.out.lt; have := HZ11.out.size; omega⟩, fun he => by have := Kd.N_lt HN11.out k he.symm; omega⟩) (fun k hk => ⟨fun hF => by have := (HI7.out.base _ hF).2; have := HZ13.out.size; omega, by have := HW7.out.lt; have := HZ13.out.size; omega⟩) HZ13.out HZ13.out.size (by have := HLL.out; have := HLG.out; rw [List.nil_append, HSplit.back_len]; omega) ?_
              intro v14 w14 hn hb9 hg9 hat
              have hEq : ([] ++ back L) ++ kept4 (back (give l)) = back (L ++ kept (give l)) := by rw [List.nil_append, HSplit.kept_back, back_app]
              rw [hEq] at hn
              have HN14 := Aside0.mk hn
              have HZ14 := Aside0.mk hb9
              obtain ⟨A14, c14, rfl⟩ := Kd.N_slice hn
              clear b1 b2 b3
              have b1 := pw_cell_below HZ14.out a1; have b2 := pw_cell_below HZ14.out a2; have b3 := pw_cell_below HZ14.out a3
              have bf := (HW7.out.below HZ14.out).get (HJW'.out) |>.2
              clear hn hb9 hg9 hat
              refine hK.out _ _ ⟨b1, b2, b3⟩ (fun hHeld => ?_)
              clear hK K
              refine norm_ (a' := ?_) ?_ ?_
              rotate_left
              · show Act.put _ (some 90) _ = _
                (simp only [Act.put, List.setIfInBounds_toArray, List.set_cons_zero, List.set_cons_succ, i64_w, i32_w])
                rfl
              refine take_ (i := 16) (N := some 91) (v := ?_) (a' := ?_) #[true, true, true, true, true, true, true, true, true, true, true, true, true, true, true, true, true, false] rfl rfl (by kernel_rfl) (fun _ _ _ h => h) (Or.inl ⟨by rfl, ?_⟩) hHeld ?_ ?_
              rotate_left
              · rintro w' ⟨s0, s1, s2⟩
                go_simp
                with_reducible rfl
              rotate_left
              · (simp only [Act.put, List.setIfInBounds_toArray, List.set_cons_zero, List.set_cons_succ, i64_w, i32_w])
                rfl
              refine last_ (i := 17) (N := none) #[true, true, true, true, true, true, true, true, true, true, true, true, true, true, true, true, true, true] rfl rfl (by kernel_rfl) (by decide) (fun K hK => ?_)
              refine skip_ (by rfl) rfl (w1 := w14.setCell ⟨gw, j, none⟩ (.slice A14 (back (L ++ kept (give l))).length c14)) ?hr ?_
              case hr => first | (go_simp; done) | (go_simp; rfl)
              refine hK.out _ _ ?_
              clear hK K
              refine done_ (by kernel_rfl) ?_

              try go_wp2
              go_meet
              case rel => exact ⟨_, _, _, F', rfl, ⟨HPL.out.push j L HJL.out l⟩, ⟨(HI7.out.below HZ14.out).far HW7.out.nf j _⟩, ⟨(HW7.out.below HZ14.out).put j ⟨A14, c14, rfl, (Kd.N_reads' HN14.out).2.1, Kd.N_F HN14.out⟩⟩, ⟨below_set (below_step HB7.out HZ14.out) HW7.out.base⟩⟩
            · subst hkq
              obtain ⟨Av, cv, rfl⟩ := Kd.V_slice (HI4.out.reads HJV.out HJL.out)
              obtain ⟨Aw, cw, rfl⟩ := Kd.V_slice (HW4.out.ws j wv L HJW.out HJL.out)
              go_upto_region 21 with (first | (go_at_call 21; (with_reducible refine (grab_in W.heap.size p g vs Ls cnt F j _ L _ (by first | exact HI4.out | exact HI4.out.drewN _ | exact HI4.out.drew) HJV.out HJL.out).mono ?_); rintro e w5 ⟨rfl, hi, hmv, hv⟩; have HI5 := Aside0.mk hi; have HMV : Aside0 (Mv w4 w5 (fun k => k = p ∨ k = g)) := ⟨⟨hmv.os, hmv.tape, hmv.output, hmv.size, hmv.block⟩⟩; have HV5 := Aside0.mk hv; clear hi hmv hv))
              have HW5 := Aside0.mk (HW4.out.mv (F' := F) (HMV.out.mono (fun k hk => by rcases hk with rfl | rfl; exact HI4.out.fp; exact HI4.out.fg)) (fun k hk => .inl hk))
              have HB5 := Aside0.mk (Mv.below HB4.out HMV.out HB4.out.size (fun k hk => by rcases hk with rfl | rfl; exact (HI4.out.base _ HI4.out.fp).1; exact (HI4.out.base _ HI4.out.fg).1))
              have HA5 : Aside0 (w5.heap[ga]? = some (.cells #[.int .i64 d, .int .i64 (j : Int), .slice A2 l.length c2] 52 (0, 0))) := ⟨(HMV.out.block ga (blk_lt HA4.out) (fun hk => HNF.out (by rcases hk with rfl | rfl; exact HI4.out.fp; exact HI4.out.fg))).trans HA4.out⟩
              clear a0 a1 a2 HI4 HW4 HB4 HA4 HMV
              go_upto_region 22 with (fail)
              obtain ⟨w6, hw⟩ : ∃ w, w = w5.alloc (.cells #[] 74) := ⟨_, rfl⟩
              rw [← hw]
              have HQ6 : Aside0 (Below w5.heap.size w5 w6) := ⟨by rw [hw]; exact below_alloc (Below.refl _ _) _⟩
              clear hw
              have HI6 := Aside0.mk (HI5.out.below HQ6.out)
              have HW6 := Aside0.mk (HW5.out.below HQ6.out)
              have HB6 := Aside0.mk (below_step HB5.out HQ6.out)
              have HA6 := Aside0.mk (blk_below HA5.out HQ6.out)
              have HV6 := Aside0.mk (Kd.V_below HV5.out HQ6.out)
              clear HI5 HW5 HB5 HA5 HV5 HQ6
              have a1 := (blk_cell HA6.out 1).trans (show _ = some (Value.int .i64 (j : Int)) from rfl)
              have a3 := (HW6.out.get HJW.out).1
              have a3f := (HW6.out.get HJW.out).2
              have hlw : (j : Int) < (m : Int) := by have := HJM.out; omega
              go_upto_region 25 with (fail)
              have HVl := Aside0.mk (Kd.V_reads' (Kd.V_far (p := ⟨gw, j, none⟩) HV6.out (fun k hk e => HW6.out.nf ((show k = gw from e) ▸ hk.1)) (.slice none 0 0)))
              have HVw := Aside0.mk (Kd.V_reads' (Kd.V_far (p := ⟨gw, j, none⟩) (HW6.out.ws j _ L HJW.out HJL.out) (fun k hk => hk.2) (.slice none 0 0)))
              have HI7 := Aside0.mk (HI6.out.far HW6.out.nf j (.slice none 0 0))
              have HW7 := Aside0.mk (HW6.out.put j (L := []) (Kd.V_nil _ _ _ _ _))
              have HB7 := Aside0.mk (below_set (j := j) (v := .slice none 0 0) HB6.out HW6.out.base)
              clear a1 a3 a3f HI6 HW6 HB6 HA6 HV6
              generalize w6.setCell ⟨gw, j, none⟩ (.slice none 0 0) = w7 at HVl HVw HI7 HW7 HB7 ⊢
              have hL6 := HPL.out.few L (List.mem_of_getElem? HJL.out)
              have hLi := HPL.out.items L (List.mem_of_getElem? HJL.out)
              obtain ⟨kb, hkb⟩ := HSplit.back_ev L (by omega) (fun g hg => by have := (hLi g hg).2; omega)
              have HKB := Aside0.mk (hkb kb (Nat.le_refl _))
              obtain ⟨ks, hks⟩ := HSplit.same_ev (back L) (by rw [HSplit.back_len]; omega) (HSplit.back_in L (fun g hg => by have := (hLi g hg).2; omega))
              have HKS := Aside0.mk (hks ks (Nat.le_refl _))
              clear hkb hks hL6 hLi
              go_wp2_with (first
                | (go_at_call 11; (with_reducible refine (HSplit.boscagelaw16_Back.calls kb Av cv L (back L) _ (Kd.C_below HVl.out.2.2 (by repeat (with_reducible first | exact Below.refl _ _ | apply pw_below_drewN | apply below_drew1))) HVl.out.2.1 HKB.out).mono ?_); rintro e w8 ⟨u8, rfl, ho, hb⟩; have HU8 := Aside0.mk (Kd.S_N ho); have HZ8 : Aside0 (Below w7.heap.size w7 w8) := ⟨below_step (W := _) (by repeat (with_reducible first | exact Below.refl _ _ | apply pw_below_drewN | apply below_drew1)) hb⟩; obtain ⟨A8, c8, rfl⟩ := Kd.N_slice (Kd.S_N ho); clear ho hb)
                | (go_at_call 13; (with_reducible refine (HSplit.boscageref16_Same.calls ks A8 c8 (back L) Aw cw (back L) true _ (by first | exact (Kd.N_reads' HU8.out).2.2 | exact Kd.C_below (Kd.N_reads' HU8.out).2.2 (by repeat (with_reducible first | exact Below.refl _ _ | apply pw_below_drewN | apply below_drew1))) (Kd.N_reads' HU8.out).2.1 (Kd.C_below HVw.out.2.2 (by repeat (with_reducible first | exact HZ8.out | apply pw_below_drewN | apply below_drew1))) HVw.out.2.1 HKS.out).mono ?_); rintro e w9 ⟨rfl, ⟨q9, rfl⟩⟩))
              go_meet
              case rel => exact ⟨_, _, _, F, rfl, ⟨HPL.out.take j⟩, ⟨HI7.out.below (by repeat (with_reducible first | exact HZ8.out | apply pw_below_drewN | apply below_drew1))⟩, ⟨HW7.out.below (by repeat (with_reducible first | exact HZ8.out | apply pw_below_drewN | apply below_drew1))⟩, ⟨below_step HB7.out (by repeat (with_reducible first | exact HZ8.out | apply pw_below_drewN | apply below_drew1))⟩⟩
            · have := HKL.out; omega
          case rest =>
            clear HKQ HKL HKG HCL HLC HNF
            obtain ⟨vs', wvs', Ls', F', rfl, HPL', HI, HW, HB⟩ := hcut
            have HLm := Aside0.mk HPL'.out.len
            go_wp2_with (first | ((with_reducible refine gate_dst (N := 120) rfl ?_); refine Kd.N_lit k74 (w0 := wc) wc.heap.size 74 ?hg (N' := 120) ?hd (xs := ([] : List S74)) (inner := []) (ok := fun _ => True) (okp := fun _ => False) ?hr (Reps.none _ _) (fun _ hk => hk.elim) trivial ?hB ?hb (by simp) ?_; (case hd => rfl); (case hg => rfl); (case hr => first | (go_simp; done) | (go_simp; rfl)); (case hB => exact (by repeat (with_reducible first | exact Below.refl _ _ | apply pw_below_drewN | apply below_drew1))); (case hb => exact (show Below wc.heap.size wc _ from (by repeat (with_reducible first | exact Below.refl _ _ | apply pw_below_drewN | apply below_drew1))).size); intro v9 w9 hn hb9 hg9 hat; have HN := Aside0.mk hn; have HZ := Aside0.mk hb9; clear hn hb9 hg9 hat))
            go_loopg [17, 18] (m + 1) (fun gg s17 s18 wr2 => ∃ t : Nat, t ≤ m ∧ m + 1 - t ≤ gg ∧ s18 = .int .i64 (t : Int) ∧ Aside0 (Kd.N k74 74 wr2 wc.heap.size (fun _ => True) s17 (back (Ls'.take t).flatten)) ∧ Aside0 (Below wc.heap.size wc wr2))
            case atStart => exact ⟨0, Nat.zero_le _, by omega, rfl, ⟨by (with_reducible repeat (first | apply Kd.N_drewN | apply Kd.N_drew)); exact HN.out⟩, ⟨(by repeat (with_reducible first | exact HZ.out | apply pw_below_drewN | apply below_drew1))⟩⟩
            case round =>
              clear HN HZ
              obtain ⟨t, htm, hg2, rfl, HN, HZ⟩ := hrel
              by_cases ht : t < m
              · have hti : (t : Int) < (m : Int) := by omega
                obtain ⟨M, hM⟩ : ∃ M, Ls'[t]? = some M := ⟨_, List.getElem?_eq_getElem (by rw [HLm.out]; exact ht)⟩
                obtain ⟨wv', hwv'⟩ : ∃ wv, wvs'[t]? = some wv := ⟨_, List.getElem?_eq_getElem (by rw [HW.out.len, HLm.out]; exact ht)⟩
                have HVW := Aside0.mk (HW.out.ws t wv' M hwv' hM)
                obtain ⟨Aw, cw, rfl⟩ := Kd.V_slice HVW.out
                have a3 := pw_cell_below HZ.out (HW.out.get hwv').1
                have HML := Aside0.mk (show M.length ≤ 620 by have := HPL'.out.few M (List.mem_of_getElem? hM); omega)
                have HTL := Aside0.mk (show (Ls'.take t).flatten.length ≤ 620 * 4 by
                  have h1 := flatten_len (kk := kk + 1) (Ls'.take t) (fun L hL => HPL'.out.few L (List.mem_of_mem_take hL))
                  have h2 : (Ls'.take t).length ≤ 4 := by rw [List.length_take]; omega
                  have h3 : 20 * (kk + 1) * (Ls'.take t).length ≤ 620 * 4 := Nat.mul_le_mul (by omega) h2
                  omega)
                have HTK := Aside0.mk (show (Ls'.take (t + 1)).flatten = (Ls'.take t).flatten ++ M by rw [List.take_add_one, hM]; simp)
                clear hM hwv'
                go_wp2_with (first | ((with_reducible refine gate_builtin (b := .append) (xs := #[.tmp 126, .tmp 130]) rfl ?_); at_builtin; refine Kd.N_append_rows k74 (w0 := wc) wc.heap.size rfl (.tmp 126) (.tmp 130) 22 74 (.agg #[(.int .i64 0), (.int .i64 0), (.slice none 0 0)]) 40 rfl Try.underlying22 HSplit.info74 rfl (by decide) (by omega) u17 (back (Ls'.take t).flatten) (back M) Aw _ cw (fun _ => True) (fun k => k < wc.heap.size) rfl rfl (by (with_reducible repeat (first | apply Kd.N_drewN | apply Kd.N_drew)); exact HN.out) (Kd.F_mono (Kd.F_below (Kd.F_bound (Kd.V_F HVW.out)) (by repeat (with_reducible first | exact HZ.out | apply pw_below_drewN | apply below_drew1))) (fun k hk => hk.2)) (fun k hk => ⟨trivial, fun he => by have := Kd.N_base HN.out k he.symm; omega⟩) (fun _ _ => trivial) (by repeat (with_reducible first | exact HZ.out | apply pw_below_drewN | apply below_drew1)) (show Below wc.heap.size wc _ from (by repeat (with_reducible first | exact HZ.out | apply pw_below_drewN | apply below_drew1))).size ?hlen ?_; (case hlen => rw [HSplit.back_len, HSplit.back_len]; have := HTL.out; have := HML.out; omega); intro v9 w9 hn hb9 hg9 hat; have HN9 := Aside0.mk hn; have HZ9 := Aside0.mk hb9; clear hn hb9 hg9 hat))
                go_roundg (m + 1 - (t + 1))
                case measure => omega
                case rel => exact ⟨t + 1, by omega, by omega, by go_num, ⟨by rw [HTK.out, back_app]; (with_reducible repeat (first | apply Kd.N_drewN | apply Kd.N_drew)); exact HN9.out⟩, ⟨(by repeat (with_reducible first | exact HZ9.out | apply pw_below_drewN | apply below_drew1))⟩⟩
              · have hti : ¬ (t : Int) < (m : Int) := by omega
                obtain rfl : t = m := by omega
                have hfl : (Ls'.take t).flatten = Ls'.flatten := by rw [List.take_of_length_le (by rw [HLm.out]; exact Nat.le_refl _)]
                rw [hfl] at HN
                have hLL : Ls'.flatten.length ≤ 620 * 4 := by
                  have h1 := flatten_len (kk := kk + 1) Ls' HPL'.out.few
                  rw [HLm.out] at h1
                  have h3 : 20 * (kk + 1) * t ≤ 620 * 4 := Nat.mul_le_mul (by omega) hm4
                  omega
                have hLi : ∀ g ∈ Ls'.flatten, g.f2.length ≤ 20 := by
                  intro g hg
                  obtain ⟨L, hL, hg⟩ := List.mem_flatten.1 hg
                  exact (HPL'.out.items L hL g hg).2
                have hfk := HPL'.out.flat
                obtain ⟨LL, hLe⟩ : ∃ LL, LL = Ls'.flatten := ⟨_, rfl⟩
                rw [← hLe] at HN hLL hLi hfk
                clear hLe hfl
                have HFK := Aside0.mk hfk
                obtain ⟨kb, hkb⟩ := HSplit.back_ev LL (by omega) (fun g hg => by have := hLi g hg; omega)
                have HKB := Aside0.mk (hkb kb (Nat.le_refl _))
                obtain ⟨ks, hks⟩ := HSplit.same_ev (back LL) (by rw [HSplit.back_len]; omega) (HSplit.back_in LL (fun g hg => by have := hLi g hg; omega))
                have HKS := Aside0.mk (hks ks (Nat.le_refl _))
                clear hkb hks hLL hLi hfk
                have HA1 : Aside0 (Ls'.length ≤ 64) := ⟨by rw [HLm.out]; omega⟩
                have HA2 : Aside0 (∀ l ∈ Ls', l.length ≤ 1000) := ⟨fun L hL => by have := HPL'.out.few L hL; omega⟩
                have HA3 : Aside0 (∀ l ∈ Ls', ∀ g ∈ l, g.f2.length ≤ 1000) := ⟨fun L hL g hg => by have := (HPL'.out.items L hL g hg).2; omega⟩
                obtain ⟨A7, c7, rfl⟩ := Kd.N_slice HN.out
                have HIz := Aside0.mk (HI.out.below HZ.out)
                go_wp2_with (first
                  | (go_at_call 22; (with_reducible refine (all_in W.heap.size p g vs' Ls' (wrap64 (cnt + 1)) F' _ (HI.out.below (by repeat (with_reducible first | exact HZ.out | apply pw_below_drewN | apply below_drew1))) HA1.out HA2.out HA3.out).mono ?_); rintro e w9 ⟨v9, rfl, hn, hb⟩; rw [HFK.out] at hn; have HN9 := Aside0.mk hn; have HZ9 : Aside0 (Below wr.heap.size wr w9) := ⟨below_step (W := _) (by repeat (with_reducible first | exact Below.refl _ _ | apply pw_below_drewN | apply below_drew1)) hb⟩; obtain ⟨A9, c9, rfl⟩ := Kd.N_slice hn; clear hn hb)
                  | (go_at_call 11; (with_reducible refine (HSplit.boscagelaw16_Back.calls kb A9 c9 LL (back LL) _ (by first | exact (Kd.N_reads' HN9.out).2.2 | exact Kd.C_below (Kd.N_reads' HN9.out).2.2 (by repeat (with_reducible first | exact Below.refl _ _ | apply pw_below_drewN | apply below_drew1))) (Kd.N_reads' HN9.out).2.1 HKB.out).mono ?_); rintro e w8 ⟨u8, rfl, ho, hb⟩; have HU8 := Aside0.mk (Kd.S_N ho); have HZ8 : Aside0 (Below wr.heap.size wr w8) := ⟨below_step (W := _) (by repeat (with_reducible first | exact HZ9.out | apply pw_below_drewN | apply below_drew1)) hb⟩; obtain ⟨A8, c8, rfl⟩ := Kd.N_slice (Kd.S_N ho); clear ho hb)
                  | (go_at_call 13; (with_reducible refine (HSplit.boscageref16_Same.calls ks A8 c8 (back LL) A7 c7 (back LL) true _ (by first | exact (Kd.N_reads' HU8.out).2.2 | exact Kd.C_below (Kd.N_reads' HU8.out).2.2 (by repeat (with_reducible first | exact Below.refl _ _ | apply pw_below_drewN | apply below_drew1))) (Kd.N_reads' HU8.out).2.1 (Kd.C_below (Kd.N_reads' HN.out).2.2 (by repeat (with_reducible first | exact HZ8.out | apply pw_below_drewN | apply below_drew1))) (Kd.N_reads' HN.out).2.1 HKS.out).mono ?_); rintro e w9 ⟨rfl, ⟨q9, rfl⟩⟩)
                  | (go_at_call 23; (with_reducible refine (steps_made p g vs' (wrap64 (cnt + 1)) _ (HIz.out.below (by repeat (with_reducible first | exact HZ8.out | apply pw_below_drewN | apply below_drew1))).lists).mono ?_); rintro e w9 ⟨rfl, ⟨q9, rfl⟩⟩))
                go_roundg (acts.length + 1 - (kk + 1))
                case measure => omega
                case rel => exact ⟨kk + 1, vs', wvs', Ls', (wrap64 (cnt + 1)), F', by omega, by omega, by omega, by first | rfl | go_num, by go_num, HPL', ⟨HIz.out.below (by repeat (with_reducible first | exact HZ8.out | apply pw_below_drewN | apply below_drew1))⟩, ⟨(HW.out.below HZ.out).below (by repeat (with_reducible first | exact HZ8.out | apply pw_below_drewN | apply below_drew1))⟩, ⟨below_step (below_step HB.out HZ.out) (by repeat (with_reducible first | exact HZ8.out | apply pw_below_drewN | apply below_drew1))⟩⟩
        · have HOF := Aside0.mk (show ¬ (0 ≤ i ∧ i < (vs.length : Int)) by rw [HIq.out.len, HPL.out.len]; exact hi)
          obtain ⟨b0, hb0⟩ : ∃ b, b = decide (0 ≤ i) := ⟨_, rfl⟩
          obtain ⟨b1, hb1⟩ : ∃ b, b = decide (i < (m : Int)) := ⟨_, rfl⟩
          have hbb : (b0 && b1) = false := by rw [hb0, hb1]; rw [← Bool.decide_and]; exact decide_eq_false hi
          have f0 := hb0.symm
          have f1 := hb1.symm
          clear hi hb0 hb1
          have HFB := Aside0.mk hbb
          clear hbb
          go_cut [12] (fun s12 wc => s12 = .bool false ∧ ∃ q, wc = wq.drewN q)
          case first =>
            cases b0 with
            | false =>
              clear f1
              go_wp2
              go_meet
              case rel => exact ⟨rfl, by first | exact ⟨_, rfl⟩ | exact ⟨0, rfl⟩⟩
            | true =>
              have f2 : decide (i < (m : Int)) = false := by rw [f1]; simpa using HFB.out
              clear f1
              go_wp2
              go_meet
              case rel => exact ⟨rfl, by first | exact ⟨_, rfl⟩ | exact ⟨0, rfl⟩⟩
          case rest =>
          clear HFB f0 f1
          obtain ⟨rfl, q0, rfl⟩ := hcut
          go_upto_if 64 with (first | (go_at_call 18; (with_reducible refine (among2_c d kq HKQ.out _).mono ?_); rintro e w1 ⟨rfl, ⟨j1, rfl⟩⟩))
          generalize hz : wq.drewN _ = w4
          have HB4 : Aside0 (Below W.heap.size W w4) := ⟨hz ▸ pw_below_drewN HBq.out _⟩
          have HI4 : Aside0 (IsM w4 W.heap.size p g vs Ls cnt F) := ⟨hz ▸ HIq.out.drewN _⟩
          have HW4 : Aside0 (Wr w4 W.heap.size gw wvs Ls F) := ⟨hz ▸ HWq.out.drewN _⟩
          have HA4 : Aside0 (w4.heap[ga]? = some (.cells #[.int .i64 d, .int .i64 i, .slice A2 l.length c2] 52 (0, 0))) := ⟨hz ▸ HAq.out⟩
          replace a0 : w4.cell? ⟨ga, 0, none⟩ = _ := (blk_cell HA4.out 0).trans (show _ = some (Value.int .i64 d) from rfl)
          replace a1 : w4.cell? ⟨ga, 1, none⟩ = _ := (blk_cell HA4.out 1).trans (show _ = some (Value.int .i64 i) from rfl)
          replace a2 : w4.cell? ⟨ga, 2, none⟩ = _ := (blk_cell HA4.out 2).trans (show _ = some (Value.slice A2 l.length c2) from rfl)
          clear hz HBq HIq HWq HAq
          (try simp only [Act.put, List.setIfInBounds_toArray, List.set_cons_zero, List.set_cons_succ])
          go_cut [9] (fun s9 wc => ∃ (vs' wvs' : List Value) (Ls' : List (List S35)) (F' : Nat → Prop), s9 = .int .i64 cnt ∧ Aside0 (Pl (kk + 1) m Ls') ∧ Aside0 (IsM wc W.heap.size p g vs' Ls' cnt F') ∧ Aside0 (Wr wc W.heap.size gw wvs' Ls' F') ∧ Aside0 (Below W.heap.size W wc))
          case first =>
            rcases hkq : kq with _ | _ | q
            · subst hkq
              go_upto_region 16 with (fail)
              refine start_ (n := 9) (S := fun w' => w'.cell? ⟨ga, 1, none⟩ = some (.int .i64 i) ∧ w'.cell? ⟨ga, 2, none⟩ = some (.slice A2 l.length c2)) (ds := []) #[false, false, false, false, false, false, false, false, false] (by kernel_rfl) rfl rfl ⟨a1, a2⟩ (fun hHeld => ?_)
              have HZ := Aside0.mk (show Below w4.heap.size w4 w4.drew from below_drew1 (Below.refl _ _))
              generalize w4.drew = w5 at HZ hHeld ⊢
              refine pure_ (i := 0) (N := some 65) (v := ?_) (a' := ?_) #[true, false, false, false, false, false, false, false, false] rfl rfl (by kernel_rfl) (fun _ _ _ h => h) (Or.inl ⟨by rfl, ?_⟩) ?_ ?_
              rotate_left
              · intro w'
                go_simp
                with_reducible rfl
              rotate_left
              · (simp only [Act.put, List.setIfInBounds_toArray, List.set_cons_zero, List.set_cons_succ, i64_w, i32_w])
                rfl
              refine pure_ (i := 1) (N := some 66) (v := ?_) (a' := ?_) #[true, true, false, false, false, false, false, false, false] rfl rfl (by kernel_rfl) (fun _ _ _ h => h) (Or.inl ⟨by rfl, ?_⟩) ?_ ?_
              rotate_left
              · intro w'
                go_simp
                with_reducible rfl
              rotate_left
              · (simp only [Act.put, List.setIfInBounds_toArray, List.set_cons_zero, List.set_cons_succ, i64_w, i32_w])
                rfl
              refine pure_ (i := 3) (N := some 68) (v := ?_) (a' := ?_) #[true, true, false, true, false, false, false, false, false] rfl rfl (by kernel_rfl) (fun _ _ _ h => h) (Or.inl ⟨by rfl, ?_⟩) ?_ ?_
              rotate_left
              · intro w'
                go_simp
                with_reducible rfl
              rotate_left
              · (simp only [Act.put, List.setIfInBounds_toArray, List.set_cons_zero, List.set_cons_succ, i64_w, i32_w])
                rfl
              refine pure_ (i := 7) (N := some 72) (v := ?_) (a' := ?_) #[true, true, false, true, false, false, false, true, false] rfl rfl (by kernel_rfl) (fun _ _ _ h => h) (Or.inl ⟨by rfl, ?_⟩) ?_ ?_
              rotate_left
              · intro w'
                go_simp
                with_reducible rfl
              rotate_left
              · (simp only [Act.put, List.setIfInBounds_toArray, List.set_cons_zero, List.set_cons_succ, i64_w, i32_w])
                rfl
              refine take_ (i := 2) (N := some 67) (v := ?_) (a' := ?_) #[true, true, true, true, false, false, false, true, false] rfl rfl (by kernel_rfl) (fun _ _ _ h => h) (Or.inl ⟨by rfl, ?_⟩) hHeld ?_ ?_
              rotate_left
              · rintro w' ⟨s0, s1⟩
                go_simp
                with_reducible rfl
              rotate_left
              · (simp only [Act.put, List.setIfInBounds_toArray, List.set_cons_zero, List.set_cons_succ, i64_w, i32_w])
                rfl
              refine take_ (i := 4) (N := some 69) (v := ?_) (a' := ?_) #[true, true, true, true, true, false, false, true, false] rfl rfl (by kernel_rfl) (fun _ _ _ h => h) (Or.inl ⟨by rfl, ?_⟩) hHeld ?_ ?_
              rotate_left
              · rintro w' ⟨s0, s1⟩
                go_simp
                with_reducible rfl
              rotate_left
              · (simp only [Act.put, List.setIfInBounds_toArray, List.set_cons_zero, List.set_cons_succ, i64_w, i32_w])
                rfl
              refine one_ (i := 5) (N := some 70) #[true, true, true, true, true, true, false, true, false] rfl rfl (by kernel_rfl) (by decide) (fun K hK => ?_)
              refine goes_ Try.func9 (by kernel_rfl) rfl #[.slice A2 l.length c2] (by rfl) rfl rfl (by (try simp only [List.map_toArray, List.map_cons, List.map_nil]); first | done | rfl | (simp only [List.length_drop, List.length_take]; rfl)) ?_
              refine (HSplit.boscagelaw16_Give.calls kg A2 c2 l (give l) _ (Kd.C_below HCL.out (below_step HB4.out HZ.out)) HLC.out HKG.out).mono ?_
              rintro e w6 ⟨uw6, rfl, ho, hb⟩
              refine ⟨_, rfl, ?_⟩
              have HU := Aside0.mk (Kd.S_N (Kd.S_bound ho))
              have HZ6 := Aside0.mk (below_step HZ.out hb)
              have HSZ := Aside0.mk (show w4.heap.size ≤ w5.heap.size from HZ.out.size)
              obtain ⟨A6, c6, rfl⟩ := Kd.N_slice HU.out
              have b1 := pw_cell_below HZ6.out a1
              have b2 := pw_cell_below HZ6.out a2
              clear ho hb
              refine hK.out _ _ ⟨b1, b2⟩ (fun hHeld => ?_)
              clear hK K
              refine norm_ (a' := ?_) ?_ ?_
              rotate_left
              · show Act.put _ (some 70) _ = _
                (simp only [Act.put, List.setIfInBounds_toArray, List.set_cons_zero, List.set_cons_succ, i64_w, i32_w])
                rfl
              refine one_ (i := 6) (N := some 71) #[true, true, true, true, true, true, true, true, false] rfl rfl (by kernel_rfl) (by decide) (fun K hK => ?_)
              refine goes_ Try.func19 (by kernel_rfl) rfl #[.pointer (some ⟨p, 0, none⟩), .int .i64 i, .slice A6 (give l).length c6] (by rfl) rfl rfl (by (try simp only [List.map_toArray, List.map_cons, List.map_nil]); first | done | rfl | (simp only [List.length_drop, List.length_take]; rfl)) ?_
              refine (push_off _ i 2 _ _ (off_out _ p g vs cnt i (HI4.out.below HZ6.out).lists HOF.out)).mono ?_
              rintro e w7 ⟨rfl, ⟨q7, rfl⟩⟩
              refine ⟨_, rfl, ?_⟩
              have HZ7 := Aside0.mk (pw_below_drewN HZ6.out q7)
              have b1' : (World.drewN w6 q7).cell? ⟨ga, 1, none⟩ = some (.int .i64 i) := b1
              have b2' : (World.drewN w6 q7).cell? ⟨ga, 2, none⟩ = some (.slice A2 l.length c2) := b2
              clear b1 b2 a1 a2
              generalize World.drewN w6 q7 = w7 at HZ7 b1' b2' ⊢
              refine hK.out _ _ ⟨b1', b2'⟩ (fun hHeld => ?_)
              clear hK K
              refine norm_ (a' := ?_) ?_ ?_
              rotate_left
              · show Act.put _ (some 71) _ = _
                (simp only [Act.put, List.setIfInBounds_toArray, List.set_cons_zero, List.set_cons_succ, i64_w, i32_w])
                rfl
              refine pure_ (i := 8) (N := some 73) (v := ?_) (a' := ?_) #[true, true, true, true, true, true, true, true, true] rfl rfl (by kernel_rfl) (fun _ _ _ h => h) (Or.inl ⟨by rfl, ?_⟩) ?_ ?_
              rotate_left
              · intro w'
                go_simp
                with_reducible rfl
              rotate_left
              · (simp only [Act.put, List.setIfInBounds_toArray, List.set_cons_zero, List.set_cons_succ, i64_w, i32_w])
                rfl
              refine done_ (by kernel_rfl) ?_

              clear hHeld b1' b2'
              go_wp2
              go_meet
              case rel => exact ⟨vs, wvs, Ls, F, rfl, ⟨HPL.out.next⟩, ⟨HI4.out.below (by repeat (with_reducible first | exact HZ7.out | apply pw_below_drewN | apply below_drew1))⟩, ⟨HW4.out.below (by repeat (with_reducible first | exact HZ7.out | apply pw_below_drewN | apply below_drew1))⟩, ⟨below_step HB4.out (by repeat (with_reducible first | exact HZ7.out | apply pw_below_drewN | apply below_drew1))⟩⟩
            · subst hkq
              go_upto_region 21 with (first | (go_at_call 21; (with_reducible refine (grab_off _ i 2 _ (off_out _ p g vs cnt i (HI4.out.lists.below (by repeat (with_reducible first | exact Below.refl _ _ | apply pw_below_drewN | apply below_drew1))) HOF.out)).mono ?_); rintro e w5 ⟨rfl, ⟨q5, rfl⟩⟩))
              generalize hz : w4.drewN _ = w5
              have HZ5 : Aside0 (Below w4.heap.size w4 w5) := ⟨hz ▸ pw_below_drewN (Below.refl _ _) _⟩
              clear hz a0 a1 a2
              go_upto_region 22 with (fail)
              obtain ⟨w6, hw⟩ : ∃ w, w = w5.alloc (.cells #[] 74) := ⟨_, rfl⟩
              obtain ⟨gz, hgz⟩ : ∃ g, g = w5.heap.size := ⟨_, rfl⟩
              rw [← hw, ← hgz]
              have HZ6 : Aside0 (Below w4.heap.size w4 w6) := ⟨by rw [hw]; exact below_step HZ5.out (below_alloc (Below.refl _ _) _)⟩
              clear hw hgz
              go_wp2_with (first
                | (go_at_call 11; (with_reducible refine (back_none _).mono ?_); rintro e w8 ⟨⟨A8, c8, rfl⟩, hb⟩; have HZ8 : Aside0 (Below w4.heap.size w4 w8) := ⟨below_step (W := _) (by repeat (with_reducible first | exact HZ6.out | apply pw_below_drewN | apply below_drew1)) hb⟩; clear hb)
                | (go_at_call 13; (with_reducible refine (same_none _ _ _ _ _).mono ?_); rintro e w9 ⟨rfl, ⟨q9, rfl⟩⟩))
              go_meet
              case rel => exact ⟨vs, wvs, Ls, F, rfl, ⟨HPL.out.next⟩, ⟨HI4.out.below (by repeat (with_reducible first | exact HZ8.out | apply pw_below_drewN | apply below_drew1))⟩, ⟨HW4.out.below (by repeat (with_reducible first | exact HZ8.out | apply pw_below_drewN | apply below_drew1))⟩, ⟨below_step HB4.out (by repeat (with_reducible first | exact HZ8.out | apply pw_below_drewN | apply below_drew1))⟩⟩
            · have := HKL.out; omega
          case rest =>
            clear HKQ HKL HKG HCL HLC HNF
            obtain ⟨vs', wvs', Ls', F', rfl, HPL', HI, HW, HB⟩ := hcut
            have HLm := Aside0.mk HPL'.out.len
            go_wp2_with (first | ((with_reducible refine gate_dst (N := 120) rfl ?_); refine Kd.N_lit k74 (w0 := wc) wc.heap.size 74 ?hg (N' := 120) ?hd (xs := ([] : List S74)) (inner := []) (ok := fun _ => True) (okp := fun _ => False) ?hr (Reps.none _ _) (fun _ hk => hk.elim) trivial ?hB ?hb (by simp) ?_; (case hd => rfl); (case hg => rfl); (case hr => first | (go_simp; done) | (go_simp; rfl)); (case hB => exact (by repeat (with_reducible first | exact Below.refl _ _ | apply pw_below_drewN | apply below_drew1))); (case hb => exact (show Below wc.heap.size wc _ from (by repeat (with_reducible first | exact Below.refl _ _ | apply pw_below_drewN | apply below_drew1))).size); intro v9 w9 hn hb9 hg9 hat; have HN := Aside0.mk hn; have HZ := Aside0.mk hb9; clear hn hb9 hg9 hat))
            go_loopg [17, 18] (m + 1) (fun gg s17 s18 wr2 => ∃ t : Nat, t ≤ m ∧ m + 1 - t ≤ gg ∧ s18 = .int .i64 (t : Int) ∧ Aside0 (Kd.N k74 74 wr2 wc.heap.size (fun _ => True) s17 (back (Ls'.take t).flatten)) ∧ Aside0 (Below wc.heap.size wc wr2))
            case atStart => exact ⟨0, Nat.zero_le _, by omega, rfl, ⟨by (with_reducible repeat (first | apply Kd.N_drewN | apply Kd.N_drew)); exact HN.out⟩, ⟨(by repeat (with_reducible first | exact HZ.out | apply pw_below_drewN | apply below_drew1))⟩⟩
            case round =>
              clear HN HZ
              obtain ⟨t, htm, hg2, rfl, HN, HZ⟩ := hrel
              by_cases ht : t < m
              · have hti : (t : Int) < (m : Int) := by omega
                obtain ⟨M, hM⟩ : ∃ M, Ls'[t]? = some M := ⟨_, List.getElem?_eq_getElem (by rw [HLm.out]; exact ht)⟩
                obtain ⟨wv', hwv'⟩ : ∃ wv, wvs'[t]? = some wv := ⟨_, List.getElem?_eq_getElem (by rw [HW.out.len, HLm.out]; exact ht)⟩
                have HVW := Aside0.mk (HW.out.ws t wv' M hwv' hM)
                obtain ⟨Aw, cw, rfl⟩ := Kd.V_slice HVW.out
                have a3 := pw_cell_below HZ.out (HW.out.get hwv').1
                have HML := Aside0.mk (show M.length ≤ 620 by have := HPL'.out.few M (List.mem_of_getElem? hM); omega)
                have HTL := Aside0.mk (show (Ls'.take t).flatten.length ≤ 620 * 4 by
                  have h1 := flatten_len (kk := kk + 1) (Ls'.take t) (fun L hL => HPL'.out.few L (List.mem_of_mem_take hL))
                  have h2 : (Ls'.take t).length ≤ 4 := by rw [List.length_take]; omega
                  have h3 : 20 * (kk + 1) * (Ls'.take t).length ≤ 620 * 4 := Nat.mul_le_mul (by omega) h2
                  omega)
                have HTK := Aside0.mk (show (Ls'.take (t + 1)).flatten = (Ls'.take t).flatten ++ M by rw [List.take_add_one, hM]; simp)
                clear hM hwv'
                go_wp2_with (first | ((with_reducible refine gate_builtin (b := .append) (xs := #[.tmp 126, .tmp 130]) rfl ?_); at_builtin; refine Kd.N_append_rows k74 (w0 := wc) wc.heap.size rfl (.tmp 126) (.tmp 130) 22 74 (.agg #[(.int .i64 0), (.int .i64 0), (.slice none 0 0)]) 40 rfl Try.underlying22 HSplit.info74 rfl (by decide) (by omega) u17 (back (Ls'.take t).flatten) (back M) Aw _ cw (fun _ => True) (fun k => k < wc.heap.size) rfl rfl (by (with_reducible repeat (first | apply Kd.N_drewN | apply Kd.N_drew)); exact HN.out) (Kd.F_mono (Kd.F_below (Kd.F_bound (Kd.V_F HVW.out)) (by repeat (with_reducible first | exact HZ.out | apply pw_below_drewN | apply below_drew1))) (fun k hk => hk.2)) (fun k hk => ⟨trivial, fun he => by have := Kd.N_base HN.out k he.symm; omega⟩) (fun _ _ => trivial) (by repeat (with_reducible first | exact HZ.out | apply pw_below_drewN | apply below_drew1)) (show Below wc.heap.size wc _ from (by repeat (with_reducible first | exact HZ.out | apply pw_below_drewN | apply below_drew1))).size ?hlen ?_; (case hlen => rw [HSplit.back_len, HSplit.back_len]; have := HTL.out; have := HML.out; omega); intro v9 w9 hn hb9 hg9 hat; have HN9 := Aside0.mk hn; have HZ9 := Aside0.mk hb9; clear hn hb9 hg9 hat))
                go_roundg (m + 1 - (t + 1))
                case measure => omega
                case rel => exact ⟨t + 1, by omega, by omega, by go_num, ⟨by rw [HTK.out, back_app]; (with_reducible repeat (first | apply Kd.N_drewN | apply Kd.N_drew)); exact HN9.out⟩, ⟨(by repeat (with_reducible first | exact HZ9.out | apply pw_below_drewN | apply below_drew1))⟩⟩
              · have hti : ¬ (t : Int) < (m : Int) := by omega
                obtain rfl : t = m := by omega
                have hfl : (Ls'.take t).flatten = Ls'.flatten := by rw [List.take_of_length_le (by rw [HLm.out]; exact Nat.le_refl _)]
                rw [hfl] at HN
                have hLL : Ls'.flatten.length ≤ 620 * 4 := by
                  have h1 := flatten_len (kk := kk + 1) Ls' HPL'.out.few
                  rw [HLm.out] at h1
                  have h3 : 20 * (kk + 1) * t ≤ 620 * 4 := Nat.mul_le_mul (by omega) hm4
                  omega
                have hLi : ∀ g ∈ Ls'.flatten, g.f2.length ≤ 20 := by
                  intro g hg
                  obtain ⟨L, hL, hg⟩ := List.mem_flatten.1 hg
                  exact (HPL'.out.items L hL g hg).2
                have hfk := HPL'.out.flat
                obtain ⟨LL, hLe⟩ : ∃ LL, LL = Ls'.flatten := ⟨_, rfl⟩
                rw [← hLe] at HN hLL hLi hfk
                clear hLe hfl
                have HFK := Aside0.mk hfk
                obtain ⟨kb, hkb⟩ := HSplit.back_ev LL (by omega) (fun g hg => by have := hLi g hg; omega)
                have HKB := Aside0.mk (hkb kb (Nat.le_refl _))
                obtain ⟨ks, hks⟩ := HSplit.same_ev (back LL) (by rw [HSplit.back_len]; omega) (HSplit.back_in LL (fun g hg => by have := hLi g hg; omega))
                have HKS := Aside0.mk (hks ks (Nat.le_refl _))
                clear hkb hks hLL hLi hfk
                have HA1 : Aside0 (Ls'.length ≤ 64) := ⟨by rw [HLm.out]; omega⟩
                have HA2 : Aside0 (∀ l ∈ Ls', l.length ≤ 1000) := ⟨fun L hL => by have := HPL'.out.few L hL; omega⟩
                have HA3 : Aside0 (∀ l ∈ Ls', ∀ g ∈ l, g.f2.length ≤ 1000) := ⟨fun L hL g hg => by have := (HPL'.out.items L hL g hg).2; omega⟩
                obtain ⟨A7, c7, rfl⟩ := Kd.N_slice HN.out
                have HIz := Aside0.mk (HI.out.below HZ.out)
                go_wp2_with (first
                  | (go_at_call 22; (with_reducible refine (all_in W.heap.size p g vs' Ls' cnt F' _ (HI.out.below (by repeat (with_reducible first | exact HZ.out | apply pw_below_drewN | apply below_drew1))) HA1.out HA2.out HA3.out).mono ?_); rintro e w9 ⟨v9, rfl, hn, hb⟩; rw [HFK.out] at hn; have HN9 := Aside0.mk hn; have HZ9 : Aside0 (Below wr.heap.size wr w9) := ⟨below_step (W := _) (by repeat (with_reducible first | exact Below.refl _ _ | apply pw_below_drewN | apply below_drew1)) hb⟩; obtain ⟨A9, c9, rfl⟩ := Kd.N_slice hn; clear hn hb)
                  | (go_at_call 11; (with_reducible refine (HSplit.boscagelaw16_Back.calls kb A9 c9 LL (back LL) _ (by first | exact (Kd.N_reads' HN9.out).2.2 | exact Kd.C_below (Kd.N_reads' HN9.out).2.2 (by repeat (with_reducible first | exact Below.refl _ _ | apply pw_below_drewN | apply below_drew1))) (Kd.N_reads' HN9.out).2.1 HKB.out).mono ?_); rintro e w8 ⟨u8, rfl, ho, hb⟩; have HU8 := Aside0.mk (Kd.S_N ho); have HZ8 : Aside0 (Below wr.heap.size wr w8) := ⟨below_step (W := _) (by repeat (with_reducible first | exact HZ9.out | apply pw_below_drewN | apply below_drew1)) hb⟩; obtain ⟨A8, c8, rfl⟩ := Kd.N_slice (Kd.S_N ho); clear ho hb)
                  | (go_at_call 13; (with_reducible refine (HSplit.boscageref16_Same.calls ks A8 c8 (back LL) A7 c7 (back LL) true _ (by first | exact (Kd.N_reads' HU8.out).2.2 | exact Kd.C_below (Kd.N_reads' HU8.out).2.2 (by repeat (with_reducible first | exact Below.refl _ _ | apply pw_below_drewN | apply below_drew1))) (Kd.N_reads' HU8.out).2.1 (Kd.C_below (Kd.N_reads' HN.out).2.2 (by repeat (with_reducible first | exact HZ8.out | apply pw_below_drewN | apply below_drew1))) (Kd.N_reads' HN.out).2.1 HKS.out).mono ?_); rintro e w9 ⟨rfl, ⟨q9, rfl⟩⟩)
                  | (go_at_call 23; (with_reducible refine (steps_made p g vs' cnt _ (HIz.out.below (by repeat (with_reducible first | exact HZ8.out | apply pw_below_drewN | apply below_drew1))).lists).mono ?_); rintro e w9 ⟨rfl, ⟨q9, rfl⟩⟩))
                go_roundg (acts.length + 1 - (kk + 1))
                case measure => omega
                case rel => exact ⟨kk + 1, vs', wvs', Ls', cnt, F', by omega, by omega, by omega, by first | rfl | go_num, by go_num, HPL', ⟨HIz.out.below (by repeat (with_reducible first | exact HZ8.out | apply pw_below_drewN | apply below_drew1))⟩, ⟨(HW.out.below HZ.out).below (by repeat (with_reducible first | exact HZ8.out | apply pw_below_drewN | apply below_drew1))⟩, ⟨below_step (below_step HB.out HZ.out) (by repeat (with_reducible first | exact HZ8.out | apply pw_below_drewN | apply below_drew1))⟩⟩

      · have hlt30 : ¬ (kk : Int) < 30 := by omega
        go_wp2_with ((go_at_call 15; (with_reducible refine (HSplit.works_true _).mono ?_); rintro x w9 ⟨rfl, hb⟩; have HW := Aside0.mk hb; clear hb))
        go_ret
        exact ⟨rfl, below_step (by repeat (with_reducible first | exact HB0.out | apply pw_below_drewN | apply below_drew1)) HW.out⟩
    · have hlt : ¬ (kk : Int) < (acts.length : Int) := by omega
      go_wp2_with ((go_at_call 15; (with_reducible refine (HSplit.works_true _).mono ?_); rintro x w9 ⟨rfl, hb⟩; have HW := Aside0.mk hb; clear hb))
      go_ret
      exact ⟨rfl, below_step (by repeat (with_reducible first | exact HB0.out | apply pw_below_drewN | apply below_drew1)) HW.out⟩

theorem LimboPlays (n : Int) (A : Option Addr) (cap : Nat) (acts : List ActV) (W : World) (hn : (Lit.int .u8 n).wf = true) (hr : acts.length ≤ cap ∧ Kd.C kA W A acts.length acts) :
    Calls Try.prog 5 #[.int .u8 n, .slice A acts.length cap] W fun e w' => e = .returned (.bool true) ∧ Below W.heap.size W w' := by
  have hb := bounds_u8 hn
  exact plays_walk n A cap acts W hb.1 hb.2 hr.2 (n % 5).toNat (by omega) (by omega)

end Go.Proofs.Ytjfogghpiclooaa.Li
