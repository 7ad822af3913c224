/- Lists in use: what they hold, who owns what; the walks of Grab, Push and All. -/
import Derived.Test.YtjfogghpiclooaaLimQ
import Derived.Test.YtjfogghpiclooaaLimW2
namespace Go.Proofs.Ytjfogghpiclooaa.Li
open Go.RowKit Go.Proofs.YtjfogghpiclooaaW.PrintWords Go.Proofs.YtjfogghpiclooaaW.PrintLast Go.Proofs.YtjfogghpiclooaaW.PrintMore
open HSplit (S35 S43 S74 S75 k35 k43 k74 k75 kept back give)
set_option linter.unusedVariables false
set_option linter.unusedSimpArgs false

/-- From W to w: nothing of W but the blocks of S was turned. -/
structure Mv (W w : World) (S : Nat → Prop) : Prop where
  os : w.os = W.os
  tape : w.tape = W.tape
  output : w.output = W.output
  size : W.heap.size ≤ w.heap.size
  block : ∀ k, k < W.heap.size → ¬ S k → w.heap[k]? = W.heap[k]?
section
variable {W w w2 : World} {S T : Nat → Prop}
theorem Mv.refl (W : World) (S : Nat → Prop) : Mv W W S := ⟨rfl, rfl, rfl, Nat.le_refl _, fun _ _ _ => rfl⟩
theorem Mv.of_below (h : Below W.heap.size W w) (S : Nat → Prop) : Mv W w S := ⟨h.os, h.tape, h.output, h.size, fun k hk _ => h.block k hk⟩
theorem Mv.mono (h : Mv W w S) (hs : ∀ k, S k → T k) : Mv W w T := ⟨h.os, h.tape, h.output, h.size, fun k hk hn => h.block k hk fun hh => hn (hs k hh)⟩
theorem Mv.trans (h : Mv W w S) (k : Mv w w2 T) (hs : ∀ i, T i → S i ∨ W.heap.size ≤ i) : Mv W w2 S :=
  ⟨k.os.trans h.os, k.tape.trans h.tape, k.output.trans h.output, Nat.le_trans h.size k.size, fun i hi hn => (k.block i (Nat.lt_of_lt_of_le hi h.size) fun ht => (hs i ht).elim hn fun h2 => by omega).trans (h.block i hi hn)⟩
theorem Mv.set (h : Mv W w S) {b j : Nat} (hb : S b ∨ W.heap.size ≤ b) (v : Value) : Mv W (w.setCell ⟨b, j, none⟩ v) S :=
  h.trans (T := fun k => k = b) ⟨rfl, rfl, rfl, by simp, fun k _ hn => Below.heap_setCell w ⟨b, j, none⟩ v k hn⟩ fun i hi => by rw [hi]; exact hb
theorem Mv.grown {row : Option Nat} (h : Mv W w S) (k : w.grownBy w2 row) (hr : ∀ i, row = some i → S i ∨ W.heap.size ≤ i) : Mv W w2 S :=
  h.trans (T := fun i => row = some i) ⟨k.os, k.tape, k.output, k.size, fun i hi hn => k.block i hi fun he => hn he.symm⟩ hr
theorem Mv.below {B : Nat} {W0 : World} (h : Below B W0 W) (k : Mv W w S) (hB : B ≤ W.heap.size) (hs : ∀ i, S i → B ≤ i) : Below B W0 w :=
  h.trans ⟨k.os, k.tape, k.output, k.size, fun i hi => k.block i (by omega) fun hh => by have := hs i hh; omega⟩
end

/-- Lists in use, at block p (their row at block g): list j is vs[j], and holds Ls[j]; F: the blocks that are theirs. -/
structure IsM (W : World) (b p g : Nat) (vs : List Value) (Ls : List (List S35)) (n : Int) (F : Nat → Prop) : Prop where
  lists : IsL W p g vs n
  len : vs.length = Ls.length
  base : ∀ k, F k → b ≤ k ∧ k < W.heap.size
  fp : F p
  fg : F g
  own : ∃ oks : Nat → Nat → Prop, (∀ j v L, vs[j]? = some v → Ls[j]? = some L → Kd.N k35 35 W b (oks j) v L) ∧ (∀ j k, oks j k → F k ∧ k ≠ p ∧ k ≠ g) ∧ ∀ i j k, i ≠ j → oks i k → ¬ oks j k
section
variable {W w : World} {b p g : Nat} {vs : List Value} {Ls : List (List S35)} {n : Int} {F S : Nat → Prop}
theorem IsM.step (h : IsM W b p g vs Ls n F) (hs : W.heap.size ≤ w.heap.size) (hm : ∀ k, F k → w.heap[k]? = W.heap[k]?) : IsM w b p g vs Ls n F := by
  obtain ⟨oks, h1, h2, h3⟩ := h.own
  exact ⟨⟨h.lists.ne, (hm p h.fp).trans h.lists.head, (hm g h.fg).trans h.lists.row⟩, h.len, fun k hk => ⟨(h.base k hk).1, Nat.lt_of_lt_of_le (h.base k hk).2 hs⟩, h.fp, h.fg, oks, fun j v L hv hL => Kd.N_step (h1 j v L hv hL) fun k hk _ => hm k (h2 j k hk).1, h2, h3⟩
theorem IsM.mv (h : IsM W b p g vs Ls n F) (hm : Mv W w S) (hn : ∀ k, F k → ¬ S k) : IsM w b p g vs Ls n F := h.step hm.size fun k hk => hm.block k (h.base k hk).2 (hn k hk)
theorem IsM.below (h : IsM W b p g vs Ls n F) (hb : Below W.heap.size W w) : IsM w b p g vs Ls n F := h.step hb.size fun k hk => hb.block k (h.base k hk).2
theorem IsM.drewN (h : IsM W b p g vs Ls n F) (k : Nat) : IsM (W.drewN k) b p g vs Ls n F := h.below (pw_below_drewN (Below.refl _ _) k)
theorem IsM.drew (h : IsM W b p g vs Ls n F) : IsM W.drew b p g vs Ls n F := h.below (below_drew1 (Below.refl _ _))
theorem IsM.far (h : IsM W b p g vs Ls n F) {c : Nat} (hc : ¬ F c) (j : Nat) (v : Value) : IsM (W.setCell ⟨c, j, none⟩ v) b p g vs Ls n F :=
  h.step (by simp) fun k hk => Below.heap_setCell W ⟨c, j, none⟩ v k (by rintro rfl; exact hc hk)
theorem IsM.count (h : IsM W b p g vs Ls n F) (m : Int) : IsM (W.setCell ⟨p, 1, none⟩ (.int .i64 m)) b p g vs Ls m F := by
  obtain ⟨oks, h1, h2, h3⟩ := h.own
  exact ⟨h.lists.count m, h.len, fun k hk => ⟨(h.base k hk).1, by simpa using (h.base k hk).2⟩, h.fp, h.fg, oks, fun j v L hv hL => Kd.N_far (p := ⟨p, 1, none⟩) (h1 j v L hv hL) (fun k hk => (h2 j k hk).2.1) _, h2, h3⟩
/-- List j is taken. -/
theorem IsM.take (h : IsM W b p g vs Ls n F) (j : Nat) : IsM (W.setCell ⟨g, j, none⟩ (.slice none 0 0)) b p g (vs.set j (.slice none 0 0)) (Ls.set j []) n F := by
  obtain ⟨oks, h1, h2, h3⟩ := h.own
  refine ⟨h.lists.put j _, by simpa using h.len, fun k hk => ⟨(h.base k hk).1, by simpa using (h.base k hk).2⟩, h.fp, h.fg, fun i k => i ≠ j ∧ oks i k, fun i v L hv hL => ?_, fun i k hk => h2 i k hk.2, fun i i' k hi hk hk' => h3 i i' k hi hk.2 hk'.2⟩
  by_cases hij : i = j
  · subst hij
    rw [List.getElem?_set] at hv hL
    simp only [if_true] at hv hL
    split at hv <;> split at hL <;> simp_all
    subst hv hL
    exact Kd.N_nil _ _ _ _ _
  · rw [List.getElem?_set_ne (fun e => hij e.symm)] at hv hL
    exact Kd.N_mono (Kd.N_far (p := ⟨g, j, none⟩) (h1 i v L hv hL) (fun k hk => (h2 i k hk).2.2) _) fun k hk => ⟨hij, hk⟩
/-- List j is another row now, of blocks that were its own, or are new. -/
theorem IsM.put {oks : Nat → Nat → Prop} (h : IsL W p g vs n) (hlen : vs.length = Ls.length) (hF : ∀ k, F k → b ≤ k ∧ k < W.heap.size) (hp : F p) (hg : F g)
    (h1 : ∀ j v L, vs[j]? = some v → Ls[j]? = some L → Kd.N k35 35 W b (oks j) v L) (h2 : ∀ j k, oks j k → F k ∧ k ≠ p ∧ k ≠ g) (h3 : ∀ i j k, i ≠ j → oks i k → ¬ oks j k)
    (j : Nat) (hw : Mv W w (oks j)) {v : Value} {L : List S35} (hN : Kd.N k35 35 w b (fun k => oks j k ∨ W.heap.size ≤ k) v L) :
    IsM (w.setCell ⟨g, j, none⟩ v) b p g (vs.set j v) (Ls.set j L) n (fun k => F k ∨ (W.heap.size ≤ k ∧ k < w.heap.size)) := by
  have hpk : ¬ oks j p := fun hk => (h2 j p hk).2.1 rfl
  have hgk : ¬ oks j g := fun hk => (h2 j g hk).2.2 rfl
  have hl : IsL w p g vs n := ⟨h.ne, (hw.block p h.lt_p hpk).trans h.head, (hw.block g h.lt_g hgk).trans h.row⟩
  have hbW : b ≤ W.heap.size := Nat.le_trans (hF p hp).1 (Nat.le_of_lt h.lt_p)
  refine ⟨hl.put j v, by simpa using hlen, fun k hk => ?_, .inl hp, .inl hg, fun i k => oks i k ∨ (i = j ∧ W.heap.size ≤ k ∧ k < w.heap.size), fun i v' L' hv hL => ?_, fun i k hk => ?_, fun i i' k hi hk hk' => ?_⟩
  · rcases hk with hk | hk
    · exact ⟨(hF k hk).1, by have := (hF k hk).2; have := hw.size; simp; omega⟩
    · exact ⟨by omega, by simp; omega⟩
  · by_cases hij : i = j
    · subst hij
      rw [List.getElem?_set] at hv hL
      simp only [if_true] at hv hL
      split at hv <;> split at hL <;> simp_all
      subst hv hL
      refine Kd.N_far (p := ⟨g, i, none⟩) (Kd.N_mono (Kd.N_bound hN) fun k hk => ?_) (fun k hk => ?_) _
      · rcases hk.1 with h4 | h4
        · exact .inl h4
        · exact .inr ⟨h4, hk.2⟩
      · rcases hk with hk | hk
        · exact (h2 i k hk).2.2
        · have := h.lt_g
          show k ≠ g
          omega
    · rw [List.getElem?_set_ne (fun e => hij e.symm)] at hv hL
      refine Kd.N_far (p := ⟨g, j, none⟩) (Kd.N_mono (Kd.N_step (h1 i v' L' hv hL) fun k hk hlt => hw.block k hlt (h3 i j k hij hk)) fun k hk => .inl hk) (fun k hk => ?_) _
      rcases hk with hk | hk
      · exact (h2 i k hk).2.2
      · exact absurd hk.1 hij
  · rcases hk with hk | ⟨rfl, hk1, hk2⟩
    · exact ⟨.inl (h2 i k hk).1, (h2 i k hk).2⟩
    · have := h.lt_p
      have := h.lt_g
      exact ⟨.inr ⟨hk1, hk2⟩, by omega, by omega⟩
  · rcases hk with hk | ⟨e, hk1, hk2⟩ <;> rcases hk' with hk' | ⟨e', hk1', hk2'⟩
    · exact h3 i i' k hi hk hk'
    · have := (hF k (h2 i k hk).1).2
      omega
    · have := (hF k (h2 i' k hk').1).2
      omega
    · exact hi (e.trans e'.symm)
theorem IsM.vs_get (h : IsM W b p g vs Ls n F) {j : Nat} (hj : j < vs.length) : ∃ v L, vs[j]? = some v ∧ Ls[j]? = some L := ⟨vs[j], Ls[j]'(h.len ▸ hj), List.getElem?_eq_getElem hj, List.getElem?_eq_getElem (h.len ▸ hj)⟩
/-- What a list holds may be read. -/
theorem IsM.reads (h : IsM W b p g vs Ls n F) {j : Nat} {v : Value} {L : List S35} (hv : vs[j]? = some v) (hL : Ls[j]? = some L) : Kd.V k35 35 W b (fun k => F k ∧ k ≠ p ∧ k ≠ g) v L := by
  obtain ⟨oks, h1, h2, h3⟩ := h.own
  have hN := h1 j v L hv hL
  obtain ⟨A, c, rfl⟩ := Kd.N_slice hN
  exact ⟨A, c, rfl, (Kd.N_reads' hN).2.1, Kd.N_F (Kd.N_mono hN fun k hk => h2 j k hk)⟩
/-- The lists as a row. -/
theorem IsM.row (h : IsM W b p g vs Ls n F) (hm : Ls.length ≤ 64) : Kd.C (Kd.slice 35 k35) W (some ⟨g, 0, none⟩) Ls.length Ls := by
  refine ⟨rfl, by omega, fun hpos => ⟨_, rfl, fun j L hj => ?_⟩⟩
  obtain ⟨hjl, _⟩ := List.getElem?_eq_some_iff.1 hj
  have hjv : j < vs.length := by rw [h.len]; exact hjl
  have hv := List.getElem?_eq_getElem hjv
  obtain ⟨A, c, e, hl, hF⟩ := h.reads hv hj
  refine ⟨[vs[j]], rfl, ⟨A, c, by rw [e], hl, Kd.F_now hF⟩, fun i u hu => ?_⟩
  cases i with
  | zero =>
    have hu' : vs[j] = u := by simpa using hu
    subst hu'
    rw [show (Kd.slice 35 k35).sz = 1 from rfl, Nat.mul_one, Nat.add_zero, add_plain]
    exact (h.lists.get hv).1
  | succ i => simp at hu
end

theorem grab_in (b p g : Nat) (vs : List Value) (Ls : List (List S35)) (n : Int) (F : Nat → Prop) (j : Nat) (v : Value) (L : List S35) (W : World) (h : IsM W b p g vs Ls n F) (hv : vs[j]? = some v) (hL : Ls[j]? = some L) :
    Calls Try.prog 21 #[.pointer (some ⟨p, 0, none⟩), .int .i64 (j : Int)] W fun e w' => e = .returned (.tuple #[v, .int .i64 0]) ∧ IsM w' b p g (vs.set j (.slice none 0 0)) (Ls.set j []) (wrap64 (n + 1)) F ∧ Mv W w' (fun k => k = p ∨ k = g) ∧ Kd.V k35 35 w' b (fun k => F k ∧ k ≠ p ∧ k ≠ g) v L := by
  have hj : j < vs.length := (List.getElem?_eq_some_iff.1 hv).1
  have HS := Aside0.mk (step_in p g vs n j W h.lists hj)
  have HI := Aside0.mk ((h.count (wrap64 (n + 1))).take j)
  have hI1 := (h.count (wrap64 (n + 1))).lists
  have HV := Aside0.mk ((h.count (wrap64 (n + 1))).reads hv hL)
  have HMV := Aside0.mk ((Mv.refl W (fun k => k = p ∨ k = g)).set (j := 1) (.inl (.inl rfl)) (.int .i64 (wrap64 (n + 1))))
  obtain ⟨c0, c1, c2, f1⟩ := hI1.c
  obtain ⟨hc, hf⟩ := hI1.get hv
  have hlt : (j : Int) < (vs.length : Int) := by omega
  have hu := Try.underlying63
  have hne := hI1.ne
  clear h hI1 f1 c1 c2
  obtain ⟨W1, hW1⟩ : ∃ W1, W1 = W.setCell ⟨p, 1, none⟩ (.int .i64 (wrap64 (n + 1))) := ⟨_, rfl⟩
  rw [← hW1] at HS c0 hc hf HI HMV HV
  have HNE := Aside0.mk hne
  clear hW1 hne
  have hpg : p ≠ g := HNE.out
  have hgp : g ≠ p := HNE.out.symm
  go_enter Try.func21, Try.ntmps21
  go_wp2_with (go_at_call 30; (with_reducible refine HS.out.mono ?_); rintro e w1 ⟨rfl, rfl⟩)
  go_ret2
  refine ⟨rfl, ?_, ?_, ?_⟩
  · exact HI.out
  · exact HMV.out.set (.inl (.inr rfl)) _
  · exact Kd.V_map HV.out fun A hA => Kd.F_far (p := ⟨g, j, none⟩) hA (fun k hk => hk.2.2) _

set_option maxHeartbeats 4000000 in
theorem push_in (b p g : Nat) (vs : List Value) (Ls : List (List S35)) (n : Int) (F : Nat → Prop) (j : Nat) (v : Value) (L : List S35) (W : World) (h : IsM W b p g vs Ls n F) (hv : vs[j]? = some v) (hL : Ls[j]? = some L)
    (A : Option Addr) (c : Nat) (l : List S35) (hr : Kd.V k35 35 W b (fun k => ¬ F k) (.slice A l.length c) l) (hl1 : L.length ≤ 1000000) (hl2 : l.length ≤ 1000) (hin : ∀ g ∈ l, g.f2.length ≤ 1000) :
    Calls Try.prog 19 #[.pointer (some ⟨p, 0, none⟩), .int .i64 (j : Int), .slice A l.length c] W fun e w' => e = .returned (.int .i64 0) ∧ ∃ v' F', IsM w' b p g (vs.set j v') (Ls.set j (L ++ kept l)) (wrap64 (n + 1)) F' ∧ Mv W w' F ∧ ∀ k, F' k → F k ∨ W.heap.size ≤ k := by
  have hj : j < vs.length := (List.getElem?_eq_some_iff.1 hv).1
  have HS := Aside0.mk (step_in p g vs n j W h.lists hj)
  obtain ⟨k0, hk0⟩ := HSplit.copied_ev l hl2 hin
  have HCK := Aside0.mk (hk0 k0 (Nat.le_refl _))
  have HLK := Aside0.mk (Nat.le_trans (HSplit.kept_len l) hl2)
  have HLL := Aside0.mk hl1
  have HLC := Aside0.mk (Kd.V_reads' hr).2.1
  have hM := h.count (wrap64 (n + 1))
  have HI := Aside0.mk hM.lists
  have HV := Aside0.mk (Kd.V_map (w1 := W.setCell ⟨p, 1, none⟩ (.int .i64 (wrap64 (n + 1)))) (base' := b) hr fun A hA => Kd.F_far (p := ⟨p, 1, none⟩) hA (fun k hk e => hk (e ▸ h.fp)) _)
  have HMV := Aside0.mk ((Mv.refl W F).set (j := 1) (.inl h.fp) (.int .i64 (wrap64 (n + 1))))
  have HBF := Aside0.mk hM.base
  have HLN := Aside0.mk hM.len
  have HFP := Aside0.mk hM.fp
  have HFG := Aside0.mk hM.fg
  have HBW := Aside0.mk (Nat.le_trans (hM.base p hM.fp).1 (Nat.le_of_lt (hM.base p hM.fp).2))
  obtain ⟨oks, h1, h2, h3⟩ := hM.own
  have HN := Aside0.mk h1
  have HOK := Aside0.mk h2
  have HDJ := Aside0.mk h3
  have HJV := Aside0.mk hv
  have HJL := Aside0.mk hL
  obtain ⟨c0, -, -, -⟩ := hM.lists.c
  obtain ⟨hc, hf⟩ := hM.lists.get hv
  have hlt : (j : Int) < (vs.length : Int) := by omega
  have hu := Try.underlying63
  clear h hM hv hL hr hl1 hl2 hin hk0 h1 h2 h3
  obtain ⟨W1, hW1⟩ : ∃ W1, W1 = W.setCell ⟨p, 1, none⟩ (.int .i64 (wrap64 (n + 1))) := ⟨_, rfl⟩
  rw [← hW1] at HS c0 hc hf HI HMV HV HN HBF HBW
  have HSZ := Aside0.mk (show W1.heap.size = W.heap.size by rw [hW1]; simp)
  clear hW1
  go_enter Try.func19, Try.ntmps19
  go_upto_region 3 with (go_at_call 30; (with_reducible refine HS.out.mono ?_); rintro e W1 ⟨rfl, rfl⟩)
  clear HS
  refine start_ (n := 17) (S := fun w' => w'.cell? ⟨p, 0, none⟩ = some (.slice (some ⟨g, 0, none⟩) vs.length vs.length) ∧ w'.cell? ⟨g, j, none⟩ = some v) (ds := [16]) #[false, false, false, false, false, false, false, false, false, false, false, false, false, false, false, false, false] (by kernel_rfl) rfl rfl ⟨c0, hc⟩ (fun hHeld => ?_)
  replace HI := Aside0.mk HI.out.drew
  replace HV := Aside0.mk (Kd.V_map (base' := b) HV.out fun A hA => Kd.F_drew hA)
  replace HN := Aside0.mk (fun i u M hu hM => Kd.N_drew (HN.out i u M hu hM))
  replace HMV := Aside0.mk (HMV.out.trans (Mv.of_below (below_drew1 (Below.refl _ _)) (fun _ => False)) (fun _ hf => hf.elim))
  replace HBF := Aside0.mk (show ∀ k, F k → b ≤ k ∧ k < W1.drew.heap.size from HBF.out)
  replace HBW := Aside0.mk (show b ≤ W1.drew.heap.size from HBW.out)
  clear c0 hc hf
  generalize W1.drew = w2 at HI HV HN HMV HBF HBW hHeld ⊢
  refine pure_ (i := 0) (N := some 13) (v := ?_) (a' := ?_) #[true, false, false, false, false, false, false, false, false, false, false, false, false, false, false, false, false] rfl rfl (by kernel_rfl) (fun _ _ _ h => h) (Or.inl ⟨by rfl, ?_⟩) ?_ ?_
  rotate_left
  · intro w'
    go_simp
    with_reducible rfl
  rotate_left
  · (simp only [Act.put, List.setIfInBounds_toArray, List.set_cons_zero, List.set_cons_succ, i64_w, i32_w])
    rfl
  refine pure_ (i := 1) (N := some 14) (v := ?_) (a' := ?_) #[true, true, false, false, false, false, false, false, false, false, false, false, false, false, false, false, false] rfl rfl (by kernel_rfl) (fun _ _ _ h => h) (Or.inl ⟨by rfl, ?_⟩) ?_ ?_
  rotate_left
  · intro w'
    go_simp
    with_reducible rfl
  rotate_left
  · (simp only [Act.put, List.setIfInBounds_toArray, List.set_cons_zero, List.set_cons_succ, i64_w, i32_w])
    rfl
  refine pure_ (i := 2) (N := some 15) (v := ?_) (a' := ?_) #[true, true, true, false, false, false, false, false, false, false, false, false, false, false, false, false, false] rfl rfl (by kernel_rfl) (fun _ _ _ h => h) (Or.inl ⟨by rfl, ?_⟩) ?_ ?_
  rotate_left
  · intro w'
    go_simp
    with_reducible rfl
  rotate_left
  · (simp only [Act.put, List.setIfInBounds_toArray, List.set_cons_zero, List.set_cons_succ, i64_w, i32_w])
    rfl
  refine pure_ (i := 4) (N := some 17) (v := ?_) (a' := ?_) #[true, true, true, false, true, false, false, false, false, false, false, false, false, false, false, false, false] rfl rfl (by kernel_rfl) (fun _ _ _ h => h) (Or.inl ⟨by rfl, ?_⟩) ?_ ?_
  rotate_left
  · intro w'
    go_simp
    with_reducible rfl
  rotate_left
  · (simp only [Act.put, List.setIfInBounds_toArray, List.set_cons_zero, List.set_cons_succ, i64_w, i32_w])
    rfl
  refine pure_ (i := 5) (N := some 18) (v := ?_) (a' := ?_) #[true, true, true, false, true, true, false, false, false, false, false, false, false, false, false, false, false] rfl rfl (by kernel_rfl) (fun _ _ _ h => h) (Or.inl ⟨by rfl, ?_⟩) ?_ ?_
  rotate_left
  · intro w'
    go_simp
    with_reducible rfl
  rotate_left
  · (simp only [Act.put, List.setIfInBounds_toArray, List.set_cons_zero, List.set_cons_succ, i64_w, i32_w])
    rfl
  refine pure_ (i := 6) (N := some 19) (v := ?_) (a' := ?_) #[true, true, true, false, true, true, true, false, false, false, false, false, false, false, false, false, false] rfl rfl (by kernel_rfl) (fun _ _ _ h => h) (Or.inl ⟨by rfl, ?_⟩) ?_ ?_
  rotate_left
  · intro w'
    go_simp
    with_reducible rfl
  rotate_left
  · (simp only [Act.put, List.setIfInBounds_toArray, List.set_cons_zero, List.set_cons_succ, i64_w, i32_w])
    rfl
  refine pure_ (i := 7) (N := some 20) (v := ?_) (a' := ?_) #[true, true, true, false, true, true, true, true, false, false, false, false, false, false, false, false, false] rfl rfl (by kernel_rfl) (fun _ _ _ h => h) (Or.inl ⟨by rfl, ?_⟩) ?_ ?_
  rotate_left
  · intro w'
    go_simp
    with_reducible rfl
  rotate_left
  · (simp only [Act.put, List.setIfInBounds_toArray, List.set_cons_zero, List.set_cons_succ, i64_w, i32_w])
    rfl
  refine pure_ (i := 9) (N := some 22) (v := ?_) (a' := ?_) #[true, true, true, false, true, true, true, true, false, true, false, false, false, false, false, false, false] rfl rfl (by kernel_rfl) (fun _ _ _ h => h) (Or.inl ⟨by rfl, ?_⟩) ?_ ?_
  rotate_left
  · intro w'
    go_simp
    with_reducible rfl
  rotate_left
  · (simp only [Act.put, List.setIfInBounds_toArray, List.set_cons_zero, List.set_cons_succ, i64_w, i32_w])
    rfl
  refine pure_ (i := 12) (N := some 25) (v := ?_) (a' := ?_) #[true, true, true, false, true, true, true, true, false, true, false, false, true, false, false, false, false] rfl rfl (by kernel_rfl) (fun _ _ _ h => h) (Or.inl ⟨by rfl, ?_⟩) ?_ ?_
  rotate_left
  · intro w'
    go_simp
    with_reducible rfl
  rotate_left
  · (simp only [Act.put, List.setIfInBounds_toArray, List.set_cons_zero, List.set_cons_succ, i64_w, i32_w])
    rfl
  refine take_ (i := 3) (N := some 16) (v := ?_) (a' := ?_) #[true, true, true, true, true, true, true, true, false, true, false, false, true, false, false, false, false] rfl rfl (by kernel_rfl) (fun _ _ _ h => h) (Or.inl ⟨by rfl, ?_⟩) hHeld ?_ ?_
  rotate_left
  · rintro w' ⟨s0, s1⟩
    go_simp
    with_reducible rfl
  rotate_left
  · (simp only [Act.put, List.setIfInBounds_toArray, List.set_cons_zero, List.set_cons_succ, i64_w, i32_w])
    rfl
  refine take_ (i := 8) (N := some 21) (v := ?_) (a' := ?_) #[true, true, true, true, true, true, true, true, true, true, false, false, true, false, false, false, false] rfl rfl (by kernel_rfl) (fun _ _ _ h => h) (Or.inl ⟨by rfl, ?_⟩) hHeld ?_ ?_
  rotate_left
  · rintro w' ⟨s0, s1⟩
    go_simp
    with_reducible rfl
  rotate_left
  · (simp only [Act.put, List.setIfInBounds_toArray, List.set_cons_zero, List.set_cons_succ, i64_w, i32_w])
    rfl
  refine pure_ (i := 10) (N := some 23) (v := ?_) (a' := ?_) #[true, true, true, true, true, true, true, true, true, true, true, false, true, false, false, false, false] rfl rfl (by kernel_rfl) (fun _ _ _ h => h) (Or.inl ⟨by rfl, ?_⟩) ?_ ?_
  rotate_left
  · intro w'
    go_simp
    with_reducible rfl
  rotate_left
  · (simp only [Act.put, List.setIfInBounds_toArray, List.set_cons_zero, List.set_cons_succ, i64_w, i32_w])
    rfl
  refine take_ (i := 11) (N := some 24) (v := ?_) (a' := ?_) #[true, true, true, true, true, true, true, true, true, true, true, true, true, false, false, false, false] rfl rfl (by kernel_rfl) (fun _ _ _ h => h) (Or.inl ⟨by rfl, ?_⟩) hHeld ?_ ?_
  rotate_left
  · rintro w' ⟨s0, s1⟩
    go_simp
    with_reducible rfl
  rotate_left
  · (simp only [Act.put, List.setIfInBounds_toArray, List.set_cons_zero, List.set_cons_succ, i64_w, i32_w])
    rfl
  have HI2 := HI
  refine one_ (i := 13) (N := some 26) #[true, true, true, true, true, true, true, true, true, true, true, true, true, true, false, false, false] rfl rfl (by kernel_rfl) (by decide) (fun K hK => ?_)
  refine goes_ Try.func31 (by kernel_rfl) rfl #[.slice A l.length c] (by rfl) rfl rfl (by (try simp only [List.map_toArray, List.map_cons, List.map_nil]); first | done | rfl | (simp only [List.length_drop, List.length_take]; rfl)) ?_
  refine (HSplit.limbo_copied.calls k0 A c l (kept l) _ (Kd.V_reads' HV.out).2.2 HLC.out HCK.out).mono ?_
  rintro e w3 ⟨u, rfl, ho, hb⟩
  refine ⟨_, rfl, ?_⟩
  have HU := Aside0.mk (Kd.S_N (Kd.S_bound ho))
  have HBB := Aside0.mk hb
  obtain ⟨A2, c2, rfl⟩ := Kd.N_slice HU.out
  replace HI := Aside0.mk (HI.out.below hb)
  have c0 := HI.out.c.1
  have hc := (HI.out.get HJV.out).1
  clear ho hb HV
  refine hK.out _ _ ⟨c0, hc⟩ (fun hHeld => ?_)
  clear hK K
  refine norm_ (a' := ?_) ?_ ?_
  rotate_left
  · show Act.put _ (some 26) _ = _
    (simp only [Act.put, List.setIfInBounds_toArray, List.set_cons_zero, List.set_cons_succ, i64_w, i32_w])
    rfl
  have HN3 := Aside0.mk (fun i u M hu hM => Kd.N_below (HN.out i u M hu hM) HBB.out)
  refine one_ (i := 14) (N := some 27) #[true, true, true, true, true, true, true, true, true, true, true, true, true, true, true, false, false] rfl rfl (by kernel_rfl) (by decide) (fun K hK => ?_)
  refine Kd.N_append_rows_step k35 (w0 := w3) b (by rfl) (.tmp 24) (.tmp 26) 26 35 (.agg #[(.int .i64 0), (.int .i64 0), (.slice none 0 0)]) 40 rfl Try.underlying26 HSplit.info35 rfl (by decide) (by decide) v L (kept l) A2 _ c2 (fun k => oks j k ∨ w2.heap.size ≤ k) (fun k => w2.heap.size ≤ k) rfl rfl (Kd.N_mono (HN3.out j v L HJV.out HJL.out) (fun _ hk => .inl hk)) (Kd.N_F (Kd.N_mono HU.out (fun _ hk => hk.2.1))) (fun k hk => ⟨.inr hk, ?hne⟩) (fun k hk => .inr (Nat.le_trans HBB.out.size hk)) (Below.refl _ _) ?hbase ?hlen ?_
  case hne =>
    intro he
    have := HBF.out k (HOK.out j k ((HN.out j v L HJV.out HJL.out).1 k he.symm)).1
    omega
  case hbase => exact Nat.le_trans HBW.out HBB.out.size
  case hlen => have := HLL.out; have := HLK.out; omega
  intro v1 w4 hn hb4 hg4 hat
  obtain ⟨A4, c4, rfl⟩ := Kd.N_slice hn
  have HR := Aside0.mk hn
  have HG4 := Aside0.mk ((Mv.of_below HBB.out (oks j)).grown hg4 (fun i hi => .inl ((HN.out j v L HJV.out HJL.out).1 i hi)))
  have hi4 : IsL w4 p g vs (wrap64 (n + 1)) := ⟨HI.out.ne, (HG4.out.block p (HBF.out p HFP.out).2 (fun hk => (HOK.out j p hk).2.1 rfl)).trans HI2.out.head, (HG4.out.block g (HBF.out g HFG.out).2 (fun hk => (HOK.out j g hk).2.2 rfl)).trans HI2.out.row⟩
  clear c0 hc HI
  have HI := Aside0.mk hi4
  have c0 := HI.out.c.1
  have hc := (HI.out.get HJV.out).1
  have hf := (HI.out.get HJV.out).2
  clear hn hb4 hg4 hat hi4
  refine hK.out _ _ ⟨c0, hc⟩ (fun hHeld => ?_)
  clear hK K
  refine norm_ (a' := ?_) ?_ ?_
  rotate_left
  · show Act.put _ (some 27) _ = _
    (simp only [Act.put, List.setIfInBounds_toArray, List.set_cons_zero, List.set_cons_succ, i64_w, i32_w])
    rfl
  refine take_ (i := 15) (N := some 28) (v := ?_) (a' := ?_) #[true, true, true, true, true, true, true, true, true, true, true, true, true, true, true, true, false] rfl rfl (by kernel_rfl) (fun _ _ _ h => h) (Or.inl ⟨by rfl, ?_⟩) hHeld ?_ ?_
  rotate_left
  · rintro w' ⟨s0, s1⟩
    go_simp
    with_reducible rfl
  rotate_left
  · (simp only [Act.put, List.setIfInBounds_toArray, List.set_cons_zero, List.set_cons_succ, i64_w, i32_w])
    rfl
  refine last_ (i := 16) (N := none) #[true, true, true, true, true, true, true, true, true, true, true, true, true, true, true, true, true] rfl rfl (by kernel_rfl) (by decide) (fun K hK => ?_)
  refine skip_ (by rfl) rfl (w1 := w4.setCell ⟨g, j, none⟩ (.slice A4 (L ++ kept l).length c4)) ?hr ?_
  case hr => first | (go_simp; done) | (go_simp; rfl)
  refine hK.out _ _ ?_
  clear hK K
  refine done_ (by kernel_rfl) ?_
  go_wp2
  go_ret
  have HP := IsM.put HI2.out HLN.out HBF.out HFP.out HFG.out HN.out HOK.out HDJ.out j HG4.out HR.out
  refine ⟨rfl, _, _, HP, ?_, fun k hk => ?_⟩
  · refine (HMV.out.trans HG4.out (fun i hi => .inl (HOK.out j i hi).1)).set (.inl HFG.out) _
  · rcases hk with hk | hk
    · exact .inl hk
    · have := HMV.out.size
      exact .inr (by omega)

theorem all_in (b p g : Nat) (vs : List Value) (Ls : List (List S35)) (n : Int) (F : Nat → Prop) (W : World) (h : IsM W b p g vs Ls n F) (hm : Ls.length ≤ 64) (h1 : ∀ l ∈ Ls, l.length ≤ 1000) (h2 : ∀ l ∈ Ls, ∀ g ∈ l, g.f2.length ≤ 1000) :
    Calls Try.prog 22 #[.pointer (some ⟨p, 0, none⟩)] W fun e w' => ∃ v, e = .returned v ∧ Kd.N k35 35 w' W.heap.size (fun k => W.heap.size ≤ k) v (Ls.flatMap kept) ∧ Below W.heap.size W w' := by
  obtain ⟨k0, hk0⟩ := HSplit.all_ev Ls hm h1 h2
  refine HSplit.limbo_Lists_All.calls k0 p g Ls _ W ?_ (h.row hm) (hk0 k0 (Nat.le_refl _))
  rw [← h.len]
  exact h.lists.c.1

end Go.Proofs.Ytjfogghpiclooaa.Li
