/- script.Encode's closure over its bytes. -/
import Derived.Test.YtfpjfndelkgciaaDoorScrA
namespace Go.Proofs.YtfpjfndelkgciaaDoor.Sc
open Go.RowKit Go.Proofs.YtfpjfndelkgciaaDoorW.PrintWords Go.Proofs.YtfpjfndelkgciaaDoorW.PrintLast Go.Proofs.YtfpjfndelkgciaaDoorW.PrintMore
open HScript (S25 S54 k25 k54 z25 z54)
set_option linter.unusedVariables false
set_option linter.unusedSimpArgs false

/-- From W to w: nothing of W but the blocks of S was turned. -/
structure Mv (W w : World) (S : Nat → Prop) : Prop where
  os : w.os = W.os
  tape : w.tape = W.tape
  output : w.output = W.output
  size : W.heap.size ≤ w.heap.size
  block : ∀ k, k < W.heap.size → ¬ S k → w.heap[k]? = W.heap[k]?
section
variable {W w w2 : World} {S T : Nat → Prop}
theorem Mv.refl (W : World) (S : Nat → Prop) : Mv W W S := ⟨rfl, rfl, rfl, Nat.le_refl _, fun _ _ _ => rfl⟩
theorem Mv.of_below (h : Below W.heap.size W w) (S : Nat → Prop) : Mv W w S := ⟨h.os, h.tape, h.output, h.size, fun k hk _ => h.block k hk⟩
theorem Mv.mono (h : Mv W w S) (hs : ∀ k, S k → T k) : Mv W w T := ⟨h.os, h.tape, h.output, h.size, fun k hk hn => h.block k hk fun hh => hn (hs k hh)⟩
theorem Mv.trans (h : Mv W w S) (k : Mv w w2 T) (hs : ∀ i, T i → S i ∨ W.heap.size ≤ i) : Mv W w2 S :=
  ⟨k.os.trans h.os, k.tape.trans h.tape, k.output.trans h.output, Nat.le_trans h.size k.size, fun i hi hn => (k.block i (Nat.lt_of_lt_of_le hi h.size) fun ht => (hs i ht).elim hn fun h2 => by omega).trans (h.block i hi hn)⟩
theorem Mv.step (h : Mv W w S) (k : Below w.heap.size w w2) : Mv W w2 S := h.trans (Mv.of_below k (fun _ => False)) fun _ hf => hf.elim
theorem Mv.drewN (h : Mv W w S) (q : Nat) : Mv W (w.drewN q) S := h.step (pw_below_drewN (Below.refl _ _) q)
theorem Mv.drew (h : Mv W w S) : Mv W w.drew S := h.step (below_drew1 (Below.refl _ _))
theorem Mv.set (h : Mv W w S) {b j : Nat} (hb : S b ∨ W.heap.size ≤ b) (v : Value) : Mv W (w.setCell ⟨b, j, none⟩ v) S :=
  h.trans (T := fun k => k = b) ⟨rfl, rfl, rfl, by simp, fun k _ hn => Below.heap_setCell w ⟨b, j, none⟩ v k hn⟩ fun i hi => by rw [hi]; exact hb
theorem Mv.grown {row : Option Nat} (h : Mv W w S) (k : w.grownBy w2 row) (hr : ∀ i, row = some i → S i ∨ W.heap.size ≤ i) : Mv W w2 S :=
  h.trans (T := fun i => row = some i) ⟨k.os, k.tape, k.output, k.size, fun i hi hn => k.block i hi fun he => hn he.symm⟩ hr
theorem Mv.below {B : Nat} {W0 : World} (h : Below B W0 W) (k : Mv W w S) (hB : B ≤ W.heap.size) (hs : ∀ i, S i → B ≤ i) : Below B W0 w :=
  h.trans ⟨k.os, k.tape, k.output, k.size, fun i hi => k.block i (by omega) fun hh => by have := hs i hh; omega⟩
theorem Mv.blk {b : Nat} {o : Obj} (h : Mv W w S) (hb : W.heap[b]? = some o) (hn : ¬ S b) : w.heap[b]? = some o := (h.block b (blk_lt hb) hn).trans hb
end

/-- Bytes that are written: the variable at block gb, its row. -/
structure EN (W : World) (base gb : Nat) (v : Value) (xs : List Int) : Prop where
  box : W.heap[gb]? = some (.cells #[v] 39 (0, 0))
  row : W.ownsRow base 5 1 v xs.length (nums .u8 xs)
  ge : base ≤ gb
section
variable {W w : World} {base gb : Nat} {v v1 : Value} {xs ys : List Int}
theorem EN.ne (h : EN W base gb v xs) : some gb ≠ v.ownBlock := own_ne h.row h.box (by decide)
theorem EN.below (h : EN W base gb v xs) (hb : Below W.heap.size W w) : EN w base gb v xs := ⟨blk_below h.box hb, pw_own_below h.row hb, h.ge⟩
theorem EN.drewN (h : EN W base gb v xs) (q : Nat) : EN (W.drewN q) base gb v xs := h.below (pw_below_drewN (Below.refl _ _) q)
theorem EN.lt (h : EN W base gb v xs) : gb < W.heap.size := blk_lt h.box
theorem EN.far (h : EN W base gb v xs) {c : Nat} (h1 : c ≠ gb) (h2 : some c ≠ v.ownBlock) (j : Nat) (u : Value) : EN (W.setCell ⟨c, j, none⟩ u) base gb v xs :=
  ⟨blk_far h.box h1.symm _, own_other h.row (row := some c) ⟨rfl, rfl, rfl, by simp, fun k _ hk => Below.heap_setCell W ⟨c, j, none⟩ u k (fun e => hk (by rw [e]))⟩ (by cases hv : v.ownBlock with | none => exact .inl rfl | some k => exact .inr (fun e => h2 (by rw [hv]; exact e.symm))), h.ge⟩
/-- The variable is another row now, grown out of it. -/
theorem EN.put (h : EN W base gb v xs) (hg : W.grownBy w v.ownBlock) (hr : w.ownsRow base 5 1 v1 ys.length (nums .u8 ys)) (hs : v1.cells.toList = [v1]) : EN (w.setCell ⟨gb, 0, none⟩ v1) base gb v1 ys := by
  have hb : w.heap[gb]? = some (.cells #[v] 39 (0, 0)) := blk_grown h.box hg h.ne
  have hne : some gb ≠ v1.ownBlock := own_ne hr hb (by decide)
  exact ⟨blk_put hb 0 v1 rfl, own_other hr (row := some gb) ⟨rfl, rfl, rfl, by simp, fun k _ hk => Below.heap_setCell w ⟨gb, 0, none⟩ v1 k (fun e => hk (by rw [e]))⟩ (by cases hv : v1.ownBlock with | none => exact .inl rfl | some k => exact .inr (fun e => hne (by rw [hv]; exact e.symm))), h.ge⟩
end
def gone (gb : Nat) (v : Value) : Nat → Prop := fun k => k = gb ∨ some k = v.ownBlock

theorem ob (A : Option Addr) (n c m d : Nat) : (Value.slice A n c).ownBlock = (Value.slice A m d).ownBlock := by cases A <;> rfl
theorem text_no (gb : Nat) (s : ByteArray) (W : World) : Calls Tryd.prog 42 #[.string ⟨#[]⟩, .string s, .pointer (some ⟨gb, 0, none⟩)] W fun e w' => e = .returned (.tuple #[]) ∧ Drawn0 W w' := by
  go_enter Tryd.func42, Tryd.ntmps42
  go_wp2
  go_end0
  exact ⟨rfl, by repeat (first | exact Drawn0.refl _ | apply Drawn0.step)⟩
theorem text_yes (base gb : Nat) (v : Value) (xs : List Int) (s : ByteArray) (W : World) (h : EN W base gb v xs) (hbase : base ≤ W.heap.size) (hl : xs.length + s.size ≤ 1000000000) :
    Calls Tryd.prog 42 #[.string ⟨#[120]⟩, .string s, .pointer (some ⟨gb, 0, none⟩)] W fun e w' => e = .returned (.tuple #[]) ∧ ∃ v', EN w' base gb v' (xs ++ [(s.size : Int) % 256] ++ bytesOf s) ∧ Mv W w' (gone gb v) := by
  obtain ⟨A, c, rfl⟩ := own_slice h.row
  have HE := Aside0.mk h
  have HL := Aside0.mk hl
  have HBS := Aside0.mk hbase
  have c0 := (blk_cell h.box 0).trans (show _ = some (Value.slice A xs.length c) from rfl)
  have HB := Aside0.mk (Below.refl W.heap.size W)
  clear h hl hbase
  go_enter Tryd.func42, Tryd.ntmps42
  go_upto_region 1 with (fail)
  go_upto_region 2 with (first | ((with_reducible refine gate_builtin (b := .append) (xs := #[.tmp 7, .tmp 11]) rfl ?_); at_builtin; refine print_append_num (w0 := W) base rfl (.tmp 7) (.tmp 11) 39 5 .u8 1 rfl Tryd.underlying39 HScript.info5 (by decide) (.slice A xs.length c) xs ((s.size : Int) % 256) rfl rfl HE.out.row (Below.refl _ _) HBS.out ?aL ?_; (case aL => have := HL.out; omega); intro v1 w1 hown hb hg hat; obtain ⟨A1, c1, rfl⟩ := own_slice hown; have HO1 := Aside0.mk hown; have HG1 := Aside0.mk hg; have HAT := Aside0.mk hat; have c1' := (blk_cell (blk_grown HE.out.box hg HE.out.ne) 0).trans (show _ = some (Value.slice A xs.length c) from rfl); have f1' := blk_frozen (blk_grown HE.out.box hg HE.out.ne) 0; clear hown hb hg hat))
  obtain ⟨ys, hys⟩ : ∃ ys, ys = xs ++ [(s.size : Int) % 256] := ⟨_, rfl⟩
  have el : xs.length + 1 = ys.length := by rw [hys, List.length_append, List.length_singleton]
  rw [el]
  have HO2 : Aside0 (w1.ownsRow base 5 1 (.slice A1 ys.length c1) ys.length (nums .u8 ys)) := ⟨by rw [hys]; exact HO1.out⟩
  have HE2 := Aside0.mk (HE.out.put HG1.out HO2.out (show _ = [Value.slice A1 ys.length c1] from rfl))
  have HM2 := Aside0.mk (((Mv.refl W (gone gb (.slice A xs.length c))).grown HG1.out (fun i hi => .inl (.inr hi.symm))).set (j := 0) (.inl (.inl rfl)) (.slice A1 ys.length c1))
  have HLy := Aside0.mk (show ys.length ≤ 1000000001 by have := HL.out; omega)
  have hnew : ∀ i, (Value.slice A1 ys.length c1).ownBlock = some i → gone gb (.slice A xs.length c) i ∨ W.heap.size ≤ i := fun i hi => by
    rcases HAT.out with h | ⟨b, h, hb⟩
    · have h2 : (Value.slice A1 ys.length c1).ownBlock = (Value.slice A xs.length c).ownBlock := (ob _ _ _ _ _).trans h
      exact .inl (.inr (by rw [← h2]; exact hi.symm))
    · have h2 : (Value.slice A1 ys.length c1).ownBlock = some b := (ob _ _ _ _ _).trans h
      rw [h2] at hi
      injection hi with hi
      exact .inr (by omega)
  have HNW := Aside0.mk hnew
  have HYS := Aside0.mk hys
  clear hys el c1' f1' c0 hnew
  generalize w1.setCell ⟨gb, 0, none⟩ (.slice A1 ys.length c1) = w2 at HE2 HM2 ⊢
  have c2' := (blk_cell HE2.out.box 0).trans (show _ = some (Value.slice A1 ys.length c1) from rfl)
  have HB2 := Aside0.mk (show base ≤ w2.heap.size from Nat.le_trans HBS.out HM2.out.size)
  clear HO1 HO2 HG1 HB HE HAT
  go_wp2_with (first | ((with_reducible refine gate_builtin (b := .append) (xs := #[.tmp 13, .tmp 14]) rfl ?_); at_builtin; refine print_append_str (w0 := w2) base rfl (.tmp 13) (.tmp 14) 39 9 5 rfl Tryd.underlying39 Tryd.underlying9 HScript.info5 (.slice A1 ys.length c1) ys s rfl rfl HE2.out.row (Below.refl _ _) HB2.out ?aL ?_; (case aL => have := HL.out; have := HLy.out; omega); intro v3 w3 hown hb hg; obtain ⟨A3, c3, rfl⟩ := own_slice hown; have HO3 := Aside0.mk hown; have HG3 := Aside0.mk hg; have c3' := (blk_cell (blk_grown HE2.out.box hg HE2.out.ne) 0).trans (show _ = some (Value.slice A1 ys.length c1) from rfl); have f3' := blk_frozen (blk_grown HE2.out.box hg HE2.out.ne) 0; clear hown hb hg))
  go_end0
  obtain ⟨zs, hzs⟩ : ∃ zs, zs = ys ++ bytesOf s := ⟨_, rfl⟩
  have HZ := HO3.out
  rw [← hzs] at HZ
  have hE := HE2.out.put HG3.out HZ (show _ = [Value.slice A3 zs.length c3] from rfl)
  have hM := (HM2.out.grown HG3.out HNW.out).set (j := 0) (.inl (.inl rfl)) (.slice A3 zs.length c3)
  refine ⟨rfl, .slice A3 zs.length c3, ?_⟩
  rw [← HYS.out, ← hzs]
  have el : ys.length + (bytesOf s).length = zs.length := by rw [hzs, List.length_append]
  rw [el]
  exact ⟨hE, hM⟩
end Go.Proofs.YtfpjfndelkgciaaDoor.Sc
