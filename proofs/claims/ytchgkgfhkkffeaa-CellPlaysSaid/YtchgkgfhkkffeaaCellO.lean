/- Slices of words, an act, slices of acts handed in: what they hold. -/
import Derived.Test.YtchgkgfhkkffeaaCellW4
import Derived.ProofKit
import Derived.OpenShut
import Derived.ShutString
import Derived.ChangeArms
import Derived.ChangeSlices
import Derived.WideShapes
namespace Go.Proofs.Ytchgkgfhkkffeaa.Ce
open Go.ChangeShapes Go.WideShapes Go.ChangeAt Go.RowKit
set_option linter.unusedVariables false
set_option linter.unusedSimpArgs false

section
variable {H : Type} {enc : TypeId × Value → H} {w : World} {base : Nat} {sp : Nat → Bool} {held : Bool}

theorem trod_word {fuel : Nat} {cs : List Value} {x : DataW H × List MemPlace} (h : DataW.trod enc Try.prog w base sp held fuel 47 cs = some x) : ∃ a : W3, cs = [.int .i64 a.1, .int .i64 a.2.1, .int .i64 a.2.2] := by
  obtain ⟨xs, n, rfl, hx, hl, hxl, hh⟩ := DataW.trod_struct Try.underlying47 h
  have hc : Try.prog.cellsOf 47 = 3 := by kernel_rfl
  rw [hc] at hl
  match cs, hl with
  | [a, b, c], _ =>
    have hxl' : xs.length = 3 := hxl
    match xs, hxl' with
    | [x0, x1, x2], _ =>
      have h0 : DataW.trod enc Try.prog w base sp held n 35 ((([a, b, c] : List Value).drop 0).take (Try.prog.cellsOf 35)) = some x0 := hh 0 _ rfl
      have h1 : DataW.trod enc Try.prog w base sp held n 3 ((([a, b, c] : List Value).drop 1).take (Try.prog.cellsOf 3)) = some x1 := hh 1 _ rfl
      have h2 : DataW.trod enc Try.prog w base sp held n 3 ((([a, b, c] : List Value).drop 2).take (Try.prog.cellsOf 3)) = some x2 := hh 2 _ rfl
      have c35 : Try.prog.cellsOf 35 = 1 := by kernel_rfl
      have c3 : Try.prog.cellsOf 3 = 1 := by kernel_rfl
      rw [c35] at h0; rw [c3] at h1 h2
      obtain ⟨y0, e0, -, -⟩ := DataW.trod_int Try.underlying35 h0
      obtain ⟨y1, e1, -, -⟩ := DataW.trod_int Try.underlying3 h1
      obtain ⟨y2, e2, -, -⟩ := DataW.trod_int Try.underlying3 h2
      simp at e0 e1 e2
      subst e0 e1 e2
      exact ⟨(y0, y1, y2), rfl⟩

/-- An act: what to do, at which cell, old, put. -/
abbrev Act4 := Int × Int × W3 × W3
abbrev actCells (a : Act4) : List Value := [.int .i64 a.1, .int .i64 a.2.1, .int .i64 a.2.2.1.1, .int .i64 a.2.2.1.2.1, .int .i64 a.2.2.1.2.2, .int .i64 a.2.2.2.1, .int .i64 a.2.2.2.2.1, .int .i64 a.2.2.2.2.2]
theorem trod_act {fuel : Nat} {cs : List Value} {x : DataW H × List MemPlace} (h : DataW.trod enc Try.prog w base sp held fuel 49 cs = some x) : ∃ a : Act4, cs = actCells a := by
  obtain ⟨xs, n, rfl, hx, hl, hxl, hh⟩ := DataW.trod_struct Try.underlying49 h
  have hc : Try.prog.cellsOf 49 = 8 := by kernel_rfl
  rw [hc] at hl
  match cs, hl with
  | [a0, a1, a2, a3, a4, a5, a6, a7], _ =>
    have hxl' : xs.length = 4 := hxl
    match xs, hxl' with
    | [x0, x1, x2, x3], _ =>
      have c47 : Try.prog.cellsOf 47 = 3 := by kernel_rfl
      have c3 : Try.prog.cellsOf 3 = 1 := by kernel_rfl
      have h0 : DataW.trod enc Try.prog w base sp held n 3 ((([a0, a1, a2, a3, a4, a5, a6, a7] : List Value).drop 0).take (Try.prog.cellsOf 3)) = some x0 := hh 0 _ rfl
      have h1 : DataW.trod enc Try.prog w base sp held n 3 ((([a0, a1, a2, a3, a4, a5, a6, a7] : List Value).drop 1).take (Try.prog.cellsOf 3)) = some x1 := hh 1 _ rfl
      have h2 : DataW.trod enc Try.prog w base sp held n 47 ((([a0, a1, a2, a3, a4, a5, a6, a7] : List Value).drop 2).take (Try.prog.cellsOf 47)) = some x2 := hh 2 _ rfl
      have h3 : DataW.trod enc Try.prog w base sp held n 47 ((([a0, a1, a2, a3, a4, a5, a6, a7] : List Value).drop 5).take (Try.prog.cellsOf 47)) = some x3 := hh 3 _ rfl
      rw [c3] at h0 h1; rw [c47] at h2 h3
      obtain ⟨y0, e0, -, -⟩ := DataW.trod_int Try.underlying3 h0
      obtain ⟨y1, e1, -, -⟩ := DataW.trod_int Try.underlying3 h1
      obtain ⟨b2, e2⟩ := trod_word h2
      obtain ⟨b3, e3⟩ := trod_word h3
      simp at e0 e1 e2 e3
      obtain ⟨rfl, rfl, rfl⟩ := e2
      obtain ⟨rfl, rfl, rfl⟩ := e3
      subst e0 e1
      exact ⟨(y0, y1, b2, b3), rfl⟩

theorem cells_plain {a : Addr} {n : Nat} {cs : List Value} (h : w.cells? base a n = some cs) (hn : 0 < n) : ∃ b off, a = ⟨b, off, none⟩ ∧ ∀ r (hr : r < n), w.cell? ⟨b, off + r, none⟩ = cs[r]? := by
  have hh := (World.cells?_some h).2.2
  obtain ⟨b, off, spot⟩ := a
  have h0 := hh 0 hn
  have hl := (World.cells?_some h).2.1
  have hspot : spot = none := by
    have : w.cell? ((⟨b, off, spot⟩ : Addr).add 0) = some (cs[0]'(by omega)) := by rw [h0, List.getElem?_eq_getElem (by omega)]
    simpa [Addr.add] using World.cell?_spot this
  subst hspot
  exact ⟨b, off, rfl, fun r hr => by rw [← Go.WideShapes.add_plain]; exact hh r hr⟩

/-- A row of things of k cells each, as a slice that came in shows it. -/
def RA {α : Type} (k : Nat) (cells : α → List Value) (W : World) (A : Option Addr) (xs : List α) : Prop :=
  xs = [] ∨ ∃ b off, A = some ⟨b, off, none⟩ ∧ b < W.heap.size ∧ ∀ (j : Nat) (x : α), xs[j]? = some x → ∀ r, r < k → W.cell? ⟨b, off + j * k + r, none⟩ = (cells x)[r]?
theorem RA.below {α : Type} {k : Nat} {cells : α → List Value} {W W' : World} {A : Option Addr} {xs : List α} (h : RA k cells W A xs) (hb : Below W.heap.size W W') : RA k cells W' A xs := by
  rcases h with h | ⟨b, off, hA, hlt, hc⟩
  · exact .inl h
  · refine .inr ⟨b, off, hA, Nat.lt_of_lt_of_le hlt hb.size, fun j x hx r hr => ?_⟩
    rw [← hc j x hx r hr]
    exact hb.cell (p := ⟨b, _, none⟩) hlt

theorem open_rows {α : Type} {k : Nat} {cells : α → List Value} {t e : TypeId} {v : Value} {d : DataW H} {ps : List MemPlace} {r : Reach} {b0 : Nat} (h1 : ∃ x : α, True) (ht : Try.prog.underlying t = some (.slice e)) (hk : Try.prog.cellsOf e = k) (hk0 : 0 < k)
    (hel : ∀ (n : Nat) (cs : List Value) (y : DataW H × List MemPlace), DataW.trod enc Try.prog w base sp held n e cs = some y → ∃ a : α, cs = cells a)
    (hval : Value.okWide Try.prog w r b0 t v) (h : DataW.Trod enc Try.prog w base sp held t v d ps) : ∃ (A : Option Addr) (cap : Nat) (xs : List α), v = .slice A xs.length cap ∧ RA k cells w A xs := by
  obtain ⟨A, len, cap, rfl⟩ := okWide_slice ht hval
  obtain ⟨fuel, hf⟩ := h
  rcases DataW.trod_slice ht hf with ⟨hcs, -⟩ | ⟨a, len', cap', elems, rest, n, -, hcs, -, -, -, -, hlen, he, -, -⟩
  · simp [Value.cells] at hcs
    obtain ⟨rfl, rfl, rfl⟩ := hcs
    exact ⟨none, 0, [], rfl, .inl rfl⟩
  · simp [Value.cells] at hcs
    obtain ⟨rfl, rfl, rfl⟩ := hcs
    rw [hk] at he
    obtain ⟨x0, -⟩ := h1
    by_cases h0 : len = 0
    · subst h0
      exact ⟨some a, cap, [], rfl, .inl rfl⟩
    obtain ⟨b, off, rfl, hlt⟩ : ∃ b off, a = ⟨b, off, none⟩ ∧ b < w.heap.size := by
      have hE := he 0 (by omega)
      rw [List.getElem?_eq_getElem (by omega), Option.bind_eq_some_iff] at hE
      obtain ⟨cs, hcs, -⟩ := hE
      rw [Nat.zero_mul, show a.add 0 = a by simp [Addr.add]] at hcs
      obtain ⟨b, off, hab, hc⟩ := cells_plain hcs hk0
      have hl := (World.cells?_some hcs).2.1
      have h2 := (hc 0 hk0).trans (List.getElem?_eq_getElem (show 0 < cs.length by omega))
      exact ⟨b, off, hab, World.block_lt_of_cell? w _ h2⟩
    have hex : ∀ i, ∃ x : α, i < len → ∀ r, r < k → w.cell? ⟨b, off + i * k + r, none⟩ = (cells x)[r]? := by
      intro i
      by_cases hi : i < len
      · have hE := he i hi
        rw [List.getElem?_eq_getElem (by omega), Option.bind_eq_some_iff, Go.WideShapes.add_plain] at hE
        obtain ⟨cs, hcs, htr⟩ := hE
        obtain ⟨x, rfl⟩ := hel _ _ _ htr
        obtain ⟨b', off', hab, hc⟩ := cells_plain hcs hk0
        obtain ⟨rfl, rfl, -⟩ := Addr.mk.inj hab
        exact ⟨x, fun _ r hr => hc r hr⟩
      · exact ⟨x0, fun h => absurd h hi⟩
    obtain ⟨f, hf2⟩ := Classical.axiomOfChoice hex
    refine ⟨some ⟨b, off, none⟩, cap, (List.range len).map f, by simp, .inr ⟨b, off, rfl, hlt, fun j x hx r hr => ?_⟩⟩
    rw [List.getElem?_map] at hx
    have hj : j < len := by
      rcases Nat.lt_or_ge j len with h | h
      · exact h
      · rw [List.getElem?_eq_none (by simpa using h)] at hx; cases hx
    rw [List.getElem?_range hj] at hx
    cases hx
    exact hf2 j hj r hr

theorem open_words {v : Value} {d : DataW H} {ps : List MemPlace} {r : Reach} {b0 : Nat} (hval : Value.okWide Try.prog w r b0 45 v) (h : DataW.Trod enc Try.prog w base sp held 45 v d ps) : ∃ (A : Option Addr) (cap : Nat) (ws : List W3), v = .slice A ws.length cap ∧ RA 3 (fun x : W3 => [.int .i64 x.1, .int .i64 x.2.1, .int .i64 x.2.2]) w A ws :=
  open_rows ⟨zero, trivial⟩ Try.underlying45 (by kernel_rfl) (by decide) (fun n cs y hy => trod_word hy) hval h
theorem open_act {v : Value} {d : DataW H} {ps : List MemPlace} {r : Reach} {b0 : Nat} (hval : Value.okWide Try.prog w r b0 49 v) (h : DataW.Trod enc Try.prog w base sp held 49 v d ps) : ∃ a : Act4, v = .agg (actCells a).toArray := by
  obtain ⟨cs, rfl, hsz⟩ := okWide_struct Try.underlying49 hval
  obtain ⟨fuel, hf⟩ := h
  obtain ⟨a, ha⟩ := trod_act hf
  refine ⟨a, ?_⟩
  have : cs.toList = actCells a := ha
  rw [← this]
end
end Go.Proofs.Ytchgkgfhkkffeaa.Ce
