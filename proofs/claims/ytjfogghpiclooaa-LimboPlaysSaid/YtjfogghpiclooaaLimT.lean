/- Slices of acts handed in: what they hold. -/
import Derived.Test.YtjfogghpiclooaaLimR
import Derived.ProofKit
import Derived.OpenShut
import Derived.ShutString
import Derived.ChangeArms
import Derived.ChangeSlices
import Derived.WideShapes
namespace Go.Proofs.Ytjfogghpiclooaa.HSplit
open Go.ChangeShapes Go.WideShapes Go.ChangeAt Go.RowKit Go.Proofs.YtjfogghpiclooaaW.PrintWords Go.Proofs.YtjfogghpiclooaaW.PrintLast Go.Proofs.YtjfogghpiclooaaW.PrintMore
set_option linter.unusedVariables false
set_option linter.unusedSimpArgs false

section
variable {H : Type} {enc : TypeId × Value → H} {w : World} {base : Nat} {sp : Nat → Bool} {held : Bool}

theorem cells_plain {a : Addr} {n : Nat} {cs : List Value} (h : w.cells? base a n = some cs) (hn : 0 < n) : ∃ b off, a = ⟨b, off, none⟩ ∧ cs.length = n ∧ ∀ r (hr : r < n), w.cell? ⟨b, off + r, none⟩ = cs[r]? := by
  have hh := (World.cells?_some h).2.2
  obtain ⟨b, off, spot⟩ := a
  have h0 := hh 0 hn
  have hl := (World.cells?_some h).2.1
  have hspot : spot = none := by
    have : w.cell? ((⟨b, off, spot⟩ : Addr).add 0) = some (cs[0]'(by omega)) := by rw [h0, List.getElem?_eq_getElem (by omega)]
    simpa [Addr.add] using World.cell?_spot this
  subst hspot
  exact ⟨b, off, rfl, hl, fun r hr => by rw [← Go.WideShapes.add_plain]; exact hh r hr⟩

/-- A slice that came in, whose elements are of kind d. -/
theorem trod_C {α : Type} (d : Kd α) (x0 : α) {fuel : Nat} {t e : TypeId} {cs : List Value} {x : DataW H × List MemPlace} (ht : Try.prog.underlying t = some (.slice e)) (hk : Try.prog.cellsOf e = d.sz) (hk0 : 0 < d.sz)
    (hel : ∀ (n : Nat) (cs : List Value) (y : DataW H × List MemPlace), DataW.trod enc Try.prog w base sp held n e cs = some y → ∃ a : α, d.K w a cs)
    (hf : DataW.trod enc Try.prog w base sp held fuel t cs = some x) : ∃ (A : Option Addr) (cap : Nat) (xs : List α), cs = [.slice A xs.length cap] ∧ xs.length ≤ cap ∧ d.C w A xs.length xs := by
  rcases DataW.trod_slice ht hf with ⟨rfl, -⟩ | ⟨a, len, cap, elems, rest, n, -, rfl, -, -, hlc, hcm, hlen, he, -, -⟩
  · exact ⟨none, 0, [], rfl, Nat.le_refl _, Kd.C_nil _ _⟩
  · rw [hk] at he
    have hex : ∀ i, ∃ y : α, i < len → ∃ c, d.K w y c ∧ w.cells? base (a.add (i * d.sz)) d.sz = some c := by
      intro i
      by_cases hi : i < len
      · have hE := he i hi
        rw [List.getElem?_eq_getElem (by omega), Option.bind_eq_some_iff] at hE
        obtain ⟨c, hc, htr⟩ := hE
        obtain ⟨y, hy⟩ := hel _ _ _ htr
        exact ⟨y, fun _ => ⟨c, hy, hc⟩⟩
      · exact ⟨x0, fun h => absurd h hi⟩
    obtain ⟨f, hf2⟩ := Classical.axiomOfChoice hex
    have hl : ((List.range len).map f).length = len := by simp
    refine ⟨some a, cap, (List.range len).map f, by rw [hl], by omega, rfl, by rw [hl]; exact Nat.le_trans hlc hcm, fun hpos => ?_⟩
    rw [hl] at hpos
    obtain ⟨b, off, rfl⟩ : ∃ b off, a = ⟨b, off, none⟩ := by
      obtain ⟨c, -, hc⟩ := hf2 0 hpos
      rw [Nat.zero_mul, show a.add 0 = a by simp [Addr.add]] at hc
      obtain ⟨b, off, hab, -, -⟩ := cells_plain hc hk0
      exact ⟨b, off, hab⟩
    refine ⟨_, rfl, fun j p hp => ?_⟩
    rw [List.getElem?_map] at hp
    have hj : j < len := by
      rcases Nat.lt_or_ge j len with h | h
      · exact h
      · rw [List.getElem?_eq_none (by simpa using h)] at hp; cases hp
    rw [List.getElem?_range hj] at hp
    cases hp
    obtain ⟨c, hK, hc⟩ := hf2 j hj
    rw [Go.WideShapes.add_plain] at hc
    obtain ⟨b', off', hab, hcl, hcc⟩ := cells_plain hc hk0
    obtain ⟨rfl, rfl, -⟩ := Addr.mk.inj hab
    refine ⟨c, hcl, hK, fun i u hu => ?_⟩
    have hi : i < d.sz := by rw [← hcl]; exact (List.getElem?_eq_some_iff.1 hu).1
    rw [Go.WideShapes.add_plain, ← Nat.add_assoc, hcc i hi]
    exact hu

theorem trod_item {fuel : Nat} {cs : List Value} {x : DataW H × List MemPlace} (h : DataW.trod enc Try.prog w base sp held fuel 75 cs = some x) : ∃ a : S75, k75.K w a cs := by
  obtain ⟨xs, n, rfl, hx, hl, hxl, hh⟩ := DataW.trod_struct Try.underlying75 h
  have hc : Try.prog.cellsOf 75 = 2 := by kernel_rfl
  rw [hc] at hl
  match cs, hl with
  | [a, b], _ =>
    have hxl' : xs.length = 2 := hxl
    match xs, hxl' with
    | [x0, x1], _ =>
      have h0 : DataW.trod enc Try.prog w base sp held n 41 ((([a, b] : List Value).drop 0).take (Try.prog.cellsOf 41)) = some x0 := hh 0 _ rfl
      have h1 : DataW.trod enc Try.prog w base sp held n 3 ((([a, b] : List Value).drop 1).take (Try.prog.cellsOf 3)) = some x1 := hh 1 _ rfl
      have c41 : Try.prog.cellsOf 41 = 1 := by kernel_rfl
      have c3 : Try.prog.cellsOf 3 = 1 := by kernel_rfl
      rw [c41] at h0; rw [c3] at h1
      obtain ⟨y0, e0, -, -⟩ := DataW.trod_int Try.underlying41 h0
      obtain ⟨y1, e1, -, -⟩ := DataW.trod_int Try.underlying3 h1
      simp at e0 e1
      subst e0 e1
      exact ⟨⟨y0, y1⟩, k75_mk w ⟨y0, y1⟩⟩
theorem trod_group {fuel : Nat} {cs : List Value} {x : DataW H × List MemPlace} (h : DataW.trod enc Try.prog w base sp held fuel 74 cs = some x) : ∃ a : S74, k74.K w a cs := by
  obtain ⟨xs, n, rfl, hx, hl, hxl, hh⟩ := DataW.trod_struct Try.underlying74 h
  have hc : Try.prog.cellsOf 74 = 3 := by kernel_rfl
  rw [hc] at hl
  match cs, hl with
  | [a, b, c], _ =>
    have hxl' : xs.length = 3 := hxl
    match xs, hxl' with
    | [x0, x1, x2], _ =>
      have h0 : DataW.trod enc Try.prog w base sp held n 3 ((([a, b, c] : List Value).drop 0).take (Try.prog.cellsOf 3)) = some x0 := hh 0 _ rfl
      have h1 : DataW.trod enc Try.prog w base sp held n 3 ((([a, b, c] : List Value).drop 1).take (Try.prog.cellsOf 3)) = some x1 := hh 1 _ rfl
      have h2 : DataW.trod enc Try.prog w base sp held n 72 ((([a, b, c] : List Value).drop 2).take (Try.prog.cellsOf 72)) = some x2 := hh 2 _ rfl
      have c72 : Try.prog.cellsOf 72 = 1 := by kernel_rfl
      have c3 : Try.prog.cellsOf 3 = 1 := by kernel_rfl
      rw [c3] at h0 h1; rw [c72] at h2
      obtain ⟨y0, e0, -, -⟩ := DataW.trod_int Try.underlying3 h0
      obtain ⟨y1, e1, -, -⟩ := DataW.trod_int Try.underlying3 h1
      obtain ⟨A, cap, ys, e2, hle, hC⟩ := trod_C k75 z75 Try.underlying72 (by kernel_rfl) (by decide) (fun n cs y hy => trod_item hy) h2
      simp at e0 e1 e2
      subst e0 e1 e2
      exact ⟨⟨y0, y1, ys⟩, k74_mk w ⟨y0, y1, ys⟩ hle hC⟩

theorem open_kd {α : Type} (d : Kd α) (x0 : α) {t e : TypeId} {v : Value} {dd : DataW H} {ps : List MemPlace} {r : Reach} {b0 : Nat} (ht : Try.prog.underlying t = some (.slice e)) (hk : Try.prog.cellsOf e = d.sz) (hk0 : 0 < d.sz)
    (hel : ∀ (n : Nat) (cs : List Value) (y : DataW H × List MemPlace), DataW.trod enc Try.prog w base sp held n e cs = some y → ∃ a : α, d.K w a cs)
    (hval : Value.okWide Try.prog w r b0 t v) (h : DataW.Trod enc Try.prog w base sp held t v dd ps) : ∃ (A : Option Addr) (cap : Nat) (xs : List α), v = .slice A xs.length cap ∧ (xs.length ≤ cap ∧ d.C w A xs.length xs) := by
  obtain ⟨A, len, cap, rfl⟩ := okWide_slice ht hval
  obtain ⟨fuel, hf⟩ := h
  obtain ⟨A', cap', xs, e1, h2⟩ := trod_C d x0 ht hk hk0 hel hf
  have e2 : Value.slice A len cap = .slice A' xs.length cap' := by simpa [Value.cells] using e1
  exact ⟨A', cap', xs, e2, h2⟩
theorem trod_act {fuel : Nat} {cs : List Value} {x : DataW H × List MemPlace} (h : DataW.trod enc Try.prog w base sp held fuel 52 cs = some x) : ∃ a : Li.ActV, Li.kA.K w a cs := by
  obtain ⟨xs, n, rfl, hx, hl, hxl, hh⟩ := DataW.trod_struct Try.underlying52 h
  have hc : Try.prog.cellsOf 52 = 3 := by kernel_rfl
  rw [hc] at hl
  match cs, hl with
  | [a, b, c], _ =>
    have hxl' : xs.length = 3 := hxl
    match xs, hxl' with
    | [x0, x1, x2], _ =>
      have h0 : DataW.trod enc Try.prog w base sp held n 3 ((([a, b, c] : List Value).drop 0).take (Try.prog.cellsOf 3)) = some x0 := hh 0 _ rfl
      have h1 : DataW.trod enc Try.prog w base sp held n 3 ((([a, b, c] : List Value).drop 1).take (Try.prog.cellsOf 3)) = some x1 := hh 1 _ rfl
      have h2 : DataW.trod enc Try.prog w base sp held n 22 ((([a, b, c] : List Value).drop 2).take (Try.prog.cellsOf 22)) = some x2 := hh 2 _ rfl
      have c22 : Try.prog.cellsOf 22 = 1 := by kernel_rfl
      have c3 : Try.prog.cellsOf 3 = 1 := by kernel_rfl
      rw [c3] at h0 h1; rw [c22] at h2
      obtain ⟨y0, e0, -, -⟩ := DataW.trod_int Try.underlying3 h0
      obtain ⟨y1, e1, -, -⟩ := DataW.trod_int Try.underlying3 h1
      obtain ⟨A, cap, ys, e2, hle, hC⟩ := trod_C k74 z74 Try.underlying22 (by kernel_rfl) (by decide) (fun n cs y hy => trod_group hy) h2
      simp at e0 e1 e2
      subst e0 e1 e2
      exact ⟨(y0, y1, ys), [.int .i64 y0], [.int .i64 y1, .slice A ys.length cap], rfl, rfl, [.int .i64 y1], [.slice A ys.length cap], rfl, rfl, A, cap, rfl, hle, hC⟩
theorem open_acts {v : Value} {d : DataW H} {ps : List MemPlace} {r : Reach} {b0 : Nat} (hval : Value.okWide Try.prog w r b0 45 v) (h : DataW.Trod enc Try.prog w base sp held 45 v d ps) : ∃ (A : Option Addr) (cap : Nat) (xs : List Li.ActV), v = .slice A xs.length cap ∧ (xs.length ≤ cap ∧ Li.kA.C w A xs.length xs) :=
  open_kd Li.kA (0, 0, []) Try.underlying45 (by kernel_rfl) (by decide) (fun n cs y hy => trod_act hy) hval h
end
end Go.Proofs.Ytjfogghpiclooaa.HSplit
