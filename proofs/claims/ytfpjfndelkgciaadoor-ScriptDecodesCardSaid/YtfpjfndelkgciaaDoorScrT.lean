/- Slices of bytes and of entries handed in: what they hold. -/
import Derived.Test.YtfpjfndelkgciaaDoorScrM
import Derived.ProofKit
import Derived.OpenShut
import Derived.ShutString
import Derived.ChangeArms
import Derived.ChangeSlices
import Derived.WideShapes
namespace Go.Proofs.YtfpjfndelkgciaaDoor.Sc
open Go.ChangeShapes Go.WideShapes Go.ChangeAt Go.RowKit Go.Proofs.YtfpjfndelkgciaaDoorW.PrintWords Go.Proofs.YtfpjfndelkgciaaDoorW.PrintLast Go.Proofs.YtfpjfndelkgciaaDoorW.PrintMore
open HScript (S25 S54 k25 k54 z25 z54)
set_option linter.unusedVariables false
set_option linter.unusedSimpArgs false

section
variable {H : Type} {enc : TypeId × Value → H} {w : World} {base : Nat} {sp : Nat → Bool} {held : Bool}

theorem cells_plain {a : Addr} {n : Nat} {cs : List Value} (h : w.cells? base a n = some cs) (hn : 0 < n) : ∃ b off, a = ⟨b, off, none⟩ ∧ cs.length = n ∧ ∀ r (hr : r < n), w.cell? ⟨b, off + r, none⟩ = cs[r]? := by
  have hh := (World.cells?_some h).2.2
  obtain ⟨b, off, spot⟩ := a
  have h0 := hh 0 hn
  have hl := (World.cells?_some h).2.1
  have hspot : spot = none := by
    have : w.cell? ((⟨b, off, spot⟩ : Addr).add 0) = some (cs[0]'(by omega)) := by rw [h0, List.getElem?_eq_getElem (by omega)]
    simpa [Addr.add] using World.cell?_spot this
  subst hspot
  exact ⟨b, off, rfl, hl, fun r hr => by rw [← Go.WideShapes.add_plain]; exact hh r hr⟩

/-- A slice that came in, whose elements are of kind d. -/
theorem trod_C {α : Type} (d : Kd α) (Pr : α → Prop) (x0 : α) {fuel : Nat} {t e : TypeId} {cs : List Value} {x : DataW H × List MemPlace} (ht : Tryd.prog.underlying t = some (.slice e)) (hk : Tryd.prog.cellsOf e = d.sz) (hk0 : 0 < d.sz)
    (hel : ∀ (n : Nat) (cs : List Value) (y : DataW H × List MemPlace), DataW.trod enc Tryd.prog w base sp held n e cs = some y → ∃ a : α, d.K w a cs ∧ Pr a)
    (hf : DataW.trod enc Tryd.prog w base sp held fuel t cs = some x) : ∃ (A : Option Addr) (cap : Nat) (xs : List α), cs = [.slice A xs.length cap] ∧ xs.length ≤ cap ∧ d.C w A xs.length xs ∧ (∀ a ∈ xs, Pr a) := by
  rcases DataW.trod_slice ht hf with ⟨rfl, -⟩ | ⟨a, len, cap, elems, rest, n, -, rfl, -, -, hlc, hcm, hlen, he, -, -⟩
  · exact ⟨none, 0, [], rfl, Nat.le_refl _, Kd.C_nil _ _, fun a ha => by cases ha⟩
  · rw [hk] at he
    have hex : ∀ i, ∃ y : α, i < len → Pr y ∧ ∃ c, d.K w y c ∧ w.cells? base (a.add (i * d.sz)) d.sz = some c := by
      intro i
      by_cases hi : i < len
      · have hE := he i hi
        rw [List.getElem?_eq_getElem (by omega), Option.bind_eq_some_iff] at hE
        obtain ⟨c, hc, htr⟩ := hE
        obtain ⟨y, hy, hp⟩ := hel _ _ _ htr
        exact ⟨y, fun _ => ⟨hp, c, hy, hc⟩⟩
      · exact ⟨x0, fun h => absurd h hi⟩
    obtain ⟨f, hf2⟩ := Classical.axiomOfChoice hex
    have hl : ((List.range len).map f).length = len := by simp
    refine ⟨some a, cap, (List.range len).map f, by rw [hl], by omega, ⟨rfl, by rw [hl]; exact Nat.le_trans hlc hcm, fun hpos => ?_⟩, ?_⟩
    · rw [hl] at hpos
      obtain ⟨b, off, rfl⟩ : ∃ b off, a = ⟨b, off, none⟩ := by
        obtain ⟨-, c, -, hc⟩ := hf2 0 hpos
        rw [Nat.zero_mul, show a.add 0 = a by simp [Addr.add]] at hc
        obtain ⟨b, off, hab, -, -⟩ := cells_plain hc hk0
        exact ⟨b, off, hab⟩
      refine ⟨_, rfl, fun j p hp => ?_⟩
      rw [List.getElem?_map] at hp
      have hj : j < len := by
        rcases Nat.lt_or_ge j len with h | h
        · exact h
        · rw [List.getElem?_eq_none (by simpa using h)] at hp; cases hp
      rw [List.getElem?_range hj] at hp
      cases hp
      obtain ⟨-, c, hK, hc⟩ := hf2 j hj
      rw [Go.WideShapes.add_plain] at hc
      obtain ⟨b', off', hab, hcl, hcc⟩ := cells_plain hc hk0
      obtain ⟨rfl, rfl, -⟩ := Addr.mk.inj hab
      refine ⟨c, hcl, hK, fun i u hu => ?_⟩
      have hi : i < d.sz := by rw [← hcl]; exact (List.getElem?_eq_some_iff.1 hu).1
      rw [Go.WideShapes.add_plain, ← Nat.add_assoc, hcc i hi]
      exact hu
    · intro y hy
      obtain ⟨j, hj, rfl⟩ := List.mem_map.1 hy
      exact (hf2 j (List.mem_range.1 hj)).1

theorem trod_entry {fuel : Nat} {cs : List Value} {x : DataW H × List MemPlace} (h : DataW.trod enc Tryd.prog w base sp held fuel 54 cs = some x) : ∃ a : S54, k54.K w a cs ∧ True := by
  obtain ⟨xs, n, rfl, hx, hl, hxl, hh⟩ := DataW.trod_struct Tryd.underlying54 h
  have hc : Tryd.prog.cellsOf 54 = 6 := by kernel_rfl
  rw [hc] at hl
  have c3 : Tryd.prog.cellsOf 3 = 1 := by kernel_rfl
  have c9 : Tryd.prog.cellsOf 9 = 1 := by kernel_rfl
  have c25 : Tryd.prog.cellsOf 25 = 5 := by kernel_rfl
  match cs, hl with
  | [g, a, b, c, e, f], _ =>
    have hxl' : xs.length = 2 := hxl
    match xs, hxl' with
    | [x0, x1], _ =>
      have h0 : DataW.trod enc Tryd.prog w base sp held n 3 ((([g, a, b, c, e, f] : List Value).drop 0).take (Tryd.prog.cellsOf 3)) = some x0 := hh 0 _ rfl
      have h1 : DataW.trod enc Tryd.prog w base sp held n 25 ((([g, a, b, c, e, f] : List Value).drop 1).take (Tryd.prog.cellsOf 25)) = some x1 := hh 1 _ rfl
      rw [c3] at h0; rw [c25] at h1
      obtain ⟨y, ey, -, -⟩ := DataW.trod_int Tryd.underlying3 h0
      have h1' : DataW.trod enc Tryd.prog w base sp held n 25 [a, b, c, e, f] = some x1 := h1
      obtain ⟨zs, m, rfl, hz, hzl, hzxl, kk⟩ := DataW.trod_struct Tryd.underlying25 h1'
      have hzl' : zs.length = 5 := hzxl
      match zs, hzl' with
      | [z0, z1, z2, z3, z4], _ =>
        have k0 : DataW.trod enc Tryd.prog w base sp held m 3 ((([a, b, c, e, f] : List Value).drop 0).take (Tryd.prog.cellsOf 3)) = some z0 := kk 0 _ rfl
        have k1 : DataW.trod enc Tryd.prog w base sp held m 9 ((([a, b, c, e, f] : List Value).drop 1).take (Tryd.prog.cellsOf 9)) = some z1 := kk 1 _ rfl
        have k2 : DataW.trod enc Tryd.prog w base sp held m 9 ((([a, b, c, e, f] : List Value).drop 2).take (Tryd.prog.cellsOf 9)) = some z2 := kk 2 _ rfl
        have k3 : DataW.trod enc Tryd.prog w base sp held m 9 ((([a, b, c, e, f] : List Value).drop 3).take (Tryd.prog.cellsOf 9)) = some z3 := kk 3 _ rfl
        have k4 : DataW.trod enc Tryd.prog w base sp held m 3 ((([a, b, c, e, f] : List Value).drop 4).take (Tryd.prog.cellsOf 3)) = some z4 := kk 4 _ rfl
        rw [c3] at k0 k4
        rw [c9] at k1 k2 k3
        obtain ⟨y0, e0, -, -⟩ := DataW.trod_int Tryd.underlying3 k0
        obtain ⟨y1, e1, -, -⟩ := DataW.trod_string Tryd.underlying9 k1
        obtain ⟨y2, e2, -, -⟩ := DataW.trod_string Tryd.underlying9 k2
        obtain ⟨y3, e3, -, -⟩ := DataW.trod_string Tryd.underlying9 k3
        obtain ⟨y4, e4, -, -⟩ := DataW.trod_int Tryd.underlying3 k4
        simp at ey e0 e1 e2 e3 e4
        subst ey e0 e1 e2 e3 e4
        exact ⟨⟨y, ⟨y0, y1, y2, y3, y4⟩⟩, HScript.k54_mk w ⟨y, ⟨y0, y1, y2, y3, y4⟩⟩, trivial⟩
theorem trod_byte {fuel : Nat} {cs : List Value} {x : DataW H × List MemPlace} (h : DataW.trod enc Tryd.prog w base sp held fuel 5 cs = some x) : ∃ a : Int, (Kd.int .u8).K w a cs ∧ (0 ≤ a ∧ a ≤ 255) := by
  obtain ⟨y, e, -, hw⟩ := DataW.trod_int Tryd.underlying5 h
  refine ⟨y, e, ?_⟩
  have hw' : (decide (IntKind.u8.min ≤ y) && decide (y ≤ IntKind.u8.max)) = true := hw
  have h2 := Bool.and_eq_true_iff.1 hw'
  exact ⟨of_decide_eq_true h2.1, of_decide_eq_true h2.2⟩
theorem open_kd {α : Type} (d : Kd α) (Pr : α → Prop) (x0 : α) {t e : TypeId} {v : Value} {dd : DataW H} {ps : List MemPlace} {r : Reach} {b0 : Nat} (ht : Tryd.prog.underlying t = some (.slice e)) (hk : Tryd.prog.cellsOf e = d.sz) (hk0 : 0 < d.sz)
    (hel : ∀ (n : Nat) (cs : List Value) (y : DataW H × List MemPlace), DataW.trod enc Tryd.prog w base sp held n e cs = some y → ∃ a : α, d.K w a cs ∧ Pr a)
    (hval : Value.okWide Tryd.prog w r b0 t v) (h : DataW.Trod enc Tryd.prog w base sp held t v dd ps) : ∃ (A : Option Addr) (cap : Nat) (xs : List α), v = .slice A xs.length cap ∧ (xs.length ≤ cap ∧ d.C w A xs.length xs) ∧ (∀ a ∈ xs, Pr a) := by
  obtain ⟨A, len, cap, rfl⟩ := okWide_slice ht hval
  obtain ⟨fuel, hf⟩ := h
  obtain ⟨A', cap', xs, e1, h2, h3, h4⟩ := trod_C d Pr x0 ht hk hk0 hel hf
  have e2 : Value.slice A len cap = .slice A' xs.length cap' := by simpa [Value.cells] using e1
  exact ⟨A', cap', xs, e2, ⟨h2, h3⟩, h4⟩
theorem open_entries {v : Value} {d : DataW H} {ps : List MemPlace} {r : Reach} {b0 : Nat} (hval : Value.okWide Tryd.prog w r b0 42 v) (h : DataW.Trod enc Tryd.prog w base sp held 42 v d ps) : ∃ l, Es w v l := by
  obtain ⟨A, cap, xs, rfl, ⟨hl, hC⟩, -⟩ := open_kd k54 (fun _ => True) z54 Tryd.underlying42 (by kernel_rfl) (by decide) (fun n cs y hy => trod_entry hy) hval h
  exact ⟨xs, ⟨A, cap, rfl, hl, hC⟩⟩
theorem open_bytes {v : Value} {d : DataW H} {ps : List MemPlace} {r : Reach} {b0 : Nat} (hval : Value.okWide Tryd.prog w r b0 39 v) (h : DataW.Trod enc Tryd.prog w base sp held 39 v d ps) : ∃ bs, Bs w v bs ∧ Rg bs := by
  obtain ⟨A, cap, xs, rfl, ⟨hl, hC⟩, hr⟩ := open_kd (Kd.int .u8) (fun a => 0 ≤ a ∧ a ≤ 255) 0 Tryd.underlying39 (by kernel_rfl) (by decide) (fun n cs y hy => trod_byte hy) hval h
  exact ⟨xs, ⟨A, cap, rfl, hl, hC⟩, hr⟩
end
end Go.Proofs.YtfpjfndelkgciaaDoor.Sc
