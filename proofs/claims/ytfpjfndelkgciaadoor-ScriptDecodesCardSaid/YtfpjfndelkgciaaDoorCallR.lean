/- The laid table read: what the row's premise says of the cells; and the structs handed in, opened. -/
import Derived.Test.YtfpjfndelkgciaaDoorCallU
import Derived.Test.YtfpjfndelkgciaaDoorRows
import Derived.Test.YtfpjfndelkgciaaDoorTie
import Derived.ProofKit
import Derived.OpenShut
import Derived.ShutString
import Derived.LaidMore
import Derived.Lay
import Derived.SevenTiedAt
import Derived.Stop.Joined
import Derived.ChangeArms
import Derived.WideShapes
namespace Go.Proofs.YtfpjfndelkgciaaDoor.Fw
open Go.ChangeShapes Go.WideShapes Go.ChangeAt Go.RowKit
set_option linter.unusedVariables false
set_option linter.unusedSimpArgs false

abbrev laid : List (String × DataW Unit) := [("boscage/call.used", Rows.laid_boscage_call_used)]
def tabD : List (List Bool) := [[false, false, false, false], [true, false, false, false], [true, true, false, false], [true, true, false, false], [true, true, true, false], [true, false, false, false], [true, false, false, false],
  [false, false, false, false], [false, false, false, true], [true, false, false, true], [false, false, false, true], [true, false, false, true], [false, false, false, true], [false, false, false, false]]
theorem laid_tab {H : Type} : (Rows.laid_boscage_call_used : DataW H) = .agg (tabD.map fun l => .agg (l.map fun b => .lit (.bool b))) := rfl
theorem tab_tab : tab = tabD.flatten := rfl

theorem trod_bool {H : Type} {enc : TypeId × Value → H} {P : Program} {w : World} {base : Nat} {spare : Nat → Bool} {held : Bool} {fuel : Nat} {t : TypeId} {cs : List Value} {x : DataW H × List MemPlace}
    (ht : P.underlying t = some .bool) (h : DataW.trod enc P w base spare held fuel t cs = some x) : ∃ b, cs = [.bool b] ∧ x = (.lit (.bool b), []) := by
  cases fuel with
  | zero => simp [DataW.trod] at h
  | succ m =>
    unfold DataW.trod at h
    rw [ht] at h
    split at h <;> simp_all

theorem used_of_laid {W : World} (h : laidMetH Tryd.prog laid W) : Used W := by
  intro r hr
  rw [MakeChecks.laidMetH_plain _ _ _ (by kernel_rfl)] at h
  obtain ⟨ps, ⟨g, t, cs, fuel, p, q, hg, ht, hv, hd, _, _⟩, _, _⟩ := h
  obtain rfl := Option.some.inj ((show Tryd.prog.globalNamed "boscage/call.used" = some 0 by kernel_rfl).symm.trans hg)
  obtain rfl := Option.some.inj ((show (Tryd.prog.globals[0]?).map (·.type) = some 52 by kernel_rfl).symm.trans ht)
  obtain ⟨xs, m, _, ex, _, hl, hel⟩ := DataW.trod_array Tryd.underlying52 hd
  have c51 : Tryd.prog.cellsOf 51 = 4 := by kernel_rfl
  have c4 : Tryd.prog.cellsOf 4 = 1 := by kernel_rfl
  have hE := hel (r / 4) (by omega)
  rw [c51, List.getElem?_eq_getElem (by omega)] at hE
  obtain ⟨ys, n, _, e1, _, hyl, hh⟩ := DataW.trod_struct Tryd.underlying51 hE
  have hyl4 : ys.length = 4 := hyl
  have ex' := (Prod.mk.inj ex).1
  rw [laid_tab] at ex'
  have e3 := DataW.agg.inj ex'
  have e4 := congrArg (fun l => l[r / 4]?) e3
  simp only [List.getElem?_map] at e4
  rw [List.getElem?_eq_getElem (by omega : r / 4 < xs.length), e1] at e4
  have ht14 : tabD.length = 14 := rfl
  rw [List.getElem?_eq_getElem (by omega : r / 4 < tabD.length)] at e4
  simp only [Option.map_some, Option.some.injEq] at e4
  have e5 := DataW.agg.inj e4
  have key : ∀ (j : Nat) (hj : j < 4), DataW.trod (fun _ => ()) Tryd.prog W 0 (fun _ => true) false n 4 (((((cs.toList.drop (r / 4 * 4)).take 4)).drop j).take 1) = some (ys[j]'(by omega)) := by
    intro j hj
    have e0 : DataW.trod (fun _ => ()) Tryd.prog W 0 (fun _ => true) false n 4 ((((cs.toList.drop (r / 4 * 4)).take 4).drop 0).take (Tryd.prog.cellsOf 4)) = ys[0]? := hh 0 _ rfl
    have e1 : DataW.trod (fun _ => ()) Tryd.prog W 0 (fun _ => true) false n 4 ((((cs.toList.drop (r / 4 * 4)).take 4).drop 1).take (Tryd.prog.cellsOf 4)) = ys[1]? := hh 1 _ rfl
    have e2 : DataW.trod (fun _ => ()) Tryd.prog W 0 (fun _ => true) false n 4 ((((cs.toList.drop (r / 4 * 4)).take 4).drop 2).take (Tryd.prog.cellsOf 4)) = ys[2]? := hh 2 _ rfl
    have e3 : DataW.trod (fun _ => ()) Tryd.prog W 0 (fun _ => true) false n 4 ((((cs.toList.drop (r / 4 * 4)).take 4).drop 3).take (Tryd.prog.cellsOf 4)) = ys[3]? := hh 3 _ rfl
    rw [c4] at e0 e1 e2 e3
    rcases j with _ | _ | _ | _ | j
    · rw [← List.getElem?_eq_getElem]; exact e0
    · rw [← List.getElem?_eq_getElem]; exact e1
    · rw [← List.getElem?_eq_getElem]; exact e2
    · rw [← List.getElem?_eq_getElem]; exact e3
    · omega
  obtain ⟨b, hb, hx⟩ := trod_bool Tryd.underlying4 (key (r % 4) (Nat.mod_lt _ (by decide)))
  rw [World.var?_cell hg hv r]
  have hc : cs.toList[r]? = some (.bool b) := by
    have h0 := congrArg (fun l => l[0]?) hb
    simp only [List.getElem?_take, List.getElem?_drop] at h0
    have hm : r % 4 < 4 := Nat.mod_lt _ (by decide)
    have hd4 : r / 4 * 4 + r % 4 = r := by omega
    simpa [hm, hd4] using h0
  have e6 := congrArg (fun l => l[r % 4]?) e5
  simp only [List.getElem?_map] at e6
  rw [List.getElem?_eq_getElem (by omega : r % 4 < ys.length), hx] at e6
  have hcs : cs[r]? = some (.bool b) := by simpa using hc
  rw [hcs]
  have hall : ∀ q : Fin 56, tab.getD q.val false = ((tabD[q.val / 4]?.getD [])[q.val % 4]?).getD false := by decide
  have hq := hall ⟨r, hr⟩
  simp only at hq
  rw [hq, List.getElem?_eq_getElem (by omega : r / 4 < tabD.length)]
  simp only [Option.getD_some]
  cases hz : (tabD[r / 4]'(by omega))[r % 4]? with
  | none => rw [hz] at e6; simp at e6
  | some z =>
    rw [hz] at e6
    simp only [Option.map_some, Option.some.injEq, DataW.lit.injEq, Lit.bool.injEq] at e6
    simp [e6]

theorem open_conf {H : Type} {enc : TypeId × Value → H} {w : World} {r : Reach} {b0 base : Nat} {sp : Nat → Bool} {held : Bool} {v : Value} {d : DataW H} {ps : List MemPlace}
    (hval : Value.okWide Tryd.prog w r b0 23 v) (hd : DataW.Trod enc Tryd.prog w base sp held 23 v d ps) :
    ∃ (a0 a1 a2 a3 a4 : Int), v = .agg #[.int .i64 a0, .int .i64 a1, .int .i64 a2, .int .i64 a3, .int .i64 a4] := by
  obtain ⟨cs, rfl, hsz⟩ := okWide_struct Tryd.underlying23 hval
  have hc : Tryd.prog.cellsOf 23 = 5 := by kernel_rfl
  rw [hc] at hsz
  obtain ⟨fuel, hf⟩ := hd
  obtain ⟨xs, n, rfl, hx, hl, hxl, hh⟩ := DataW.trod_struct Tryd.underlying23 hf
  obtain ⟨l⟩ := cs
  have hsz' : l.length = 5 := hsz
  match l, hsz' with
  | [a, b, c, e, f], _ =>
    have hxl' : xs.length = 5 := hxl
    match xs, hxl' with
    | [x0, x1, x2, x3, x4], _ =>
      have h0 : DataW.trod enc Tryd.prog w base sp held n 3 ((([a, b, c, e, f] : List Value).drop 0).take (Tryd.prog.cellsOf 3)) = some x0 := hh 0 _ rfl
      have h1 : DataW.trod enc Tryd.prog w base sp held n 3 ((([a, b, c, e, f] : List Value).drop 1).take (Tryd.prog.cellsOf 3)) = some x1 := hh 1 _ rfl
      have h2 : DataW.trod enc Tryd.prog w base sp held n 3 ((([a, b, c, e, f] : List Value).drop 2).take (Tryd.prog.cellsOf 3)) = some x2 := hh 2 _ rfl
      have h3 : DataW.trod enc Tryd.prog w base sp held n 3 ((([a, b, c, e, f] : List Value).drop 3).take (Tryd.prog.cellsOf 3)) = some x3 := hh 3 _ rfl
      have h4 : DataW.trod enc Tryd.prog w base sp held n 3 ((([a, b, c, e, f] : List Value).drop 4).take (Tryd.prog.cellsOf 3)) = some x4 := hh 4 _ rfl
      have c3 : Tryd.prog.cellsOf 3 = 1 := by kernel_rfl
      rw [c3] at h0 h1 h2 h3 h4
      obtain ⟨y0, e0, -, -⟩ := DataW.trod_int Tryd.underlying3 h0
      obtain ⟨y1, e1, -, -⟩ := DataW.trod_int Tryd.underlying3 h1
      obtain ⟨y2, e2, -, -⟩ := DataW.trod_int Tryd.underlying3 h2
      obtain ⟨y3, e3, -, -⟩ := DataW.trod_int Tryd.underlying3 h3
      obtain ⟨y4, e4, -, -⟩ := DataW.trod_int Tryd.underlying3 h4
      simp at e0 e1 e2 e3 e4
      subst e0 e1 e2 e3 e4
      exact ⟨_, _, _, _, _, rfl⟩

theorem open_call {H : Type} {enc : TypeId × Value → H} {w : World} {r : Reach} {b0 base : Nat} {sp : Nat → Bool} {held : Bool} {v : Value} {d : DataW H} {ps : List MemPlace}
    (hval : Value.okWide Tryd.prog w r b0 25 v) (hd : DataW.Trod enc Tryd.prog w base sp held 25 v d ps) :
    ∃ (a0 : Int) (a1 a2 a3 : ByteArray) (a4 : Int), v = .agg #[.int .i64 a0, .string a1, .string a2, .string a3, .int .i64 a4] := by
  obtain ⟨cs, rfl, hsz⟩ := okWide_struct Tryd.underlying25 hval
  have hc : Tryd.prog.cellsOf 25 = 5 := by kernel_rfl
  rw [hc] at hsz
  obtain ⟨fuel, hf⟩ := hd
  obtain ⟨xs, n, rfl, hx, hl, hxl, hh⟩ := DataW.trod_struct Tryd.underlying25 hf
  obtain ⟨l⟩ := cs
  have hsz' : l.length = 5 := hsz
  match l, hsz' with
  | [a, b, c, e, f], _ =>
    have hxl' : xs.length = 5 := hxl
    match xs, hxl' with
    | [x0, x1, x2, x3, x4], _ =>
      have h0 : DataW.trod enc Tryd.prog w base sp held n 3 ((([a, b, c, e, f] : List Value).drop 0).take (Tryd.prog.cellsOf 3)) = some x0 := hh 0 _ rfl
      have h1 : DataW.trod enc Tryd.prog w base sp held n 9 ((([a, b, c, e, f] : List Value).drop 1).take (Tryd.prog.cellsOf 9)) = some x1 := hh 1 _ rfl
      have h2 : DataW.trod enc Tryd.prog w base sp held n 9 ((([a, b, c, e, f] : List Value).drop 2).take (Tryd.prog.cellsOf 9)) = some x2 := hh 2 _ rfl
      have h3 : DataW.trod enc Tryd.prog w base sp held n 9 ((([a, b, c, e, f] : List Value).drop 3).take (Tryd.prog.cellsOf 9)) = some x3 := hh 3 _ rfl
      have h4 : DataW.trod enc Tryd.prog w base sp held n 3 ((([a, b, c, e, f] : List Value).drop 4).take (Tryd.prog.cellsOf 3)) = some x4 := hh 4 _ rfl
      have c3 : Tryd.prog.cellsOf 3 = 1 := by kernel_rfl
      have c9 : Tryd.prog.cellsOf 9 = 1 := by kernel_rfl
      rw [c3] at h0 h4
      rw [c9] at h1 h2 h3
      obtain ⟨y0, e0, -, -⟩ := DataW.trod_int Tryd.underlying3 h0
      obtain ⟨y1, e1, -, -⟩ := DataW.trod_string Tryd.underlying9 h1
      obtain ⟨y2, e2, -, -⟩ := DataW.trod_string Tryd.underlying9 h2
      obtain ⟨y3, e3, -, -⟩ := DataW.trod_string Tryd.underlying9 h3
      obtain ⟨y4, e4, -, -⟩ := DataW.trod_int Tryd.underlying3 h4
      simp at e0 e1 e2 e3 e4
      subst e0 e1 e2 e3 e4
      exact ⟨_, _, _, _, _, rfl⟩

end Go.Proofs.YtfpjfndelkgciaaDoor.Fw
