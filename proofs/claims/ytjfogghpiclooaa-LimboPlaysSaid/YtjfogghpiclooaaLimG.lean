/- The plain law of Give, Back and ref.Same: what the printed functions compute. -/
import Derived.Test.YtjfogghpiclooaaHSplitx3
import Derived.Test.YtjfogghpiclooaaHSplitx7
import Derived.Test.YtjfogghpiclooaaHSplitx6
namespace Go.Proofs.Ytjfogghpiclooaa.HSplit
open Go.RowKit Go.Proofs.YtjfogghpiclooaaW.PrintWords Go.Proofs.YtjfogghpiclooaaW.PrintLast Go.Proofs.YtjfogghpiclooaaW.PrintMore
set_option linter.unusedVariables false
set_option linter.unusedSimpArgs false

/-- From some fuel on, it tells v. -/
def Ev {α : Type} (f : Nat → Option α) (v : α) : Prop := ∃ k0, ∀ k, k0 ≤ k → f k = some v
theorem Ev.now {α : Type} {f : Nat → Option α} {v : α} (h : ∀ k, f k = some v) : Ev f v := ⟨0, fun k _ => h k⟩
theorem Ev.now1 {α : Type} {f : Nat → Option α} {v : α} (h : ∀ k, f (k + 1) = some v) : Ev f v := ⟨1, fun k hk => by obtain ⟨j, rfl⟩ : ∃ j, k = j + 1 := ⟨k - 1, by omega⟩; exact h j⟩
theorem Ev.step {α : Type} {f g : Nat → Option α} {v : α} (hg : Ev g v) (h : ∀ k, f (k + 1) = g k) : Ev f v := by
  obtain ⟨k0, hk⟩ := hg
  refine ⟨k0 + 1, fun k hk' => ?_⟩
  obtain ⟨j, rfl⟩ : ∃ j, k = j + 1 := ⟨k - 1, by omega⟩
  rw [h, hk j (by omega)]
theorem Ev.congr {α : Type} {f g : Nat → Option α} {v : α} (hg : Ev g v) (h : ∀ k, f k = g k) : Ev f v := by
  obtain ⟨k0, hk⟩ := hg
  exact ⟨k0, fun k hk' => by rw [h, hk k hk']⟩
theorem Ev.bind {α β : Type} {f : Nat → Option α} {g : Nat → α → Option β} {v : α} {r : β} (hf : Ev f v) (hg : Ev (fun k => g k v) r) : Ev (fun k => (f k).bind (g k)) r := by
  obtain ⟨a, ha⟩ := hf
  obtain ⟨b, hb⟩ := hg
  exact ⟨max a b, fun k hk => by show (f k).bind (g k) = some r; rw [ha k (by omega)]; exact hb k (by omega)⟩

theorem Ev.of_eq {α : Type} {f : Nat → Option α} {v v' : α} (h : Ev f v) (e : v = v') : Ev f v' := e ▸ h
theorem one_more {α : Type} {a : List α} {x : α} {i : Nat} (h : a.length ≤ i) : (a ++ [x]).length ≤ i + 1 := by rw [List.length_append, List.length_singleton]; omega
theorem getD_mem {α : Type} (d : α) (l : List α) (i : Nat) (h : i < l.length) {g : α} (hg : l.getD i d = g) : g ∈ l := by rw [← hg]; simp [h]

theorem drop_get {α : Type} (d : α) (l : List α) (i : Nat) (h : i < l.length) : l.drop i = l.getD i d :: l.drop (i + 1) := by
  rw [List.drop_eq_getElem_cons h]
  simp [h]
theorem w_succ (i : Nat) (h : i < 4611686018427387904) : wrap64 ((i : Int) + 1) = ((i + 1 : Nat) : Int) := by unfold wrap64; omega
theorem rd75 (l : List S75) (i : Nat) : rd_T75 l (i : Int) = l.getD i z75 := rfl
theorem rd74 (l : List S74) (i : Nat) : rd_T74 l (i : Int) = l.getD i z74 := rfl
theorem rd43 (l : List S43) (i : Nat) : rd_T43 l (i : Int) = l.getD i z43 := rfl
theorem rd35 (l : List S35) (i : Nat) : rd_T35 l (i : Int) = l.getD i z35 := rfl

/-! ### Give, Back -/
def it43 (x : S75) : S43 := ⟨x.f0, x.f1⟩
def it75 (x : S43) : S75 := ⟨x.f0, x.f1⟩
def gr35 (g : S74) : S35 := ⟨g.f0, g.f1, (g.f2.take 20).map it43⟩
def gr74 (g : S35) : S74 := ⟨g.f0, g.f1, g.f2.map it75⟩
def give (l : List S74) : List S35 := (l.take 20).map gr35
def back (l : List S35) : List S74 := l.map gr74
theorem give_len (l : List S74) : (give l).length ≤ 20 := by simp [give]; omega
theorem give_in (l : List S74) : ∀ g ∈ give l, g.f2.length ≤ 20 := by
  intro g hg
  obtain ⟨y, _, rfl⟩ := List.mem_map.1 hg
  simp [gr35]; omega
theorem take_drop {α : Type} (d : α) (l : List α) (i : Nat) (h : i < l.length) (h2 : i < 20) : (l.take 20).drop i = l.getD i d :: (l.take 20).drop (i + 1) := by
  rw [drop_get d _ i (by rw [List.length_take]; omega)]
  congr 1
  simp [List.getElem?_take, h2]
theorem give_l1 (x0 : List S74) (i : Nat) (hi : i < x0.length) (hi20 : i < 20) (g : S74) (hg : x0.getD i z74 = g) (x3 : List S35) (h3 : x3.length ≤ 20) (s d : Int) (r : List S35) : ∀ (n j : Nat) (b : List S43), j + n = min g.f2.length 20 → b.length ≤ j →
    Ev (fun k => boscagelaw16_Give.l0 k x0 (x3 ++ [⟨s, d, b ++ ((g.f2.take 20).drop j).map it43⟩]) ((i + 1 : Nat) : Int)) r →
    Ev (fun k => boscagelaw16_Give.l1 k x0 x3 (i : Int) (j : Int) s d b) r
  | 0, j, b, hj, hb, hr => by
    have hd : (g.f2.take 20).drop j = [] := List.drop_eq_nil_of_le (by rw [List.length_take]; omega)
    rw [hd] at hr
    refine hr.step fun k => ?_
    simp only [boscagelaw16_Give.l1, rd74, hg]
    rw [if_pos (by omega), if_pos (by omega), w_succ i (by omega)]
    by_cases h : j < g.f2.length
    · rw [if_pos (by omega), if_neg (by omega), if_pos (by omega)]
      simp
    · rw [if_neg (by omega), if_pos (by omega)]
      simp
  | n + 1, j, b, hj, hb, hr => by
    have hlt : j < g.f2.length := by omega
    obtain ⟨x, hx⟩ : ∃ x, g.f2.getD j z75 = x := ⟨_, rfl⟩
    rw [take_drop z75 _ j hlt (by omega), List.map_cons, hx] at hr
    refine (give_l1 x0 i hi hi20 g hg x3 h3 s d r n (j + 1) (b ++ [it43 x]) (by omega) (one_more hb) (by simpa using hr)).step fun k => ?_
    simp only [boscagelaw16_Give.l1, rd74, rd75, hg, hx]
    rw [if_pos (by omega), if_pos (by omega), if_pos (by omega), if_pos (by omega), if_pos (by omega), if_pos (by omega), w_succ j (by omega)]
    rfl
theorem give_l0 (x0 : List S74) : ∀ (n i : Nat) (b : List S35), i + n = min x0.length 20 → b.length ≤ i → Ev (fun k => boscagelaw16_Give.l0 k x0 b (i : Int)) (b ++ ((x0.take 20).drop i).map gr35)
  | 0, i, b, hi, hb => by
    have hd : (x0.take 20).drop i = [] := List.drop_eq_nil_of_le (by rw [List.length_take]; omega)
    rw [hd]
    have hj : Ev (fun k => boscagelaw16_Give.j1 k x0 b (i : Int) false) b := Ev.now1 fun k => by simp [boscagelaw16_Give.j1]
    refine Ev.of_eq (Ev.step hj fun k => ?_) (by simp)
    simp only [boscagelaw16_Give.l0]
    by_cases h : i < x0.length
    · rw [if_pos (by omega), decide_eq_false (by omega)]
    · rw [if_neg (by omega)]
  | n + 1, i, b, hi, hb => by
    have hlt : i < x0.length := by omega
    obtain ⟨g, hg⟩ : ∃ g, x0.getD i z74 = g := ⟨_, rfl⟩
    have ih := give_l0 x0 n (i + 1) (b ++ [gr35 g]) (by omega) (one_more hb)
    have h1 := give_l1 x0 i hlt (by omega) g hg b (by omega) g.f0 g.f1 _ (min g.f2.length 20) 0 [] (by omega) (by simp) (by simpa only [List.nil_append, List.drop_zero, gr35] using ih)
    rw [take_drop z74 _ i hlt (by omega), List.map_cons, hg]
    have hj : Ev (fun k => boscagelaw16_Give.j1 k x0 b (i : Int) true) (b ++ [gr35 g] ++ ((x0.take 20).drop (i + 1)).map gr35) := by
      refine h1.step fun k => ?_
      simp only [boscagelaw16_Give.j1, rd74, hg]
      rw [if_pos trivial, if_pos (by omega), if_pos (by omega)]
      rfl
    refine Ev.of_eq (Ev.step hj fun k => ?_) (by simp)
    simp only [boscagelaw16_Give.l0]
    rw [if_pos (by omega), decide_eq_true (by omega)]
theorem give_ev (l : List S74) : Ev (fun k => boscagelaw16_Give.f k l) (give l) := by
  have h := give_l0 l (min l.length 20) 0 [] (by omega) (by simp)
  exact Ev.of_eq h (by simp [give])

theorem back_l1 (x0 : List S35) (i : Nat) (hi : i < x0.length) (hl : x0.length ≤ 100000) (g : S35) (hg : x0.getD i z35 = g) (hin : g.f2.length ≤ 100000) (x3 : List S74) (h3 : x3.length ≤ 100000) (s d : Int) (r : List S74) : ∀ (n j : Nat) (b : List S75), j + n = g.f2.length → b.length ≤ j →
    Ev (fun k => boscagelaw16_Back.l0 k x0 (x3 ++ [⟨s, d, b ++ (g.f2.drop j).map it75⟩]) ((i + 1 : Nat) : Int)) r →
    Ev (fun k => boscagelaw16_Back.l1 k x0 x3 (i : Int) (j : Int) s d b) r
  | 0, j, b, hj, hb, hr => by
    rw [List.drop_eq_nil_of_le (by omega)] at hr
    refine hr.step fun k => ?_
    simp only [boscagelaw16_Back.l1, rd35, hg]
    rw [if_pos (by omega), if_pos (by omega), w_succ i (by omega), if_neg (by omega), if_pos (by omega)]
    simp
  | n + 1, j, b, hj, hb, hr => by
    have hlt : j < g.f2.length := by omega
    obtain ⟨x, hx⟩ : ∃ x, g.f2.getD j z43 = x := ⟨_, rfl⟩
    rw [drop_get z43 _ j hlt, List.map_cons, hx] at hr
    refine (back_l1 x0 i hi hl g hg hin x3 h3 s d r n (j + 1) (b ++ [it75 x]) (by omega) (one_more hb) (by simpa using hr)).step fun k => ?_
    simp only [boscagelaw16_Back.l1, rd35, rd43, hg, hx]
    rw [if_pos (by omega), if_pos (by omega), if_pos (by omega), if_pos (by omega), if_pos (by omega), w_succ j (by omega)]
    rfl
theorem back_l0 (x0 : List S35) (hl : x0.length ≤ 100000) (hin : ∀ g ∈ x0, g.f2.length ≤ 100000) : ∀ (n i : Nat) (b : List S74), i + n = x0.length → b.length ≤ i → Ev (fun k => boscagelaw16_Back.l0 k x0 b (i : Int)) (b ++ (x0.drop i).map gr74)
  | 0, i, b, hi, hb => by
    rw [List.drop_eq_nil_of_le (by omega)]
    refine Ev.now1 fun k => ?_
    simp only [boscagelaw16_Back.l0]
    rw [if_neg (by omega)]
    simp
  | n + 1, i, b, hi, hb => by
    have hlt : i < x0.length := by omega
    obtain ⟨g, hg⟩ : ∃ g, x0.getD i z35 = g := ⟨_, rfl⟩
    have ih := back_l0 x0 hl hin n (i + 1) (b ++ [gr74 g]) (by omega) (one_more hb)
    have h1 := back_l1 x0 i hlt hl g hg (hin g (getD_mem z35 x0 i hlt hg)) b (by omega) g.f0 g.f1 _ g.f2.length 0 [] (by omega) (by simp) (by simpa only [List.nil_append, List.drop_zero, gr74] using ih)
    rw [drop_get z35 _ i hlt, List.map_cons, hg]
    refine Ev.of_eq (Ev.step h1 fun k => ?_) (by simp; rfl)
    simp only [boscagelaw16_Back.l0, rd35, hg]
    rw [if_pos (by omega), if_pos (by omega)]
    rfl
theorem back_ev (l : List S35) (hl : l.length ≤ 100000) (hin : ∀ g ∈ l, g.f2.length ≤ 100000) : Ev (fun k => boscagelaw16_Back.f k l) (back l) := by
  have h := back_l0 l hl hin l.length 0 [] (by omega) (by simp)
  exact Ev.of_eq h (by simp [back])

theorem same_l1 (l : List S74) (i : Nat) (hi : i < l.length) (g : S74) (hg : l.getD i z74 = g) (hin : g.f2.length ≤ 100000) (hl : l.length ≤ 100000) (hr : Ev (fun k => boscageref16_Same.l0 k l l ((i + 1 : Nat) : Int)) true) : ∀ (n j : Nat), j + n = g.f2.length → Ev (fun k => boscageref16_Same.l1 k l l (i : Int) (j : Int)) true
  | 0, j, hj => by
    refine hr.step fun k => ?_
    simp only [boscageref16_Same.l1, rd74, hg]
    rw [if_pos (by omega), if_pos (by omega), if_neg (by omega), w_succ i (by omega)]
  | n + 1, j, hj => by
    refine (same_l1 l i hi g hg hin hl hr n (j + 1) (by omega)).step fun k => ?_
    simp only [boscageref16_Same.l1, rd74, rd75, hg]
    rw [if_pos (by omega), if_pos (by omega), if_pos (by omega), if_pos (by omega), if_pos (by omega), if_pos (by omega), if_neg (by simp), w_succ j (by omega)]
theorem same_l0 (l : List S74) (hl : l.length ≤ 100000) (hin : ∀ g ∈ l, g.f2.length ≤ 100000) : ∀ (n i : Nat), i + n = l.length → Ev (fun k => boscageref16_Same.l0 k l l (i : Int)) true
  | 0, i, hi => Ev.now1 fun k => by
    simp only [boscageref16_Same.l0]
    rw [if_neg (by omega)]
  | n + 1, i, hi => by
    have hlt : i < l.length := by omega
    obtain ⟨g, hg⟩ : ∃ g, l.getD i z74 = g := ⟨_, rfl⟩
    have h1 := same_l1 l i hlt g hg (hin g (getD_mem z74 l i hlt hg)) hl (same_l0 l hl hin n (i + 1) (by omega)) g.f2.length 0 (by omega)
    have hj : Ev (fun k => boscageref16_Same.j1 k l l (i : Int) false) true := h1.step fun k => by simp only [boscageref16_Same.j1]; rw [if_neg (by simp)]; rfl
    refine hj.step fun k => ?_
    simp only [boscageref16_Same.l0, rd74, hg]
    rw [if_pos (by omega), if_pos (by omega), if_pos (by omega), if_pos trivial, if_pos trivial]
    simp
theorem same_ev (l : List S74) (hl : l.length ≤ 100000) (hin : ∀ g ∈ l, g.f2.length ≤ 100000) : Ev (fun k => boscageref16_Same.f k l l) true :=
  (same_l0 l hl hin l.length 0 (by omega)).congr fun k => by unfold boscageref16_Same.f; rw [if_pos rfl]; rfl

/-! ### Count -/
theorem back_in (l : List S35) (hin : ∀ g ∈ l, g.f2.length ≤ 100000) : ∀ g ∈ back l, g.f2.length ≤ 100000 := by
  intro g hg
  obtain ⟨y, hy, rfl⟩ := List.mem_map.1 hg
  simpa [gr74] using hin y hy
theorem back_len (l : List S35) : (back l).length = l.length := by simp [back]
end Go.Proofs.Ytjfogghpiclooaa.HSplit
