/- The plain law of LimboSplits and LimboOnce: what the printed functions compute, and that it answers as the statements say. -/
import Derived.Test.YtjfogghpiclooaaHSplitx8
import Derived.Test.YtjfogghpiclooaaHSplitx9
import Derived.Test.YtjfogghpiclooaaHSplitx6
namespace Go.Proofs.Ytjfogghpiclooaa.HSplit
open Go.RowKit Go.Proofs.YtjfogghpiclooaaW.PrintWords Go.Proofs.YtjfogghpiclooaaW.PrintLast Go.Proofs.YtjfogghpiclooaaW.PrintMore
set_option linter.unusedVariables false
set_option linter.unusedSimpArgs false

/-- From some fuel on, it tells v. -/
def Ev {α : Type} (f : Nat → Option α) (v : α) : Prop := ∃ k0, ∀ k, k0 ≤ k → f k = some v
theorem Ev.now {α : Type} {f : Nat → Option α} {v : α} (h : ∀ k, f k = some v) : Ev f v := ⟨0, fun k _ => h k⟩
theorem Ev.now1 {α : Type} {f : Nat → Option α} {v : α} (h : ∀ k, f (k + 1) = some v) : Ev f v := ⟨1, fun k hk => by obtain ⟨j, rfl⟩ : ∃ j, k = j + 1 := ⟨k - 1, by omega⟩; exact h j⟩
theorem Ev.step {α : Type} {f g : Nat → Option α} {v : α} (hg : Ev g v) (h : ∀ k, f (k + 1) = g k) : Ev f v := by
  obtain ⟨k0, hk⟩ := hg
  refine ⟨k0 + 1, fun k hk' => ?_⟩
  obtain ⟨j, rfl⟩ : ∃ j, k = j + 1 := ⟨k - 1, by omega⟩
  rw [h, hk j (by omega)]
theorem Ev.congr {α : Type} {f g : Nat → Option α} {v : α} (hg : Ev g v) (h : ∀ k, f k = g k) : Ev f v := by
  obtain ⟨k0, hk⟩ := hg
  exact ⟨k0, fun k hk' => by rw [h, hk k hk']⟩
theorem Ev.bind {α β : Type} {f : Nat → Option α} {g : Nat → α → Option β} {v : α} {r : β} (hf : Ev f v) (hg : Ev (fun k => g k v) r) : Ev (fun k => (f k).bind (g k)) r := by
  obtain ⟨a, ha⟩ := hf
  obtain ⟨b, hb⟩ := hg
  exact ⟨max a b, fun k hk => by show (f k).bind (g k) = some r; rw [ha k (by omega)]; exact hb k (by omega)⟩

theorem Ev.of_eq {α : Type} {f : Nat → Option α} {v v' : α} (h : Ev f v) (e : v = v') : Ev f v' := e ▸ h
theorem one_more {α : Type} {a : List α} {x : α} {i : Nat} (h : a.length ≤ i) : (a ++ [x]).length ≤ i + 1 := by rw [List.length_append, List.length_singleton]; omega
theorem getD_mem {α : Type} (d : α) (l : List α) (i : Nat) (h : i < l.length) {g : α} (hg : l.getD i d = g) : g ∈ l := by rw [← hg]; simp [h]

theorem drop_get {α : Type} (d : α) (l : List α) (i : Nat) (h : i < l.length) : l.drop i = l.getD i d :: l.drop (i + 1) := by
  rw [List.drop_eq_getElem_cons h]
  simp [h]
theorem w_succ (i : Nat) (h : i < 4611686018427387904) : wrap64 ((i : Int) + 1) = ((i + 1 : Nat) : Int) := by unfold wrap64; omega
theorem rd75 (l : List S75) (i : Nat) : rd_T75 l (i : Int) = l.getD i z75 := rfl
theorem rd74 (l : List S74) (i : Nat) : rd_T74 l (i : Int) = l.getD i z74 := rfl
theorem rd43 (l : List S43) (i : Nat) : rd_T43 l (i : Int) = l.getD i z43 := rfl
theorem rd35 (l : List S35) (i : Nat) : rd_T35 l (i : Int) = l.getD i z35 := rfl

/-! ### part -/
def yes (p : Int → Int → Bool) (x : S43) : Bool := p x.f0 x.f1
def no (p : Int → Int → Bool) (x : S43) : Bool := !p x.f0 x.f1
theorem part_l (p : Int → Int → Bool) (l : List S43) (s d : Int) (hl : l.length ≤ 1000) : ∀ (n i : Nat) (a : List Int) (b : List S43), i + n = l.length → a.length ≤ i → b.length ≤ i →
    Ev (fun k => limbo_part.l0 k p a l (l.length : Int) (i : Int) s d b) (a ++ ((l.drop i).filter (yes p)).map S43.f0, s, d, b ++ (l.drop i).filter (no p))
  | 0, i, a, b, hi, ha, hb => Ev.now1 fun k => by
    have : i = l.length := by omega
    subst this
    simp only [limbo_part.l0]
    rw [if_neg (by omega)]
    simp
  | n + 1, i, a, b, hi, ha, hb => by
    have hlt : i < l.length := by omega
    obtain ⟨x, hx⟩ : ∃ x, l.getD i z43 = x := ⟨_, rfl⟩
    rw [drop_get z43 l i hlt, hx]
    cases hp : p x.f0 x.f1 with
    | true =>
      refine Ev.of_eq (Ev.step (part_l p l s d hl n (i + 1) (a ++ [x.f0]) b (by omega) (one_more ha) (by omega)) fun k => ?_) ?_
      · simp only [limbo_part.l0, span_Has.f, rd43, Option.bind_some, hx, hp]
        rw [if_pos (by omega), if_pos (by omega), if_pos (by omega), if_pos trivial, if_pos (by omega), w_succ i (by omega)]
      · simp [List.filter_cons, yes, no, hp]
    | false =>
      refine Ev.of_eq (Ev.step (part_l p l s d hl n (i + 1) a (b ++ [x]) (by omega) (by omega) (one_more hb)) fun k => ?_) ?_
      · simp only [limbo_part.l0, span_Has.f, rd43, Option.bind_some, hx, hp]
        rw [if_pos (by omega), if_pos (by omega), if_pos (by omega), if_neg (by simp), if_pos (by omega), w_succ i (by omega)]
      · simp [List.filter_cons, yes, no, hp]
theorem part_ev (p : Int → Int → Bool) (l : List S43) (s d : Int) (hl : l.length ≤ 1000) : Ev (fun k => limbo_part.f k s d l p) ((l.filter (yes p)).map S43.f0, s, d, l.filter (no p)) := by
  have h := part_l p l s d hl l.length 0 [] [] (by omega) (by simp) (by simp)
  exact Ev.of_eq h (by simp)

/-! ### Split -/
def goesAt (vs es : List Int) (g : S35) : Int → Int → Bool := goes (es.any fun e => decide (e ≤ g.f0)) g.f1 vs
def freeOf (vs es : List Int) (g : S35) : List Int := (g.f2.filter (yes (goesAt vs es g))).map S43.f0
def restOf (vs es : List Int) (g : S35) : List S35 := if 0 < (g.f2.filter (no (goesAt vs es g))).length then [⟨g.f0, g.f1, g.f2.filter (no (goesAt vs es g))⟩] else []
theorem free_len (vs es : List Int) (g : S35) : (freeOf vs es g).length ≤ g.f2.length := by unfold freeOf; rw [List.length_map]; exact List.length_filter_le _ _
theorem rest_len (vs es : List Int) (g : S35) : (restOf vs es g).length ≤ 1 := by unfold restOf; split <;> simp
theorem split_l (vs es : List Int) (l : List S35) (hl : l.length ≤ 1000) (hi : ∀ g ∈ l, g.f2.length ≤ 1000) : ∀ (n i : Nat) (a : List Int) (b : List S35), i + n = l.length → a.length ≤ 1000 * i → b.length ≤ i →
    Ev (fun k => limbo_Split.l0 k vs es a b l (l.length : Int) (i : Int)) (a ++ (l.drop i).flatMap (freeOf vs es), b ++ (l.drop i).flatMap (restOf vs es))
  | 0, i, a, b, hi0, ha, hb => Ev.now1 fun k => by
    have : i = l.length := by omega
    subst this
    simp only [limbo_Split.l0]
    rw [if_neg (by omega)]
    simp
  | n + 1, i, a, b, hi0, ha, hb => by
    have hlt : i < l.length := by omega
    obtain ⟨g, hg⟩ : ∃ g, l.getD i z35 = g := ⟨_, rfl⟩
    have hm : g ∈ l := by rw [← hg]; simp [hlt]
    have hgl := hi g hm
    have hp := part_ev (goesAt vs es g) g.f2 g.f0 g.f1 hgl
    have hf := free_len vs es g
    have hr := rest_len vs es g
    have ih := split_l vs es l hl hi n (i + 1) (a ++ freeOf vs es g) (b ++ restOf vs es g) (by omega) (by rw [List.length_append]; omega) (by rw [List.length_append]; omega)
    have key : Ev (fun k => (limbo_part.f k g.f0 g.f1 g.f2 (goes (es.any fun e => decide (e ≤ g.f0)) g.f1 vs)).bind fun bt124 => (if a.length + bt124.1.length < 17592186044416 then ((some (a ++ bt124.1 : List Int)).bind fun y133 => (if (bt124.2.2.2.length : Int) > 0 then (if b.length < 3518437208883 then (limbo_Split.l0 k vs es y133 (b ++ [(⟨bt124.2.1, bt124.2.2.1, bt124.2.2.2⟩ : S35)]) l (l.length : Int) (wrap64 ((i : Int) + 1))) else (none)) else (limbo_Split.l0 k vs es y133 b l (l.length : Int) (wrap64 ((i : Int) + 1))))) else (none)))
        (a ++ freeOf vs es g ++ (l.drop (i + 1)).flatMap (freeOf vs es), b ++ restOf vs es g ++ (l.drop (i + 1)).flatMap (restOf vs es)) := by
      refine Ev.bind (v := _) hp ?_
      refine ih.congr fun k => ?_
      have e1 : (g.f2.filter (yes (goesAt vs es g))).map S43.f0 = freeOf vs es g := rfl
      dsimp only
      rw [e1, if_pos (by omega), Option.bind_some, w_succ i (by omega)]
      by_cases h0 : 0 < (g.f2.filter (no (goesAt vs es g))).length
      · rw [if_pos (by omega), if_pos (by omega), show restOf vs es g = [⟨g.f0, g.f1, g.f2.filter (no (goesAt vs es g))⟩] from by unfold restOf; rw [if_pos h0]]
      · rw [if_neg (by omega), show restOf vs es g = [] from by unfold restOf; rw [if_neg h0], List.append_nil]
    rw [drop_get z35 l i hlt, hg, List.flatMap_cons, List.flatMap_cons]
    refine Ev.of_eq (Ev.step key fun k => ?_) ?_
    · simp only [limbo_Split.l0, slices_ContainsFunc_int_int.f, rd35, Option.bind_some, hg]
      rw [if_pos (by omega), if_pos (by omega), if_pos (by omega)]
    · simp
theorem split_ev (vs es : List Int) (l : List S35) (hl : l.length ≤ 1000) (hi : ∀ g ∈ l, g.f2.length ≤ 1000) (hv : vs.length ≤ 1000) (he : es.length ≤ 1000) : Ev (fun k => limbo_Split.f k l vs es) (l.flatMap (freeOf vs es), l.flatMap (restOf vs es)) := by
  have h := split_l vs es l hl hi l.length 0 [] [] (by omega) (by simp) (by simp)
  refine Ev.of_eq (h.congr fun k => ?_) (by simp)
  unfold limbo_Split.f
  rw [if_pos ⟨by omega, by omega⟩]
  rfl

/-! ### Give, Back -/
def it43 (x : S75) : S43 := ⟨x.f0, x.f1⟩
def it75 (x : S43) : S75 := ⟨x.f0, x.f1⟩
def gr35 (g : S74) : S35 := ⟨g.f0, g.f1, (g.f2.take 20).map it43⟩
def gr74 (g : S35) : S74 := ⟨g.f0, g.f1, g.f2.map it75⟩
def give (l : List S74) : List S35 := (l.take 20).map gr35
def back (l : List S35) : List S74 := l.map gr74
theorem give_len (l : List S74) : (give l).length ≤ 20 := by simp [give]; omega
theorem give_in (l : List S74) : ∀ g ∈ give l, g.f2.length ≤ 20 := by
  intro g hg
  obtain ⟨y, _, rfl⟩ := List.mem_map.1 hg
  simp [gr35]; omega
theorem take_drop {α : Type} (d : α) (l : List α) (i : Nat) (h : i < l.length) (h2 : i < 20) : (l.take 20).drop i = l.getD i d :: (l.take 20).drop (i + 1) := by
  rw [drop_get d _ i (by rw [List.length_take]; omega)]
  congr 1
  simp [List.getElem?_take, h2]
theorem give_l1 (x0 : List S74) (i : Nat) (hi : i < x0.length) (hi20 : i < 20) (g : S74) (hg : x0.getD i z74 = g) (x3 : List S35) (h3 : x3.length ≤ 20) (s d : Int) (r : List S35) : ∀ (n j : Nat) (b : List S43), j + n = min g.f2.length 20 → b.length ≤ j →
    Ev (fun k => boscagelaw16_Give.l0 k x0 (x3 ++ [⟨s, d, b ++ ((g.f2.take 20).drop j).map it43⟩]) ((i + 1 : Nat) : Int)) r →
    Ev (fun k => boscagelaw16_Give.l1 k x0 x3 (i : Int) (j : Int) s d b) r
  | 0, j, b, hj, hb, hr => by
    have hd : (g.f2.take 20).drop j = [] := List.drop_eq_nil_of_le (by rw [List.length_take]; omega)
    rw [hd] at hr
    refine hr.step fun k => ?_
    simp only [boscagelaw16_Give.l1, rd74, hg]
    rw [if_pos (by omega), if_pos (by omega), w_succ i (by omega)]
    by_cases h : j < g.f2.length
    · rw [if_pos (by omega), if_neg (by omega), if_pos (by omega)]
      simp
    · rw [if_neg (by omega), if_pos (by omega)]
      simp
  | n + 1, j, b, hj, hb, hr => by
    have hlt : j < g.f2.length := by omega
    obtain ⟨x, hx⟩ : ∃ x, g.f2.getD j z75 = x := ⟨_, rfl⟩
    rw [take_drop z75 _ j hlt (by omega), List.map_cons, hx] at hr
    refine (give_l1 x0 i hi hi20 g hg x3 h3 s d r n (j + 1) (b ++ [it43 x]) (by omega) (one_more hb) (by simpa using hr)).step fun k => ?_
    simp only [boscagelaw16_Give.l1, rd74, rd75, hg, hx]
    rw [if_pos (by omega), if_pos (by omega), if_pos (by omega), if_pos (by omega), if_pos (by omega), if_pos (by omega), w_succ j (by omega)]
    rfl
theorem give_l0 (x0 : List S74) : ∀ (n i : Nat) (b : List S35), i + n = min x0.length 20 → b.length ≤ i → Ev (fun k => boscagelaw16_Give.l0 k x0 b (i : Int)) (b ++ ((x0.take 20).drop i).map gr35)
  | 0, i, b, hi, hb => by
    have hd : (x0.take 20).drop i = [] := List.drop_eq_nil_of_le (by rw [List.length_take]; omega)
    rw [hd]
    have hj : Ev (fun k => boscagelaw16_Give.j1 k x0 b (i : Int) false) b := Ev.now1 fun k => by simp [boscagelaw16_Give.j1]
    refine Ev.of_eq (Ev.step hj fun k => ?_) (by simp)
    simp only [boscagelaw16_Give.l0]
    by_cases h : i < x0.length
    · rw [if_pos (by omega), decide_eq_false (by omega)]
    · rw [if_neg (by omega)]
  | n + 1, i, b, hi, hb => by
    have hlt : i < x0.length := by omega
    obtain ⟨g, hg⟩ : ∃ g, x0.getD i z74 = g := ⟨_, rfl⟩
    have ih := give_l0 x0 n (i + 1) (b ++ [gr35 g]) (by omega) (one_more hb)
    have h1 := give_l1 x0 i hlt (by omega) g hg b (by omega) g.f0 g.f1 _ (min g.f2.length 20) 0 [] (by omega) (by simp) (by simpa only [List.nil_append, List.drop_zero, gr35] using ih)
    rw [take_drop z74 _ i hlt (by omega), List.map_cons, hg]
    have hj : Ev (fun k => boscagelaw16_Give.j1 k x0 b (i : Int) true) (b ++ [gr35 g] ++ ((x0.take 20).drop (i + 1)).map gr35) := by
      refine h1.step fun k => ?_
      simp only [boscagelaw16_Give.j1, rd74, hg]
      rw [if_pos trivial, if_pos (by omega), if_pos (by omega)]
      rfl
    refine Ev.of_eq (Ev.step hj fun k => ?_) (by simp)
    simp only [boscagelaw16_Give.l0]
    rw [if_pos (by omega), decide_eq_true (by omega)]
theorem give_ev (l : List S74) : Ev (fun k => boscagelaw16_Give.f k l) (give l) := by
  have h := give_l0 l (min l.length 20) 0 [] (by omega) (by simp)
  exact Ev.of_eq h (by simp [give])

theorem back_l1 (x0 : List S35) (i : Nat) (hi : i < x0.length) (hl : x0.length ≤ 1000) (g : S35) (hg : x0.getD i z35 = g) (hin : g.f2.length ≤ 1000) (x3 : List S74) (h3 : x3.length ≤ 1000) (s d : Int) (r : List S74) : ∀ (n j : Nat) (b : List S75), j + n = g.f2.length → b.length ≤ j →
    Ev (fun k => boscagelaw16_Back.l0 k x0 (x3 ++ [⟨s, d, b ++ (g.f2.drop j).map it75⟩]) ((i + 1 : Nat) : Int)) r →
    Ev (fun k => boscagelaw16_Back.l1 k x0 x3 (i : Int) (j : Int) s d b) r
  | 0, j, b, hj, hb, hr => by
    rw [List.drop_eq_nil_of_le (by omega)] at hr
    refine hr.step fun k => ?_
    simp only [boscagelaw16_Back.l1, rd35, hg]
    rw [if_pos (by omega), if_pos (by omega), w_succ i (by omega), if_neg (by omega), if_pos (by omega)]
    simp
  | n + 1, j, b, hj, hb, hr => by
    have hlt : j < g.f2.length := by omega
    obtain ⟨x, hx⟩ : ∃ x, g.f2.getD j z43 = x := ⟨_, rfl⟩
    rw [drop_get z43 _ j hlt, List.map_cons, hx] at hr
    refine (back_l1 x0 i hi hl g hg hin x3 h3 s d r n (j + 1) (b ++ [it75 x]) (by omega) (one_more hb) (by simpa using hr)).step fun k => ?_
    simp only [boscagelaw16_Back.l1, rd35, rd43, hg, hx]
    rw [if_pos (by omega), if_pos (by omega), if_pos (by omega), if_pos (by omega), if_pos (by omega), w_succ j (by omega)]
    rfl
theorem back_l0 (x0 : List S35) (hl : x0.length ≤ 1000) (hin : ∀ g ∈ x0, g.f2.length ≤ 1000) : ∀ (n i : Nat) (b : List S74), i + n = x0.length → b.length ≤ i → Ev (fun k => boscagelaw16_Back.l0 k x0 b (i : Int)) (b ++ (x0.drop i).map gr74)
  | 0, i, b, hi, hb => by
    rw [List.drop_eq_nil_of_le (by omega)]
    refine Ev.now1 fun k => ?_
    simp only [boscagelaw16_Back.l0]
    rw [if_neg (by omega)]
    simp
  | n + 1, i, b, hi, hb => by
    have hlt : i < x0.length := by omega
    obtain ⟨g, hg⟩ : ∃ g, x0.getD i z35 = g := ⟨_, rfl⟩
    have ih := back_l0 x0 hl hin n (i + 1) (b ++ [gr74 g]) (by omega) (one_more hb)
    have h1 := back_l1 x0 i hlt hl g hg (hin g (getD_mem z35 x0 i hlt hg)) b (by omega) g.f0 g.f1 _ g.f2.length 0 [] (by omega) (by simp) (by simpa only [List.nil_append, List.drop_zero, gr74] using ih)
    rw [drop_get z35 _ i hlt, List.map_cons, hg]
    refine Ev.of_eq (Ev.step h1 fun k => ?_) (by simp; rfl)
    simp only [boscagelaw16_Back.l0, rd35, hg]
    rw [if_pos (by omega), if_pos (by omega)]
    rfl
theorem back_ev (l : List S35) (hl : l.length ≤ 1000) (hin : ∀ g ∈ l, g.f2.length ≤ 1000) : Ev (fun k => boscagelaw16_Back.f k l) (back l) := by
  have h := back_l0 l hl hin l.length 0 [] (by omega) (by simp)
  exact Ev.of_eq h (by simp [back])

/-! ### the document's Free and Split -/
theorem free_l1 (vs : List Int) (s d : Int) (l : List S75) (a b : Int) (hv : vs.length ≤ 1000) : ∀ (n i : Nat), i + n = vs.length → Ev (fun k => boscageref16_Free.l1 k vs (i : Int) s d l a b) (!((vs.drop i).any fun v => inSpan b d v))
  | 0, i, hi => Ev.now1 fun k => by
    simp only [boscageref16_Free.l1]
    rw [if_neg (by omega), List.drop_eq_nil_of_le (by omega)]
    rfl
  | n + 1, i, hi => by
    have hlt : i < vs.length := by omega
    obtain ⟨v, hx⟩ : ∃ v, vs.getD i 0 = v := ⟨_, rfl⟩
    have hrd : rd vs (i : Int) = v := by rw [← hx]; rfl
    have hh : boscageref15_Has.f b d v = some (inSpan b d v) := by
      unfold boscageref15_Has.f inSpan
      by_cases h : v < b
      · rw [if_pos h, decide_eq_false (show ¬ b ≤ v by omega)]; rfl
      · rw [if_neg h, decide_eq_true (show b ≤ v by omega)]; rfl
    rw [drop_get 0 vs i hlt, hx, List.any_cons]
    cases hq : inSpan b d v with
    | true =>
      refine Ev.now1 fun k => ?_
      simp only [boscageref16_Free.l1, hrd, hh, hq, Option.bind_some]
      rw [if_pos (by omega), if_pos (by omega), if_pos trivial]
      rfl
    | false =>
      refine Ev.of_eq (Ev.step (free_l1 vs s d l a b hv n (i + 1) (by omega)) fun k => ?_) (by simp)
      simp only [boscageref16_Free.l1, hrd, hh, hq, Option.bind_some]
      rw [if_pos (by omega), if_pos (by omega), if_neg (by simp), w_succ i (by omega)]
theorem free_l0 (vs es : List Int) (s d : Int) (l : List S75) (a b : Int) (hv : vs.length ≤ 1000) (he : es.length ≤ 1000) : ∀ (n i : Nat), i + n = es.length → Ev (fun k => boscageref16_Free.l0 k vs es (i : Int) s d l a b) (!((es.drop i).any fun e => decide (e ≤ s)) && !(vs.any fun v => inSpan b d v))
  | 0, i, hi => by
    refine Ev.of_eq (Ev.step (free_l1 vs s d l a b hv vs.length 0 (by omega)) fun k => ?_) (by rw [List.drop_eq_nil_of_le (show es.length ≤ i by omega)]; simp)
    simp only [boscageref16_Free.l0]
    rw [if_neg (by omega)]
    rfl
  | n + 1, i, hi => by
    have hlt : i < es.length := by omega
    obtain ⟨v, hx⟩ : ∃ v, es.getD i 0 = v := ⟨_, rfl⟩
    have hrd : rd es (i : Int) = v := by rw [← hx]; rfl
    rw [drop_get 0 es i hlt, hx, List.any_cons]
    by_cases hq : v ≤ s
    · refine Ev.now1 fun k => ?_
      simp only [boscageref16_Free.l0, hrd]
      rw [if_pos (by omega), if_pos (by omega), if_pos hq, decide_eq_true hq]
      rfl
    · refine Ev.of_eq (Ev.step (free_l0 vs es s d l a b hv he n (i + 1) (by omega)) fun k => ?_) (by rw [decide_eq_false hq, Bool.false_or])
      simp only [boscageref16_Free.l0, hrd]
      rw [if_pos (by omega), if_pos (by omega), if_neg hq, w_succ i (by omega)]
theorem free_ev (vs es : List Int) (s d : Int) (l : List S75) (a b : Int) (hv : vs.length ≤ 1000) (he : es.length ≤ 1000) : Ev (fun k => boscageref16_Free.f k s d l a b vs es) (goes (es.any fun e => decide (e ≤ s)) d vs a b) :=
  free_l0 vs es s d l a b hv he es.length 0 (by omega)

def yes5 (p : Int → Int → Bool) (x : S75) : Bool := p x.f0 x.f1
def no5 (p : Int → Int → Bool) (x : S75) : Bool := !p x.f0 x.f1
def goesAt4 (vs es : List Int) (g : S74) : Int → Int → Bool := goes (es.any fun e => decide (e ≤ g.f0)) g.f1 vs
def freeOf4 (vs es : List Int) (g : S74) : List Int := (g.f2.filter (yes5 (goesAt4 vs es g))).map S75.f0
def restOf4 (vs es : List Int) (g : S74) : List S74 := if 0 < (g.f2.filter (no5 (goesAt4 vs es g))).length then [⟨g.f0, g.f1, g.f2.filter (no5 (goesAt4 vs es g))⟩] else []
theorem free_len4 (vs es : List Int) (g : S74) : (freeOf4 vs es g).length ≤ g.f2.length := by unfold freeOf4; rw [List.length_map]; exact List.length_filter_le _ _
theorem rest_len4 (vs es : List Int) (g : S74) : (restOf4 vs es g).length ≤ 1 := by unfold restOf4; split <;> simp
theorem rsplit_l1 (vs es : List Int) (hv : vs.length ≤ 1000) (he : es.length ≤ 1000) (l : List S74) (i : Nat) (hi : i < l.length) (hl : l.length ≤ 1000) (g : S74) (hg : l.getD i z74 = g) (hin : g.f2.length ≤ 1000) (b : List S74) (hb : b.length ≤ 1000) (r : List Int × List S74) : ∀ (n j : Nat) (a : List Int) (c : List S75), j + n = g.f2.length → a.length ≤ 1000000 + j → c.length ≤ j →
    (0 < (c ++ (g.f2.drop j).filter (no5 (goesAt4 vs es g))).length → Ev (fun k => boscageref16_Split.l0 k l vs es (a ++ ((g.f2.drop j).filter (yes5 (goesAt4 vs es g))).map S75.f0) (b ++ [⟨g.f0, g.f1, c ++ (g.f2.drop j).filter (no5 (goesAt4 vs es g))⟩]) ((i + 1 : Nat) : Int)) r) →
    ((c ++ (g.f2.drop j).filter (no5 (goesAt4 vs es g))).length = 0 → Ev (fun k => boscageref16_Split.l0 k l vs es (a ++ ((g.f2.drop j).filter (yes5 (goesAt4 vs es g))).map S75.f0) b ((i + 1 : Nat) : Int)) r) →
    Ev (fun k => boscageref16_Split.l1 k l vs es a b (i : Int) (j : Int) g.f0 g.f1 c) r
  | 0, j, a, c, hj, ha, hc, h1, h2 => by
    rw [List.drop_eq_nil_of_le (by omega)] at h1 h2
    simp only [List.filter_nil, List.append_nil, List.map_nil] at h1 h2
    by_cases h0 : 0 < c.length
    · refine (h1 h0).step fun k => ?_
      simp only [boscageref16_Split.l1, rd74, hg]
      rw [if_pos (by omega), if_pos (by omega), if_neg (by omega), if_pos (by omega), if_pos (by omega), w_succ i (by omega)]
    · refine (h2 (by omega)).step fun k => ?_
      simp only [boscageref16_Split.l1, rd74, hg]
      rw [if_pos (by omega), if_pos (by omega), if_neg (by omega), if_neg (by omega), w_succ i (by omega)]
  | n + 1, j, a, c, hj, ha, hc, h1, h2 => by
    have hlt : j < g.f2.length := by omega
    obtain ⟨x, hx⟩ : ∃ x, g.f2.getD j z75 = x := ⟨_, rfl⟩
    rw [drop_get z75 _ j hlt, hx] at h1 h2
    have hf := free_ev vs es g.f0 g.f1 g.f2 x.f0 x.f1 hv he
    cases hp : goesAt4 vs es g x.f0 x.f1 with
    | true =>
      have e1 : (x :: g.f2.drop (j + 1)).filter (no5 (goesAt4 vs es g)) = (g.f2.drop (j + 1)).filter (no5 (goesAt4 vs es g)) := by simp [List.filter_cons, no5, hp]
      have e2 : a ++ ((x :: g.f2.drop (j + 1)).filter (yes5 (goesAt4 vs es g))).map S75.f0 = a ++ [x.f0] ++ ((g.f2.drop (j + 1)).filter (yes5 (goesAt4 vs es g))).map S75.f0 := by simp [List.filter_cons, yes5, hp]
      rw [e1, e2] at h1 h2
      have ih := rsplit_l1 vs es hv he l i hi hl g hg hin b hb r n (j + 1) (a ++ [x.f0]) c (by omega) (by rw [List.length_append, List.length_singleton]; omega) (by omega) h1 h2
      have hp' : goes (es.any fun e => decide (e ≤ g.f0)) g.f1 vs x.f0 x.f1 = true := hp
      refine Ev.step (g := fun k => (boscageref16_Free.f k g.f0 g.f1 g.f2 x.f0 x.f1 vs es).bind fun t177 => (if t177 = true then (if a.length < 17592186044416 then (boscageref16_Split.l1 k l vs es (a ++ [x.f0]) b (i : Int) (wrap64 ((j : Int) + 1)) g.f0 g.f1 c) else (none)) else (if c.length < 8796093022208 then (boscageref16_Split.l1 k l vs es a b (i : Int) (wrap64 ((j : Int) + 1)) g.f0 g.f1 (c ++ [(⟨x.f0, x.f1⟩ : S75)])) else (none)))) ?_ fun k => ?_
      · refine Ev.bind (hp' ▸ hf) ?_
        refine ih.congr fun k => ?_
        rw [if_pos rfl, if_pos (by omega), w_succ j (by omega)]
      · simp only [boscageref16_Split.l1, rd74, rd75, hg, hx]
        rw [if_pos (by omega), if_pos (by omega), if_pos (by omega), if_pos (by omega)]
    | false =>
      have e1 : c ++ (x :: g.f2.drop (j + 1)).filter (no5 (goesAt4 vs es g)) = c ++ [x] ++ (g.f2.drop (j + 1)).filter (no5 (goesAt4 vs es g)) := by simp [List.filter_cons, no5, hp]
      have e2 : (x :: g.f2.drop (j + 1)).filter (yes5 (goesAt4 vs es g)) = (g.f2.drop (j + 1)).filter (yes5 (goesAt4 vs es g)) := by simp [List.filter_cons, yes5, hp]
      rw [e1, e2] at h1 h2
      have ih := rsplit_l1 vs es hv he l i hi hl g hg hin b hb r n (j + 1) a (c ++ [x]) (by omega) (by omega) (one_more hc) h1 h2
      have hp' : goes (es.any fun e => decide (e ≤ g.f0)) g.f1 vs x.f0 x.f1 = false := hp
      refine Ev.step (g := fun k => (boscageref16_Free.f k g.f0 g.f1 g.f2 x.f0 x.f1 vs es).bind fun t177 => (if t177 = true then (if a.length < 17592186044416 then (boscageref16_Split.l1 k l vs es (a ++ [x.f0]) b (i : Int) (wrap64 ((j : Int) + 1)) g.f0 g.f1 c) else (none)) else (if c.length < 8796093022208 then (boscageref16_Split.l1 k l vs es a b (i : Int) (wrap64 ((j : Int) + 1)) g.f0 g.f1 (c ++ [(⟨x.f0, x.f1⟩ : S75)])) else (none)))) ?_ fun k => ?_
      · refine Ev.bind (hp' ▸ hf) ?_
        refine ih.congr fun k => ?_
        rw [if_neg (by simp), if_pos (by omega), w_succ j (by omega)]
      · simp only [boscageref16_Split.l1, rd74, rd75, hg, hx]
        rw [if_pos (by omega), if_pos (by omega), if_pos (by omega), if_pos (by omega)]
theorem rsplit_l (vs es : List Int) (hv : vs.length ≤ 1000) (he : es.length ≤ 1000) (l : List S74) (hl : l.length ≤ 1000) (hi : ∀ g ∈ l, g.f2.length ≤ 1000) : ∀ (n i : Nat) (a : List Int) (b : List S74), i + n = l.length → a.length ≤ 1000 * i → b.length ≤ i →
    Ev (fun k => boscageref16_Split.l0 k l vs es a b (i : Int)) (a ++ (l.drop i).flatMap (freeOf4 vs es), b ++ (l.drop i).flatMap (restOf4 vs es))
  | 0, i, a, b, hi0, ha, hb => Ev.now1 fun k => by
    simp only [boscageref16_Split.l0]
    rw [if_neg (by omega), List.drop_eq_nil_of_le (by omega)]
    simp
  | n + 1, i, a, b, hi0, ha, hb => by
    have hlt : i < l.length := by omega
    obtain ⟨g, hg⟩ : ∃ g, l.getD i z74 = g := ⟨_, rfl⟩
    have hgl := hi g (getD_mem z74 l i hlt hg)
    have hf := free_len4 vs es g
    have hr := rest_len4 vs es g
    have ih := rsplit_l vs es hv he l hl hi n (i + 1) (a ++ freeOf4 vs es g) (b ++ restOf4 vs es g) (by omega) (by rw [List.length_append]; omega) (by rw [List.length_append]; omega)
    rw [drop_get z74 l i hlt, hg, List.flatMap_cons, List.flatMap_cons]
    have key := rsplit_l1 vs es hv he l i hlt hl g hg hgl b (by omega) (a ++ freeOf4 vs es g ++ (l.drop (i + 1)).flatMap (freeOf4 vs es), b ++ restOf4 vs es g ++ (l.drop (i + 1)).flatMap (restOf4 vs es)) g.f2.length 0 a [] (by omega) (by omega) (by simp)
      (fun h => by
        rw [List.drop_zero, List.nil_append] at h ⊢
        have e : restOf4 vs es g = [⟨g.f0, g.f1, g.f2.filter (no5 (goesAt4 vs es g))⟩] := by unfold restOf4; rw [if_pos h]
        rw [e] at ih ⊢
        exact ih)
      (fun h => by
        rw [List.drop_zero, List.nil_append] at h
        rw [List.drop_zero]
        have e : restOf4 vs es g = [] := by unfold restOf4; rw [if_neg (by omega)]
        rw [e, List.append_nil] at ih
        rw [e, List.append_nil]
        exact ih)
    refine Ev.of_eq (Ev.step key fun k => ?_) (by simp)
    simp only [boscageref16_Split.l0, rd74, hg]
    rw [if_pos (by omega), if_pos (by omega)]
    rfl
theorem rsplit_ev (vs es : List Int) (l : List S74) (hl : l.length ≤ 1000) (hi : ∀ g ∈ l, g.f2.length ≤ 1000) (hv : vs.length ≤ 1000) (he : es.length ≤ 1000) : Ev (fun k => boscageref16_Split.f k l vs es) (l.flatMap (freeOf4 vs es), l.flatMap (restOf4 vs es)) :=
  Ev.of_eq (rsplit_l vs es hv he l hl hi l.length 0 [] [] (by omega) (by simp) (by simp)) (by simp)

/-! ### the program's Split is the document's -/
theorem free_same (vs es : List Int) (g : S35) : freeOf4 vs es (gr74 g) = freeOf vs es g := by
  unfold freeOf4 freeOf gr74
  simp only [List.filter_map, List.map_map]
  rfl
theorem kept_same (vs es : List Int) (g : S35) : (gr74 g).f2.filter (no5 (goesAt4 vs es (gr74 g))) = (g.f2.filter (no (goesAt vs es g))).map it75 := by
  unfold gr74
  simp only [List.filter_map]
  rfl
theorem rest_same (vs es : List Int) (g : S35) : restOf4 vs es (gr74 g) = (restOf vs es g).map gr74 := by
  unfold restOf4 restOf
  rw [kept_same, List.length_map]
  split
  · rfl
  · rfl
theorem free_all (vs es : List Int) (l : List S35) : (back l).flatMap (freeOf4 vs es) = l.flatMap (freeOf vs es) := by
  unfold back
  rw [List.flatMap_map]
  congr 1
  funext g
  exact free_same vs es g
theorem rest_all (vs es : List Int) (l : List S35) : (back l).flatMap (restOf4 vs es) = back (l.flatMap (restOf vs es)) := by
  unfold back
  rw [List.flatMap_map, List.map_flatMap]
  congr 1
  funext g
  exact rest_same vs es g

/-! ### the same -/
theorem refs_l (l : List Int) (hl : l.length ≤ 1000000) : ∀ (n i : Nat), i + n = l.length → Ev (fun k => boscageref09_SameRefs.l0 k l l (i : Int)) true
  | 0, i, hi => Ev.now1 fun k => by
    simp only [boscageref09_SameRefs.l0]
    rw [if_neg (by omega)]
  | n + 1, i, hi => by
    refine (refs_l l hl n (i + 1) (by omega)).step fun k => ?_
    simp only [boscageref09_SameRefs.l0]
    rw [if_pos (by omega), if_pos (by omega), if_pos (by omega), if_pos trivial, w_succ i (by omega)]
theorem refs_ev (l : List Int) (hl : l.length ≤ 1000000) : Ev (fun k => boscageref09_SameRefs.f k l l) true :=
  (refs_l l hl l.length 0 (by omega)).congr fun k => by unfold boscageref09_SameRefs.f; rw [if_pos rfl]; rfl
theorem same_l1 (l : List S74) (i : Nat) (hi : i < l.length) (g : S74) (hg : l.getD i z74 = g) (hin : g.f2.length ≤ 1000) (hl : l.length ≤ 1000) (hr : Ev (fun k => boscageref16_Same.l0 k l l ((i + 1 : Nat) : Int)) true) : ∀ (n j : Nat), j + n = g.f2.length → Ev (fun k => boscageref16_Same.l1 k l l (i : Int) (j : Int)) true
  | 0, j, hj => by
    refine hr.step fun k => ?_
    simp only [boscageref16_Same.l1, rd74, hg]
    rw [if_pos (by omega), if_pos (by omega), if_neg (by omega), w_succ i (by omega)]
  | n + 1, j, hj => by
    refine (same_l1 l i hi g hg hin hl hr n (j + 1) (by omega)).step fun k => ?_
    simp only [boscageref16_Same.l1, rd74, rd75, hg]
    rw [if_pos (by omega), if_pos (by omega), if_pos (by omega), if_pos (by omega), if_pos (by omega), if_pos (by omega), if_neg (by simp), w_succ j (by omega)]
theorem same_l0 (l : List S74) (hl : l.length ≤ 1000) (hin : ∀ g ∈ l, g.f2.length ≤ 1000) : ∀ (n i : Nat), i + n = l.length → Ev (fun k => boscageref16_Same.l0 k l l (i : Int)) true
  | 0, i, hi => Ev.now1 fun k => by
    simp only [boscageref16_Same.l0]
    rw [if_neg (by omega)]
  | n + 1, i, hi => by
    have hlt : i < l.length := by omega
    obtain ⟨g, hg⟩ : ∃ g, l.getD i z74 = g := ⟨_, rfl⟩
    have h1 := same_l1 l i hlt g hg (hin g (getD_mem z74 l i hlt hg)) hl (same_l0 l hl hin n (i + 1) (by omega)) g.f2.length 0 (by omega)
    have hj : Ev (fun k => boscageref16_Same.j1 k l l (i : Int) false) true := h1.step fun k => by simp only [boscageref16_Same.j1]; rw [if_neg (by simp)]; rfl
    refine hj.step fun k => ?_
    simp only [boscageref16_Same.l0, rd74, hg]
    rw [if_pos (by omega), if_pos (by omega), if_pos (by omega), if_pos trivial, if_pos trivial]
    simp
theorem same_ev (l : List S74) (hl : l.length ≤ 1000) (hin : ∀ g ∈ l, g.f2.length ≤ 1000) : Ev (fun k => boscageref16_Same.f k l l) true :=
  (same_l0 l hl hin l.length 0 (by omega)).congr fun k => by unfold boscageref16_Same.f; rw [if_pos rfl]; rfl

/-! ### Count -/
def sizes (l : List S35) : Nat := (l.map fun g => g.f2.length).sum
theorem w_add (a b : Nat) (h : a + b < 4611686018427387904) : wrap64 ((a : Int) + (b : Int)) = ((a + b : Nat) : Int) := by unfold wrap64; omega
theorem count_l (l : List S35) (hl : l.length ≤ 1000) (hin : ∀ g ∈ l, g.f2.length ≤ 1000) : ∀ (n i c : Nat), i + n = l.length → c ≤ 1000 * i → Ev (fun k => limbo_Count.l0 k (c : Int) l (l.length : Int) (i : Int)) ((c + sizes (l.drop i) : Nat) : Int)
  | 0, i, c, hi, hc => Ev.now1 fun k => by
    simp only [limbo_Count.l0]
    rw [if_neg (by omega), List.drop_eq_nil_of_le (by omega)]
    rfl
  | n + 1, i, c, hi, hc => by
    have hlt : i < l.length := by omega
    obtain ⟨g, hg⟩ : ∃ g, l.getD i z35 = g := ⟨_, rfl⟩
    have hgl := hin g (getD_mem z35 l i hlt hg)
    rw [drop_get z35 l i hlt, hg]
    refine Ev.of_eq (Ev.step (count_l l hl hin n (i + 1) (c + g.f2.length) (by omega) (by omega)) fun k => ?_) (by simp only [sizes, List.map_cons, List.sum_cons]; omega)
    simp only [limbo_Count.l0, rd35, hg]
    rw [if_pos (by omega), if_pos (by omega), if_pos (by omega), w_succ i (by omega), w_add _ _ (by omega)]
theorem count_ev (l : List S35) (hl : l.length ≤ 1000) (hin : ∀ g ∈ l, g.f2.length ≤ 1000) : Ev (fun k => limbo_Count.f k l) (sizes l : Int) :=
  Ev.of_eq (count_l l hl hin l.length 0 0 (by omega) (by omega)) (by simp)

/-! ### LimboSplits -/
theorem ints_ev (l : List Int) (hl : l.length ≤ 1000) : boscagebase_Ints.f l = some l := by
  unfold boscagebase_Ints.f
  rw [Option.bind_some, if_pos (by simp; omega)]
  rfl
theorem rest_in (vs es : List Int) (l : List S35) (hin : ∀ g ∈ l, g.f2.length ≤ 1000) : ∀ g ∈ l.flatMap (restOf vs es), g.f2.length ≤ 1000 := by
  intro g hg
  obtain ⟨y, hy, hgy⟩ := List.mem_flatMap.1 hg
  unfold restOf at hgy
  split at hgy
  · obtain rfl := List.mem_singleton.1 hgy
    exact Nat.le_trans (List.length_filter_le _ _) (hin y hy)
  · cases hgy
theorem rests_len (vs es : List Int) : ∀ l : List S35, (l.flatMap (restOf vs es)).length ≤ l.length
  | [] => by simp
  | g :: l => by
    have h1 := rest_len vs es g
    have h2 := rests_len vs es l
    rw [List.flatMap_cons, List.length_append, List.length_cons]
    omega
theorem frees_len (vs es : List Int) : ∀ l : List S35, (∀ g ∈ l, g.f2.length ≤ 1000) → (l.flatMap (freeOf vs es)).length ≤ 1000 * l.length
  | [], _ => by simp
  | g :: l, h => by
    have h1 := free_len vs es g
    have h2 := frees_len vs es l (fun x hx => h x (List.mem_cons_of_mem _ hx))
    have h3 := h g List.mem_cons_self
    rw [List.flatMap_cons, List.length_append, List.length_cons]
    omega
theorem back_in (l : List S35) (hin : ∀ g ∈ l, g.f2.length ≤ 1000) : ∀ g ∈ back l, g.f2.length ≤ 1000 := by
  intro g hg
  obtain ⟨y, hy, rfl⟩ := List.mem_map.1 hg
  simpa [gr74] using hin y hy
theorem back_len (l : List S35) : (back l).length = l.length := by simp [back]

theorem splits_l (x0 : List S74) (F : List Int) (R : List S35) (hF : F.length ≤ 1000000) (hR : R.length ≤ 1000) (hRi : ∀ g ∈ R, g.f2.length ≤ 1000) : ∀ (n i c : Nat), i + n = (give x0).length → c + sizes ((give x0).drop i) = sizes (give x0) → c ≤ 1000 * i →
    Ev (fun k => boscagelaw16_LimboSplits.l0 k x0 F R F (back R) (c : Int) (i : Int)) true
  | 0, i, c, hi, hc, hc2 => by
    have hg := give_ev x0
    have hgl := give_len x0
    have hgi := give_in x0
    have hcnt := count_ev (give x0) (by omega) (fun g hg => Nat.le_trans (hgi g hg) (by decide))
    rw [List.drop_eq_nil_of_le (by omega)] at hc
    have hc' : c = sizes (give x0) := hc
    have hw : Ev (fun _ : Nat => (boscagelaw16_works.f).bind fun t274 => (some t274)) true := Ev.now fun k => rfl
    refine Ev.step (g := fun k => (boscagelaw16_Give.f k x0).bind fun t258 => (if (i : Int) < (t258.length : Int) then ((boscagelaw16_Give.f k x0).bind fun t261 => (if (0 : Int) ≤ i then (if (i : Int) < (t261.length : Int) then (boscagelaw16_LimboSplits.l0 k x0 F R F (back R) (wrap64 ((c : Int) + (((rd_T35 t261 i).f2).length : Int))) (wrap64 ((i : Int) + 1))) else (none)) else (none))) else ((boscageref09_SameRefs.f k F F).bind fun t265 => (if t265 = true then ((boscagelaw16_Back.f k R).bind fun t266 => ((boscageref16_Same.f k t266 (back R)).bind fun t269 => (if t269 = true then ((boscagelaw16_Give.f k x0).bind fun t270 => ((limbo_Count.f k t270).bind fun t273 => (if t273 = (c : Int) then ((boscagelaw16_works.f).bind fun t274 => (some t274)) else (some false)))) else (some false)))) else (some false))))) ?_ (fun k => rfl)
    refine Ev.bind hg ?_
    refine Ev.congr (g := fun k => (boscageref09_SameRefs.f k F F).bind fun t265 => (if t265 = true then ((boscagelaw16_Back.f k R).bind fun t266 => ((boscageref16_Same.f k t266 (back R)).bind fun t269 => (if t269 = true then ((boscagelaw16_Give.f k x0).bind fun t270 => ((limbo_Count.f k t270).bind fun t273 => (if t273 = (c : Int) then ((boscagelaw16_works.f).bind fun t274 => (some t274)) else (some false)))) else (some false)))) else (some false))) ?_ (fun k => by rw [if_neg (by omega)])
    refine Ev.bind (refs_ev F hF) ?_
    refine Ev.congr (g := fun k => (boscagelaw16_Back.f k R).bind fun t266 => ((boscageref16_Same.f k t266 (back R)).bind fun t269 => (if t269 = true then ((boscagelaw16_Give.f k x0).bind fun t270 => ((limbo_Count.f k t270).bind fun t273 => (if t273 = (c : Int) then ((boscagelaw16_works.f).bind fun t274 => (some t274)) else (some false)))) else (some false)))) ?_ (fun k => by rw [if_pos rfl])
    refine Ev.bind (back_ev R hR hRi) ?_
    refine Ev.bind (same_ev (back R) (by rw [back_len]; exact hR) (back_in R hRi)) ?_
    refine Ev.congr (g := fun k => (boscagelaw16_Give.f k x0).bind fun t270 => ((limbo_Count.f k t270).bind fun t273 => (if t273 = (c : Int) then ((boscagelaw16_works.f).bind fun t274 => (some t274)) else (some false)))) ?_ (fun k => by rw [if_pos rfl])
    refine Ev.bind hg ?_
    refine Ev.bind hcnt ?_
    exact hw.congr fun k => by rw [if_pos (by omega)]
  | n + 1, i, c, hi, hc, hc2 => by
    have hgl := give_len x0
    have hgi := give_in x0
    obtain ⟨y, hy⟩ : ∃ y, (give x0).getD i z35 = y := ⟨_, rfl⟩
    have hlt : i < (give x0).length := by omega
    have hyl := hgi y (getD_mem z35 _ i hlt hy)
    rw [drop_get z35 _ i hlt, hy] at hc
    have hc' : c + y.f2.length + sizes ((give x0).drop (i + 1)) = sizes (give x0) := by simp only [sizes, List.map_cons, List.sum_cons] at hc ⊢; omega
    have ih := splits_l x0 F R hF hR hRi n (i + 1) (c + y.f2.length) (by omega) hc' (by omega)
    have hg := give_ev x0
    refine Ev.step (g := fun k => (boscagelaw16_Give.f k x0).bind fun t258 => (if (i : Int) < (t258.length : Int) then ((boscagelaw16_Give.f k x0).bind fun t261 => (if (0 : Int) ≤ i then (if (i : Int) < (t261.length : Int) then (boscagelaw16_LimboSplits.l0 k x0 F R F (back R) (wrap64 ((c : Int) + (((rd_T35 t261 i).f2).length : Int))) (wrap64 ((i : Int) + 1))) else (none)) else (none))) else ((boscageref09_SameRefs.f k F F).bind fun t265 => (if t265 = true then ((boscagelaw16_Back.f k R).bind fun t266 => ((boscageref16_Same.f k t266 (back R)).bind fun t269 => (if t269 = true then ((boscagelaw16_Give.f k x0).bind fun t270 => ((limbo_Count.f k t270).bind fun t273 => (if t273 = (c : Int) then ((boscagelaw16_works.f).bind fun t274 => (some t274)) else (some false)))) else (some false)))) else (some false))))) ?_ (fun k => rfl)
    refine Ev.bind hg ?_
    refine Ev.congr (g := fun k => (boscagelaw16_Give.f k x0).bind fun t261 => (if (0 : Int) ≤ i then (if (i : Int) < (t261.length : Int) then (boscagelaw16_LimboSplits.l0 k x0 F R F (back R) (wrap64 ((c : Int) + (((rd_T35 t261 i).f2).length : Int))) (wrap64 ((i : Int) + 1))) else (none)) else (none))) ?_ (fun k => by rw [if_pos (by omega)])
    refine Ev.bind hg ?_
    refine ih.congr fun k => ?_
    rw [if_pos (by omega), if_pos (by omega), rd35, hy, w_succ i (by omega), w_add _ _ (by omega)]

theorem mn20 (l : List Int) : 0 ≤ mn (l.length : Int) 20 ∧ mn (l.length : Int) 20 ≤ (l.length : Int) ∧ (l.take (mn (l.length : Int) 20).toNat).length ≤ 20 := by
  unfold mn
  split <;> simp [List.length_take] <;> omega

theorem splits_law (l0 : List S74) (l1 l2 : List Int) : ∃ k, boscagelaw16_LimboSplits.f k l0 l1 l2 = some true := by
  obtain ⟨a1, a2, a3⟩ := mn20 l1
  obtain ⟨b1, b2, b3⟩ := mn20 l2
  obtain ⟨vs, hvs⟩ : ∃ vs, l1.take (mn (l1.length : Int) 20).toNat = vs := ⟨_, rfl⟩
  obtain ⟨es, hes⟩ : ∃ es, l2.take (mn (l2.length : Int) 20).toNat = es := ⟨_, rfl⟩
  rw [hvs] at a3
  rw [hes] at b3
  have hgl := give_len l0
  have hgi : ∀ g ∈ give l0, g.f2.length ≤ 1000 := fun g hg => Nat.le_trans (give_in l0 g hg) (by decide)
  have iv := ints_ev vs (by omega)
  have ie := ints_ev es (by omega)
  have hS := split_ev vs es (give l0) (by omega) hgi (by omega) (by omega)
  have hB := back_ev (give l0) (by omega) hgi
  have hT := rsplit_ev vs es (back (give l0)) (by rw [back_len]; omega) (back_in _ hgi) (by omega) (by omega)
  rw [free_all, rest_all] at hT
  have hL := splits_l l0 ((give l0).flatMap (freeOf vs es)) ((give l0).flatMap (restOf vs es)) (by have := frees_len vs es (give l0) hgi; omega) (by have := rests_len vs es (give l0); omega) (rest_in vs es _ hgi) (give l0).length 0 0 (by omega) (by simp) (by omega)
  have hg := give_ev l0
  have key : Ev (fun k => boscagelaw16_LimboSplits.f k l0 l1 l2) true := by
    refine Ev.congr (g := fun k => (boscagelaw16_Give.f k l0).bind fun t231 => ((limbo_Split.f k t231 vs es).bind fun bt240 => ((boscagelaw16_Give.f k l0).bind fun t246 => ((boscagelaw16_Back.f k t246).bind fun t249 => ((boscageref16_Split.f k t249 vs es).bind fun bt252 => (boscagelaw16_LimboSplits.l0 k l0 bt240.1 bt240.2 bt252.1 bt252.2 0 0)))))) ?_ (fun k => ?_)
    · refine Ev.bind hg ?_
      refine Ev.bind hS ?_
      refine Ev.bind hg ?_
      refine Ev.bind hB ?_
      refine Ev.bind hT ?_
      exact hL
    · unfold boscagelaw16_LimboSplits.f
      rw [if_pos a1, if_pos a2, hvs, iv, Option.bind_some, if_pos b1, if_pos b2, hes, ie, Option.bind_some]
      simp only [iv, ie, Option.bind_some]
  obtain ⟨k0, hk⟩ := key
  exact ⟨k0, hk k0 (Nat.le_refl _)⟩

/-! ### LimboOnce -/
def cnt (r : Int) (l : List S43) : Nat := (l.filter fun x => decide (x.f0 = r)).length
def cnts (r : Int) (l : List S35) : Nat := (l.map fun g => cnt r g.f2).sum
def occ (r : Int) (l : List Int) : Nat := (l.filter fun v => decide (v = r)).length
theorem cnt_le (r : Int) (l : List S43) : cnt r l ≤ l.length := List.length_filter_le _ _
theorem occ_le (r : Int) (l : List Int) : occ r l ≤ l.length := List.length_filter_le _ _
theorem cnt_cons (r : Int) (x : S43) (l : List S43) : cnt r (x :: l) = (if x.f0 = r then 1 else 0) + cnt r l := by
  unfold cnt
  rw [List.filter_cons]
  by_cases h : x.f0 = r <;> simp [h] <;> omega
theorem occ_cons (r : Int) (x : Int) (l : List Int) : occ r (x :: l) = (if x = r then 1 else 0) + occ r l := by
  unfold occ
  rw [List.filter_cons]
  by_cases h : x = r <;> simp [h] <;> omega
theorem occ_append (r : Int) (a b : List Int) : occ r (a ++ b) = occ r a + occ r b := by simp [occ]
theorem cnts_append (r : Int) (a b : List S35) : cnts r (a ++ b) = cnts r a + cnts r b := by simp [cnts]
theorem sizes_append (a b : List S35) : sizes (a ++ b) = sizes a + sizes b := by simp [sizes]
theorem part_cnt (p : Int → Int → Bool) (r : Int) : ∀ l : List S43, cnt r l = occ r ((l.filter (yes p)).map S43.f0) + cnt r (l.filter (no p))
  | [] => rfl
  | x :: l => by
    have ih := part_cnt p r l
    cases hp : p x.f0 x.f1 with
    | true =>
      rw [List.filter_cons_of_pos (by simpa [yes] using hp), List.filter_cons_of_neg (by simp [no, hp]), List.map_cons, occ_cons, cnt_cons, ih]
      omega
    | false =>
      rw [List.filter_cons_of_neg (by simp [yes, hp]), List.filter_cons_of_pos (by simp [no, hp]), cnt_cons, cnt_cons, ih]
      omega
theorem part_len (p : Int → Int → Bool) : ∀ l : List S43, l.length = ((l.filter (yes p)).map S43.f0).length + (l.filter (no p)).length
  | [] => rfl
  | x :: l => by
    have ih := part_len p l
    rw [List.length_map] at ih ⊢
    cases hp : p x.f0 x.f1 with
    | true =>
      rw [List.filter_cons_of_pos (by simpa [yes] using hp), List.filter_cons_of_neg (by simp [no, hp]), List.length_cons, List.length_cons]
      omega
    | false =>
      rw [List.filter_cons_of_neg (by simp [yes, hp]), List.filter_cons_of_pos (by simp [no, hp]), List.length_cons, List.length_cons]
      omega
theorem rest_cnt (vs es : List Int) (r : Int) (g : S35) : cnts r (restOf vs es g) = cnt r (g.f2.filter (no (goesAt vs es g))) := by
  unfold restOf
  by_cases h : 0 < (g.f2.filter (no (goesAt vs es g))).length
  · rw [if_pos h]; simp [cnts]
  · have e : g.f2.filter (no (goesAt vs es g)) = [] := List.eq_nil_of_length_eq_zero (by omega)
    rw [if_neg h, e]
    rfl
theorem rest_size (vs es : List Int) (g : S35) : sizes (restOf vs es g) = (g.f2.filter (no (goesAt vs es g))).length := by
  unfold restOf
  by_cases h : 0 < (g.f2.filter (no (goesAt vs es g))).length
  · rw [if_pos h]; simp [sizes]
  · have e : g.f2.filter (no (goesAt vs es g)) = [] := List.eq_nil_of_length_eq_zero (by omega)
    rw [if_neg h, e]
    rfl
theorem all_cnt (vs es : List Int) (r : Int) : ∀ l : List S35, cnts r l = occ r (l.flatMap (freeOf vs es)) + cnts r (l.flatMap (restOf vs es))
  | [] => rfl
  | g :: l => by
    have ih := all_cnt vs es r l
    have hp := part_cnt (goesAt vs es g) r g.f2
    rw [List.flatMap_cons, List.flatMap_cons, occ_append, cnts_append, rest_cnt, show cnts r (g :: l) = cnt r g.f2 + cnts r l from by simp [cnts], ih, hp]
    unfold freeOf
    omega
theorem all_size (vs es : List Int) : ∀ l : List S35, sizes l = (l.flatMap (freeOf vs es)).length + sizes (l.flatMap (restOf vs es))
  | [] => rfl
  | g :: l => by
    have ih := all_size vs es l
    have hp := part_len (goesAt vs es g) g.f2
    rw [List.flatMap_cons, List.flatMap_cons, List.length_append, sizes_append, rest_size, show sizes (g :: l) = g.f2.length + sizes l from by simp [sizes], ih, hp]
    unfold freeOf
    omega
theorem cnts_le (r : Int) : ∀ l : List S35, (∀ g ∈ l, g.f2.length ≤ 1000) → cnts r l ≤ 1000 * l.length
  | [], _ => by simp [cnts]
  | g :: l, h => by
    have ih := cnts_le r l (fun x hx => h x (List.mem_cons_of_mem _ hx))
    have h1 := cnt_le r g.f2
    have h2 := h g List.mem_cons_self
    rw [show cnts r (g :: l) = cnt r g.f2 + cnts r l from by simp [cnts], List.length_cons]
    omega
theorem sizes_le : ∀ l : List S35, (∀ g ∈ l, g.f2.length ≤ 1000) → sizes l ≤ 1000 * l.length
  | [], _ => by simp [sizes]
  | g :: l, h => by
    have ih := sizes_le l (fun x hx => h x (List.mem_cons_of_mem _ hx))
    have h2 := h g List.mem_cons_self
    rw [show sizes (g :: l) = g.f2.length + sizes l from by simp [sizes], List.length_cons]
    omega

theorem many_l1 (l : List S35) (r : Int) (i : Nat) (hi : i < l.length) (hl : l.length ≤ 1000) (g : S35) (hg : l.getD i z35 = g) (hin : g.f2.length ≤ 1000) (v : Int) : ∀ (n j c : Nat), j + n = g.f2.length → c ≤ 1000000 + j →
    Ev (fun k => boscagelaw16_many.l0 k l r ((c + cnt r (g.f2.drop j) : Nat) : Int) ((i + 1 : Nat) : Int)) v → Ev (fun k => boscagelaw16_many.l1 k l r (c : Int) (i : Int) (j : Int)) v
  | 0, j, c, hj, hc, hr => by
    rw [List.drop_eq_nil_of_le (by omega)] at hr
    refine hr.step fun k => ?_
    simp only [boscagelaw16_many.l1, rd35, hg]
    rw [if_pos (by omega), if_pos (by omega), if_neg (by omega), w_succ i (by omega)]
    rfl
  | n + 1, j, c, hj, hc, hr => by
    have hlt : j < g.f2.length := by omega
    obtain ⟨x, hx⟩ : ∃ x, g.f2.getD j z43 = x := ⟨_, rfl⟩
    rw [drop_get z43 _ j hlt, hx, cnt_cons] at hr
    by_cases hq : x.f0 = r
    · rw [if_pos hq] at hr
      refine (many_l1 l r i hi hl g hg hin v n (j + 1) (c + 1) (by omega) (by omega) (by rw [Nat.add_assoc]; exact hr)).step fun k => ?_
      simp only [boscagelaw16_many.l1, rd35, rd43, hg, hx]
      rw [if_pos (by omega), if_pos (by omega), if_pos (by omega), if_pos (by omega), if_pos hq, w_succ j (by omega), w_succ c (by omega)]
    · rw [if_neg hq] at hr
      refine (many_l1 l r i hi hl g hg hin v n (j + 1) c (by omega) (by omega) (by rw [Nat.zero_add] at hr; exact hr)).step fun k => ?_
      simp only [boscagelaw16_many.l1, rd35, rd43, hg, hx]
      rw [if_pos (by omega), if_pos (by omega), if_pos (by omega), if_pos (by omega), if_neg hq, w_succ j (by omega)]
theorem many_l0 (l : List S35) (r : Int) (hl : l.length ≤ 1000) (hin : ∀ g ∈ l, g.f2.length ≤ 1000) : ∀ (n i c : Nat), i + n = l.length → c ≤ 1000 * i → Ev (fun k => boscagelaw16_many.l0 k l r (c : Int) (i : Int)) ((c + cnts r (l.drop i) : Nat) : Int)
  | 0, i, c, hi, hc => Ev.now1 fun k => by
    simp only [boscagelaw16_many.l0]
    rw [if_neg (by omega), List.drop_eq_nil_of_le (by omega)]
    rfl
  | n + 1, i, c, hi, hc => by
    have hlt : i < l.length := by omega
    obtain ⟨g, hg⟩ : ∃ g, l.getD i z35 = g := ⟨_, rfl⟩
    have hgl := hin g (getD_mem z35 l i hlt hg)
    have h1 := cnt_le r g.f2
    have ih := many_l0 l r hl hin n (i + 1) (c + cnt r g.f2) (by omega) (by omega)
    have h2 := many_l1 l r i hlt hl g hg hgl _ g.f2.length 0 c (by omega) (by omega) ih
    rw [drop_get z35 l i hlt, hg]
    refine Ev.of_eq (Ev.step h2 fun k => ?_) (by simp only [cnts, List.map_cons, List.sum_cons]; omega)
    simp only [boscagelaw16_many.l0]
    rw [if_pos (by omega)]
    rfl
theorem many_ev (l : List S35) (r : Int) (hl : l.length ≤ 1000) (hin : ∀ g ∈ l, g.f2.length ≤ 1000) : Ev (fun k => boscagelaw16_many.f k l r) (cnts r l : Int) :=
  Ev.of_eq (many_l0 l r hl hin l.length 0 0 (by omega) (by omega)) (by simp)

section
variable (G : List S35) (F : List Int) (R : List S35) (hG : G.length ≤ 1000) (hGi : ∀ g ∈ G, g.f2.length ≤ 1000) (hF : F.length ≤ 1000000) (hR : R.length ≤ 1000) (hRi : ∀ g ∈ R, g.f2.length ≤ 1000)
  (hc : ∀ r, cnts r G = occ r F + cnts r R) (hs : sizes G = F.length + sizes R)
include hG hGi hF hR hRi hc hs
theorem once_l2 (i j : Nat) (r : Int) (hj : j ≤ 1000) (hr : Ev (fun k => boscagelaw16_LimboOnce.l1 k G F R (i : Int) ((j + 1 : Nat) : Int)) true) : ∀ (n q c : Nat), q + n = F.length → c + occ r (F.drop q) = occ r F → c ≤ q → Ev (fun k => boscagelaw16_LimboOnce.l2 k G F R (i : Int) (j : Int) r (c : Int) (q : Int)) true
  | 0, q, c, hq, hcc, hcq => by
    rw [List.drop_eq_nil_of_le (by omega)] at hcc
    have e : c = occ r F := hcc
    have h1 := hc r
    have h2 := cnts_le r R hRi
    refine Ev.step (g := fun k => (boscagelaw16_many.f k G r).bind fun t305 => ((boscagelaw16_many.f k R r).bind fun t306 => (if t305 = (wrap64 ((c : Int) + t306)) then (boscagelaw16_LimboOnce.l1 k G F R (i : Int) (wrap64 ((j : Int) + 1))) else (some false)))) ?_ (fun k => by simp only [boscagelaw16_LimboOnce.l2]; rw [if_neg (by omega)])
    refine Ev.bind (many_ev G r hG hGi) ?_
    refine Ev.bind (many_ev R r hR hRi) ?_
    refine hr.congr fun k => ?_
    rw [w_add _ _ (by omega), if_pos (by omega), w_succ j (by omega)]
  | n + 1, q, c, hq, hcc, hcq => by
    have hlt : q < F.length := by omega
    obtain ⟨v, hv⟩ : ∃ v, F.getD q 0 = v := ⟨_, rfl⟩
    have hrd : rd F (q : Int) = v := by rw [← hv]; rfl
    rw [drop_get 0 F q hlt, hv, occ_cons] at hcc
    by_cases h : v = r
    · rw [if_pos h] at hcc
      refine (once_l2 i j r hj hr n (q + 1) (c + 1) (by omega) (by omega) (by omega)).step fun k => ?_
      simp only [boscagelaw16_LimboOnce.l2, hrd]
      rw [if_pos (by omega), if_pos (by omega), if_pos h, w_succ c (by omega), w_succ q (by omega)]
    · rw [if_neg h] at hcc
      refine (once_l2 i j r hj hr n (q + 1) c (by omega) (by omega) (by omega)).step fun k => ?_
      simp only [boscagelaw16_LimboOnce.l2, hrd]
      rw [if_pos (by omega), if_pos (by omega), if_neg h, w_succ q (by omega)]
theorem once_l1 (i : Nat) (hi : i < G.length) (g : S35) (hg : G.getD i z35 = g) (hr : Ev (fun k => boscagelaw16_LimboOnce.l0 k G F R ((i + 1 : Nat) : Int)) true) : ∀ (n j : Nat), j + n = g.f2.length → Ev (fun k => boscagelaw16_LimboOnce.l1 k G F R (i : Int) (j : Int)) true
  | 0, j, hj => by
    refine hr.step fun k => ?_
    simp only [boscagelaw16_LimboOnce.l1, rd35, hg]
    rw [if_pos (by omega), if_pos (by omega), if_neg (by omega), w_succ i (by omega)]
  | n + 1, j, hj => by
    have hgl := hGi g (getD_mem z35 G i hi hg)
    have ih := once_l1 i hi g hg hr n (j + 1) (by omega)
    have h2 := once_l2 G F R hG hGi hF hR hRi hc hs i j ((g.f2.getD j z43).f0) (by omega) ih F.length 0 0 (by omega) (by simp) (by omega)
    refine h2.step fun k => ?_
    simp only [boscagelaw16_LimboOnce.l1, rd35, rd43, hg]
    rw [if_pos (by omega), if_pos (by omega), if_pos (by omega), if_pos (by omega)]
    rfl
theorem once_l0 : ∀ (n i : Nat), i + n = G.length → Ev (fun k => boscagelaw16_LimboOnce.l0 k G F R (i : Int)) true
  | 0, i, hi => by
    have h1 := sizes_le R hRi
    refine Ev.step (g := fun k => (limbo_Count.f k G).bind fun t299 => ((limbo_Count.f k R).bind fun t300 => (some (t299 == (wrap64 ((F.length : Int) + t300)))))) ?_ (fun k => by simp only [boscagelaw16_LimboOnce.l0]; rw [if_neg (by omega)])
    refine Ev.bind (count_ev G hG hGi) ?_
    refine Ev.bind (count_ev R hR hRi) ?_
    refine Ev.now fun k => ?_
    rw [w_add _ _ (by omega), hs]
    simp
  | n + 1, i, hi => by
    have ih := once_l0 n (i + 1) (by omega)
    have h1 := once_l1 G F R hG hGi hF hR hRi hc hs i (by omega) _ rfl ih (G.getD i z35).f2.length 0 (by omega)
    refine h1.step fun k => ?_
    simp only [boscagelaw16_LimboOnce.l0]
    rw [if_pos (by omega)]
    rfl
end

theorem once_law (l0 : List S74) (l1 l2 : List Int) : ∃ k, boscagelaw16_LimboOnce.f k l0 l1 l2 = some true := by
  obtain ⟨a1, a2, a3⟩ := mn20 l1
  obtain ⟨b1, b2, b3⟩ := mn20 l2
  obtain ⟨vs, hvs⟩ : ∃ vs, l1.take (mn (l1.length : Int) 20).toNat = vs := ⟨_, rfl⟩
  obtain ⟨es, hes⟩ : ∃ es, l2.take (mn (l2.length : Int) 20).toNat = es := ⟨_, rfl⟩
  rw [hvs] at a3
  rw [hes] at b3
  have hgl := give_len l0
  have hgi : ∀ g ∈ give l0, g.f2.length ≤ 1000 := fun g hg => Nat.le_trans (give_in l0 g hg) (by decide)
  have iv := ints_ev vs (by omega)
  have ie := ints_ev es (by omega)
  have hS := split_ev vs es (give l0) (by omega) hgi (by omega) (by omega)
  have hL := once_l0 (give l0) ((give l0).flatMap (freeOf vs es)) ((give l0).flatMap (restOf vs es)) (by omega) hgi (by have := frees_len vs es (give l0) hgi; omega) (by have := rests_len vs es (give l0); omega) (rest_in vs es _ hgi) (fun r => all_cnt vs es r _) (all_size vs es _) (give l0).length 0 (by omega)
  have hg := give_ev l0
  have key : Ev (fun k => boscagelaw16_LimboOnce.f k l0 l1 l2) true := by
    refine Ev.congr (g := fun k => (boscagelaw16_Give.f k l0).bind fun t279 => ((boscagelaw16_Give.f k l0).bind fun t282 => ((limbo_Split.f k t282 vs es).bind fun bt293 => (boscagelaw16_LimboOnce.l0 k t279 bt293.1 bt293.2 0)))) ?_ (fun k => ?_)
    · refine Ev.bind hg ?_
      refine Ev.bind hg ?_
      refine Ev.bind hS ?_
      exact hL
    · unfold boscagelaw16_LimboOnce.f
      rw [show boscagelaw16_works.f = some true from rfl, Option.bind_some, if_pos rfl]
      simp only [if_pos a1, if_pos a2, if_pos b1, if_pos b2, hvs, hes, iv, ie, Option.bind_some]
  obtain ⟨k0, hk⟩ := key
  exact ⟨k0, hk k0 (Nat.le_refl _)⟩

end Go.Proofs.Ytjfogghpiclooaa.HSplit
