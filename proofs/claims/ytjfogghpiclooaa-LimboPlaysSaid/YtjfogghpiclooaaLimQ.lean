/- The plain law of copied, ref.Some and All: what the printed functions compute. -/
import Derived.Test.YtjfogghpiclooaaLimX
import Derived.Test.YtjfogghpiclooaaLimG
namespace Go.Proofs.Ytjfogghpiclooaa.HSplit
open Go.RowKit Go.Proofs.YtjfogghpiclooaaW.PrintWords Go.Proofs.YtjfogghpiclooaaW.PrintLast Go.Proofs.YtjfogghpiclooaaW.PrintMore
set_option linter.unusedVariables false
set_option linter.unusedSimpArgs false

/-- Groups, but those without items. -/
def kept (l : List S35) : List S35 := l.filter fun g => decide (0 < g.f2.length)
def kept4 (l : List S74) : List S74 := l.filter fun g => decide (0 < g.f2.length)
theorem kept_len (l : List S35) : (kept l).length ≤ l.length := List.length_filter_le _ _
theorem kept_cons (g : S35) (l : List S35) : kept (g :: l) = if 0 < g.f2.length then g :: kept l else kept l := by
  unfold kept
  rw [List.filter_cons]
  by_cases h : 0 < g.f2.length <;> simp [h]
theorem kept4_cons (g : S74) (l : List S74) : kept4 (g :: l) = if 0 < g.f2.length then g :: kept4 l else kept4 l := by
  unfold kept4
  rw [List.filter_cons]
  by_cases h : 0 < g.f2.length <;> simp [h]

theorem copied_l (l : List S35) (hl : l.length ≤ 1000) (hin : ∀ g ∈ l, g.f2.length ≤ 1000) : ∀ (n i : Nat) (a : List S35), i + n = l.length → a.length ≤ i →
    Ev (fun k => limbo_copied.l0 k a l (l.length : Int) (i : Int)) (a ++ kept (l.drop i))
  | 0, i, a, hi, ha => Ev.now1 fun k => by
    simp only [limbo_copied.l0]
    rw [if_neg (by omega), List.drop_eq_nil_of_le (by omega)]
    simp [kept]
  | n + 1, i, a, hi, ha => by
    have hlt : i < l.length := by omega
    obtain ⟨g, hg⟩ : ∃ g, l.getD i z35 = g := ⟨_, rfl⟩
    have hgl := hin g (getD_mem z35 l i hlt hg)
    rw [drop_get z35 l i hlt, hg, kept_cons]
    by_cases h0 : 0 < g.f2.length
    · rw [if_pos h0]
      refine Ev.of_eq (Ev.step (copied_l l hl hin n (i + 1) (a ++ [g]) (by omega) (one_more ha)) fun k => ?_) (by simp)
      simp only [limbo_copied.l0, limbo_Item.f, rd35, Option.bind_some, hg, List.nil_append, List.length_nil]
      rw [if_pos (by omega), if_pos (by omega), if_pos (by omega), if_pos (by omega), if_pos (by omega), Option.bind_some, if_pos (by omega), w_succ i (by omega)]
    · rw [if_neg h0]
      refine Ev.step (copied_l l hl hin n (i + 1) a (by omega) (by omega)) fun k => ?_
      simp only [limbo_copied.l0, rd35, hg]
      rw [if_pos (by omega), if_pos (by omega), if_pos (by omega), if_neg (by omega), w_succ i (by omega)]
theorem copied_ev (l : List S35) (hl : l.length ≤ 1000) (hin : ∀ g ∈ l, g.f2.length ≤ 1000) : Ev (fun k => limbo_copied.f k l) (kept l) :=
  Ev.of_eq (copied_l l hl hin l.length 0 [] (by omega) (by simp)) (by simp)

theorem some_l (l : List S74) (hl : l.length ≤ 1000) : ∀ (n i : Nat) (a : List S74), i + n = l.length → a.length ≤ i →
    Ev (fun k => boscageref16_Some.l0 k l a (i : Int)) (a ++ kept4 (l.drop i))
  | 0, i, a, hi, ha => Ev.now1 fun k => by
    simp only [boscageref16_Some.l0]
    rw [if_neg (by omega), List.drop_eq_nil_of_le (by omega)]
    simp [kept4]
  | n + 1, i, a, hi, ha => by
    have hlt : i < l.length := by omega
    obtain ⟨g, hg⟩ : ∃ g, l.getD i z74 = g := ⟨_, rfl⟩
    rw [drop_get z74 l i hlt, hg, kept4_cons]
    by_cases h0 : 0 < g.f2.length
    · rw [if_pos h0]
      refine Ev.of_eq (Ev.step (some_l l hl n (i + 1) (a ++ [g]) (by omega) (one_more ha)) fun k => ?_) (by simp)
      simp only [boscageref16_Some.l0, rd74, hg]
      rw [if_pos (by omega), if_pos (by omega), if_pos (by omega), if_pos (by omega), w_succ i (by omega)]
    · rw [if_neg h0]
      refine Ev.step (some_l l hl n (i + 1) a (by omega) (by omega)) fun k => ?_
      simp only [boscageref16_Some.l0, rd74, hg]
      rw [if_pos (by omega), if_pos (by omega), if_neg (by omega), w_succ i (by omega)]
theorem some_ev (l : List S74) (hl : l.length ≤ 1000) : Ev (fun k => boscageref16_Some.f k l) (kept4 l) :=
  Ev.of_eq (some_l l hl l.length 0 [] (by omega) (by simp)) (by simp)

theorem kept_back (l : List S35) : kept4 (back l) = back (kept l) := by
  induction l with
  | nil => rfl
  | cons g l ih =>
    show kept4 (gr74 g :: back l) = _
    rw [kept4_cons, kept_cons, ih]
    have : (gr74 g).f2.length = g.f2.length := by simp [gr74]
    rw [this]
    by_cases h : 0 < g.f2.length
    · rw [if_pos h, if_pos h]; rfl
    · rw [if_neg h, if_neg h]
theorem kept_all (l : List S35) (h : ∀ g ∈ l, 0 < g.f2.length) : kept l = l := List.filter_eq_self.2 fun g hg => decide_eq_true (h g hg)
theorem kept_in (l : List S35) : ∀ g ∈ kept l, g ∈ l ∧ 0 < g.f2.length := fun g hg => by
  obtain ⟨h1, h2⟩ := List.mem_filter.1 hg
  exact ⟨h1, of_decide_eq_true h2⟩

theorem rdL7 (l : List (List S35)) (i : Nat) : rd_L7 l (i : Int) = l.getD i [] := rfl
theorem all_l (ls : List (List S35)) (hl : ls.length ≤ 64) (h1 : ∀ l ∈ ls, l.length ≤ 1000) (h2 : ∀ l ∈ ls, ∀ g ∈ l, g.f2.length ≤ 1000) : ∀ (n i : Nat) (a : List S35), i + n = ls.length → a.length ≤ 1000 * i →
    Ev (fun k => limbo_Lists_All.l0 k a ls (ls.length : Int) (i : Int)) (a ++ (ls.drop i).flatMap kept)
  | 0, i, a, hi, ha => Ev.now1 fun k => by
    simp only [limbo_Lists_All.l0]
    rw [if_neg (by omega), List.drop_eq_nil_of_le (by omega)]
    simp
  | n + 1, i, a, hi, ha => by
    have hlt : i < ls.length := by omega
    obtain ⟨l, hg⟩ : ∃ l, ls.getD i [] = l := ⟨_, rfl⟩
    have hm := getD_mem [] ls i hlt hg
    have hc := copied_ev l (h1 l hm) (h2 l hm)
    have hk := kept_len l
    have hl1 := h1 l hm
    rw [drop_get [] ls i hlt, hg, List.flatMap_cons]
    have ih := all_l ls hl h1 h2 n (i + 1) (a ++ kept l) (by omega) (by rw [List.length_append]; omega)
    have key : Ev (fun k => (limbo_copied.f k l).bind fun t172 => if a.length + t172.length < 3518437208883 then limbo_Lists_All.l0 k (a ++ t172) ls (ls.length : Int) (wrap64 ((i : Int) + 1)) else none) (a ++ kept l ++ (ls.drop (i + 1)).flatMap kept) := by
      refine Ev.bind (v := _) hc (ih.congr fun k => ?_)
      rw [if_pos (by omega), w_succ i (by omega)]
    refine Ev.of_eq (Ev.step key fun k => ?_) (by simp)
    simp only [limbo_Lists_All.l0, rdL7, hg]
    rw [if_pos (by omega), if_pos (by omega), if_pos (by omega)]
theorem all_ev (ls : List (List S35)) (hl : ls.length ≤ 64) (h1 : ∀ l ∈ ls, l.length ≤ 1000) (h2 : ∀ l ∈ ls, ∀ g ∈ l, g.f2.length ≤ 1000) : Ev (fun k => limbo_Lists_All.f k ls) (ls.flatMap kept) :=
  Ev.of_eq (all_l ls hl h1 h2 ls.length 0 [] (by omega) (by simp)) (by simp)
end Go.Proofs.Ytjfogghpiclooaa.HSplit
