/- The closures of limbo.Split, and what calls them: slices.IndexFunc and ContainsFunc at []int, span.Has, span.Some. -/
import Derived.Test.YtjfogghpiclooaaHSplitx1
import Derived.Shelf.GgClosure.Gives
namespace Go.Proofs.Ytjfogghpiclooaa.HSplit
open Go.RowKit Go.Proofs.YtjfogghpiclooaaW.PrintWords Go.Proofs.YtjfogghpiclooaaW.PrintLast Go.Proofs.YtjfogghpiclooaaW.PrintMore
set_option linter.unusedVariables false
set_option linter.unusedSimpArgs false

/-- Is a version within birth and death? -/
def inSpan (a b v : Int) : Bool := decide (a ≤ v) && decide (v < b)

theorem has34 (a b v : Int) (w : World) : Calls Try.prog 34 #[.int .i64 a, .int .i64 b, .int .i64 v] w fun e w' => e = .returned (.bool (inSpan a b v)) ∧ Drawn0 w w' := by
  unfold inSpan
  obtain ⟨b0, h0⟩ : ∃ b0, decide (a ≤ v) = b0 := ⟨_, rfl⟩
  obtain ⟨b1, h1⟩ : ∃ b1, decide (v < b) = b1 := ⟨_, rfl⟩
  rw [h0, h1]
  cases b0 with
  | true =>
    go_enter Try.func34, Try.ntmps34
    go_wp2
    go_ret
    exact ⟨rfl, by repeat (first | exact Drawn0.refl _ | apply Drawn0.step)⟩
  | false =>
    clear h1
    go_enter Try.func34, Try.ntmps34
    go_wp2
    go_ret
    exact ⟨rfl, by repeat (first | exact Drawn0.refl _ | apply Drawn0.step)⟩

/-- slices.IndexFunc at []int: the first place of which the function says yes. -/
theorem index_hit (g : Nat) (lb : Array Value) (p : Int → Bool) (eg : ∀ args w, (callFunc g args).run Try.prog w = .ok (.enter g args) w) (A : Option Addr) (c : Nat) (l : List Int) (w : World)
    (hr : Kd.C (Kd.int .i64) w A l.length l) (hp : Aside0 (PredAt Try.prog g lb (Value.int .i64) p w)) (j : Nat) (hj : j < l.length) (hb : (j : Int) ≤ 9223372036854775807) (hit : Aside0 (p (rd l j) = true)) (hno : Aside0 (∀ q : Nat, q < j → p (rd l q) = false)) :
    Calls Try.prog 32 #[.slice A l.length c, .func (.func g) #[] lb] w fun e w' => e = .returned (.int .i64 j) ∧ Drawn0 w w' := by
  have HR := Aside0.mk hr
  clear hr
  go_enter Try.func32, Try.ntmps32
  go_wp2
  go_loopg [5, 8] (j + 1) (fun gg _ s8 wr => ∃ kk q : Nat, kk ≤ j ∧ j + 1 - kk ≤ gg ∧ s8 = .int .i64 kk ∧ wr = w.drewN q)
  case atStart => exact ⟨0, 0, Nat.zero_le _, by omega, rfl, rfl⟩
  case round =>
    obtain ⟨kk, q, hkk, hg, rfl, rfl⟩ := hrel
    have hlt : (kk : Int) < (l.length : Int) := by omega
    obtain ⟨ad, e, hx⟩ := Kd.at_int HR.out kk (by omega) hlt
    cases e
    rw [Int.toNat_natCast] at hx
    have hcall := hp.out (w.drewN q) (rd l kk) (below_drewN' (Below.refl _ w) q)
    unfold FnGives at hcall
    by_cases ek : kk = j
    · subst ek
      rw [hit.out] at hcall
      have HC := Aside0.mk hcall
      clear hcall
      go_wp2_with (go_at_fn g; refine HC.out.mono ?_; rintro e w' ⟨rfl, q', rfl⟩)
      go_ret
      exact ⟨rfl, by repeat (first | exact Drawn0.refl _ | apply Drawn0.step)⟩
    · rw [hno.out kk (by omega)] at hcall
      have HC := Aside0.mk hcall
      clear hcall
      go_wp2_with (go_at_fn g; refine HC.out.mono ?_; rintro e w' ⟨rfl, q', rfl⟩)
      go_roundg (j + 1 - (kk + 1))
      case measure => omega
      case rel => exact ⟨kk + 1, _, by omega, by omega, by go_num, rfl⟩

theorem index_miss (g : Nat) (lb : Array Value) (p : Int → Bool) (eg : ∀ args w, (callFunc g args).run Try.prog w = .ok (.enter g args) w) (A : Option Addr) (c : Nat) (l : List Int) (w : World)
    (hr : Kd.C (Kd.int .i64) w A l.length l) (hp : Aside0 (PredAt Try.prog g lb (Value.int .i64) p w)) (hb : (l.length : Int) ≤ 9223372036854775807) (hno : Aside0 (∀ q : Nat, q < l.length → p (rd l q) = false)) :
    Calls Try.prog 32 #[.slice A l.length c, .func (.func g) #[] lb] w fun e w' => e = .returned (.int .i64 (-1)) ∧ Drawn0 w w' := by
  have HR := Aside0.mk hr
  clear hr
  go_enter Try.func32, Try.ntmps32
  go_wp2
  go_loopg [5, 8] (l.length + 1) (fun gg _ s8 wr => ∃ kk q : Nat, kk ≤ l.length ∧ l.length + 1 - kk ≤ gg ∧ s8 = .int .i64 kk ∧ wr = w.drewN q)
  case atStart => exact ⟨0, 0, Nat.zero_le _, by omega, rfl, rfl⟩
  case round =>
    obtain ⟨kk, q, hkk, hg, rfl, rfl⟩ := hrel
    by_cases hk : kk < l.length
    · have hlt : (kk : Int) < (l.length : Int) := by omega
      obtain ⟨ad, e, hx⟩ := Kd.at_int HR.out kk (by omega) hlt
      cases e
      rw [Int.toNat_natCast] at hx
      have hcall := hp.out (w.drewN q) (rd l kk) (below_drewN' (Below.refl _ w) q)
      unfold FnGives at hcall
      rw [hno.out kk (by omega)] at hcall
      have HC := Aside0.mk hcall
      clear hcall
      go_wp2_with (go_at_fn g; refine HC.out.mono ?_; rintro e w' ⟨rfl, q', rfl⟩)
      go_roundg (l.length + 1 - (kk + 1))
      case measure => omega
      case rel => exact ⟨kk + 1, _, by omega, by omega, by go_num, rfl⟩
    · have hlt : ¬ (kk : Int) < (l.length : Int) := by omega
      go_wp2
      go_ret
      exact ⟨rfl, by repeat (first | exact Drawn0.refl _ | apply Drawn0.step)⟩

/-- The first place, or none. -/
theorem first_of (p : Int → Bool) : ∀ l : List Int, (l.any p = true ∧ ∃ j : Nat, j < l.length ∧ p (rd l j) = true ∧ ∀ q : Nat, q < j → p (rd l q) = false) ∨ (l.any p = false ∧ ∀ q : Nat, q < l.length → p (rd l q) = false)
  | [] => Or.inr ⟨rfl, fun q h => absurd h (by simp)⟩
  | x :: l => by
    cases hx : p x with
    | true => exact Or.inl ⟨by simp [hx], 0, by simp, by simpa [rd] using hx, fun q h => absurd h (by omega)⟩
    | false =>
      rcases first_of p l with ⟨h1, j, h2, h3, h4⟩ | ⟨h1, h2⟩
      · refine Or.inl ⟨by simp [h1], j + 1, by simpa using h2, by simpa [rd] using h3, fun q hq => ?_⟩
        cases q with
        | zero => simpa [rd] using hx
        | succ q => simpa [rd] using h4 q (by omega)
      · refine Or.inr ⟨by simp [hx, h1], fun q hq => ?_⟩
        cases q with
        | zero => simpa [rd] using hx
        | succ q => simpa [rd] using h2 q (by simpa using hq)

theorem index32 (g : Nat) (lb : Array Value) (p : Int → Bool) (eg : ∀ args w, (callFunc g args).run Try.prog w = .ok (.enter g args) w) (A : Option Addr) (c : Nat) (l : List Int) (w : World)
    (hr : Kd.C (Kd.int .i64) w A l.length l) (hl : l.length ≤ 9223372036854775807) (hp : Aside0 (PredAt Try.prog g lb (Value.int .i64) p w)) :
    Calls Try.prog 32 #[.slice A l.length c, .func (.func g) #[] lb] w fun e w' => (∃ i : Int, e = .returned (.int .i64 i) ∧ ((l.any p = true ∧ 0 ≤ i ∧ i < l.length) ∨ (l.any p = false ∧ i = -1))) ∧ Drawn0 w w' := by
  rcases first_of p l with ⟨h1, j, h2, h3, h4⟩ | ⟨h1, h2⟩
  · exact (index_hit g lb p eg A c l w hr hp j h2 (by omega) ⟨h3⟩ ⟨h4⟩).mono fun e w' ⟨he, hd⟩ => ⟨⟨j, he, Or.inl ⟨h1, by omega, by omega⟩⟩, hd⟩
  · exact (index_miss g lb p eg A c l w hr hp (by omega) ⟨h2⟩).mono fun e w' ⟨he, hd⟩ => ⟨⟨-1, he, Or.inr ⟨h1, rfl⟩⟩, hd⟩

/-- The closure over a group: is an epoch at most the group's stamp? -/
theorem pred25 (s : Int) (g : Nat) (w : World) (hg : g < w.heap.size) (hc : w.cell? ⟨g, 0, none⟩ = some (.int .i64 s)) : PredAt Try.prog 25 #[.pointer (some ⟨g, 0, none⟩)] (Value.int .i64) (fun e => decide (e ≤ s)) w := fun W x hbel => by
  have h1 : W.cell? ⟨g, 0, none⟩ = some (.int .i64 s) := (hbel.cell (p := ⟨g, 0, none⟩) hg).trans hc
  have hu := Try.underlying35
  clear hbel hc
  show Calls Try.prog 25 #[.int .i64 x, .pointer (some ⟨g, 0, none⟩)] W fun e w' => e = .returned (.bool (decide (x ≤ s))) ∧ ∃ q, w' = W.drewN q
  go_enter Try.func25, Try.ntmps25
  go_wp2
  go_ret
  exact ⟨rfl, by first | exact ⟨_, rfl⟩ | exact ⟨0, rfl⟩⟩
theorem eg25 : ∀ args w, (callFunc 25 args).run Try.prog w = .ok (.enter 25 args) w := enters_of Try.func25 (by kernel_rfl) rfl
theorem eg27 : ∀ args w, (callFunc 27 args).run Try.prog w = .ok (.enter 27 args) w := enters_of Try.func27 (by kernel_rfl) rfl
theorem eg33 : ∀ args w, (callFunc 33 args).run Try.prog w = .ok (.enter 33 args) w := enters_of Try.func33 (by kernel_rfl) rfl

/-- slices.ContainsFunc with that closure. -/
theorem contains24 (A : Option Addr) (c : Nat) (l : List Int) (s : Int) (g : Nat) (w : World) (hr : Kd.C (Kd.int .i64) w A l.length l) (hl : l.length ≤ 9223372036854775807) (hg : g < w.heap.size) (hc : w.cell? ⟨g, 0, none⟩ = some (.int .i64 s)) :
    Calls Try.prog 24 #[.slice A l.length c, .func (.func 25) #[] #[.pointer (some ⟨g, 0, none⟩)]] w fun e w' => e = .returned (.bool (l.any fun e => decide (e ≤ s))) ∧ Drawn0 w w' := by
  have HI := Aside0.mk (index32 25 _ _ eg25 A c l w hr hl ⟨pred25 s g w hg hc⟩)
  clear hr hl hg hc
  obtain ⟨b, hb⟩ : ∃ b, (l.any fun e => decide (e ≤ s)) = b := ⟨_, rfl⟩
  rw [hb] at HI ⊢
  have HH := Aside0.mk hb
  clear hb
  go_enter Try.func24, Try.ntmps24
  go_wp2_with (go_at_call 32; (with_reducible refine HI.out.mono ?_); rintro e w1 ⟨⟨i, rfl, hi⟩, ⟨n, rfl⟩⟩; obtain ⟨d0, hd0⟩ : ∃ d, decide (0 ≤ i) = d := ⟨_, rfl⟩; have hdb : Aside0 (d0 = b) := ⟨by rw [← hd0]; rcases hi with ⟨rfl, h1, h2⟩ | ⟨rfl, rfl⟩ <;> simp [*]⟩; clear hi)
  go_ret
  exact ⟨by rw [hdb.out]; rfl, by repeat (first | exact Drawn0.refl _ | apply Drawn0.step)⟩

theorem contains24b (A : Option Addr) (c : Nat) (l : List Int) (s : Int) (g : Nat) (w : World) (hr : Kd.C (Kd.int .i64) w A l.length l) (hl : l.length ≤ 9223372036854775807) (hg : g < w.heap.size) (hc : w.cell? ⟨g, 0, none⟩ = some (.int .i64 s)) :
    Calls Try.prog 24 #[.slice A l.length c, .func (.func 25) #[] #[.pointer (some ⟨g, 0, none⟩)]] w fun e w' => e = .returned (.bool (l.any fun e => decide (e ≤ s))) ∧ Below w.heap.size w w' :=
  (contains24 A c l s g w hr hl hg hc).mono fun e w' ⟨he, n, hn⟩ => ⟨he, hn ▸ pw_below_drewN (Below.refl _ _) n⟩

/-- The closure in span.Some: is a version within birth and death? -/
theorem pred33 (a b : Int) (B C : Nat) (w : World) (hB : B < w.heap.size) (hC : C < w.heap.size) (ha : w.cell? ⟨B, 0, none⟩ = some (.int .i64 a)) (hb : w.cell? ⟨C, 0, none⟩ = some (.int .i64 b)) :
    PredAt Try.prog 33 #[.pointer (some ⟨B, 0, none⟩), .pointer (some ⟨C, 0, none⟩)] (Value.int .i64) (fun x => inSpan a b x) w := fun W x hbel => by
  have h1 : W.cell? ⟨B, 0, none⟩ = some (.int .i64 a) := (hbel.cell (p := ⟨B, 0, none⟩) hB).trans ha
  have h2 : W.cell? ⟨C, 0, none⟩ = some (.int .i64 b) := (hbel.cell (p := ⟨C, 0, none⟩) hC).trans hb
  clear hbel ha hb
  show Calls Try.prog 33 #[.int .i64 x, .pointer (some ⟨B, 0, none⟩), .pointer (some ⟨C, 0, none⟩)] W fun e w' => e = .returned (.bool (inSpan a b x)) ∧ ∃ q, w' = W.drewN q
  go_enter Try.func33, Try.ntmps33
  go_wp2_with (go_at_call 34; (with_reducible refine (has34 a b x _).mono ?_); rintro e w1 ⟨rfl, ⟨n, rfl⟩⟩)
  go_ret
  exact ⟨rfl, n, rfl⟩

/-- span.Some tells whether there is one. -/
theorem some28 (a b : Int) (A : Option Addr) (c : Nat) (l : List Int) (w : World) (hr : Kd.C (Kd.int .i64) w A l.length l) (hl : l.length ≤ 9223372036854775807) :
    Calls Try.prog 28 #[.int .i64 a, .int .i64 b, .slice A l.length c] w fun e w' => (∃ v : Int, e = .returned (.tuple #[.int .i64 v, .bool (l.any fun x => inSpan a b x)])) ∧ Below w.heap.size w w' := by
  have hR : Kd.C (Kd.int .i64) ((w.alloc (.cells #[.int .i64 a] 3)).alloc (.cells #[.int .i64 b] 3)) A l.length l := Kd.C_alloc (Kd.C_alloc hr _) _
  have hP := pred33 a b w.heap.size (w.heap.size + 1) ((w.alloc (.cells #[.int .i64 a] 3)).alloc (.cells #[.int .i64 b] 3)) (by simp; omega) (by simp) (by go_simp) (by go_simp)
  have HB := Aside0.mk (below_alloc (below_alloc (Below.refl w.heap.size w) (.cells #[.int .i64 a] 3)) (.cells #[.int .i64 b] 3))
  rcases first_of (fun x => inSpan a b x) l with ⟨h1, j, h2, h3, h4⟩ | ⟨h1, h2⟩
  · rw [h1]
    have HC := Aside0.mk (index_hit 33 #[.pointer (some ⟨w.heap.size, 0, none⟩), .pointer (some ⟨w.heap.size + 1, 0, none⟩)] _ eg33 A c l _ hR ⟨hP⟩ j h2 (by omega) ⟨h3⟩ ⟨h4⟩)
    obtain ⟨ad, e, hx⟩ := Kd.at_int hR j (by omega) (by omega)
    cases e
    rw [Int.toNat_natCast] at hx
    have hlt' : (j : Int) < (l.length : Int) := by omega
    clear hP hR h1 h2 h3 h4 hr
    go_enter Try.func28, Try.ntmps28
    go_wp2_with (go_at_call 32; (with_reducible refine HC.out.mono ?_); rintro e w1 ⟨rfl, ⟨n, rfl⟩⟩)
    go_ret2
    exact ⟨⟨_, rfl⟩, pw_below_drewN HB.out n⟩
  · rw [h1]
    have HC := Aside0.mk (index_miss 33 #[.pointer (some ⟨w.heap.size, 0, none⟩), .pointer (some ⟨w.heap.size + 1, 0, none⟩)] _ eg33 A c l _ hR ⟨hP⟩ (by omega) ⟨h2⟩)
    clear hP hR h1 h2 hr
    go_enter Try.func28, Try.ntmps28
    go_wp2_with (go_at_call 32; (with_reducible refine HC.out.mono ?_); rintro e w1 ⟨rfl, ⟨n, rfl⟩⟩)
    go_ret2
    exact ⟨⟨_, rfl⟩, pw_below_drewN HB.out n⟩

/-- What is asked of a closure over items: it tells p, and turns nothing that lay. -/
def PredB (g : Nat) (lb : Array Value) (p : Int → Int → Bool) (w : World) : Prop := ∀ (W : World) (a b : Int), Below w.heap.size w W → Calls Try.prog g (#[.agg #[.int .i64 a, .int .i64 b]] ++ lb) W fun e w' => e = .returned (.bool (p a b)) ∧ Below W.heap.size W w'

/-- Is an item free? early: an epoch is at most the group's stamp. -/
def goes (early : Bool) (death : Int) (vs : List Int) : Int → Int → Bool := fun _ birth => !early && !(vs.any fun v => inSpan birth death v)

theorem clo27 (early : Bool) (death : Int) (A : Option Addr) (c : Nat) (vs : List Int) (gb gv ge : Nat) (o : Array Value) (w : World) (hr : Kd.C (Kd.int .i64) w A vs.length vs) (hl : vs.length ≤ 9223372036854775807)
    (hb : w.heap[gb]? = some (.cells o 35 (0, 0))) (ho : o[1]? = some (.int .i64 death)) (hv : w.heap[gv]? = some (.cells #[.slice A vs.length c] 23 (0, 0))) (he : w.heap[ge]? = some (.cells #[.bool early] 4 (0, 0))) :
    PredB 27 #[.pointer (some ⟨gb, 0, none⟩), .pointer (some ⟨gv, 0, none⟩), .pointer (some ⟨ge, 0, none⟩)] (goes early death vs) w := fun W a b hbel => by
  have HR := Aside0.mk (Kd.C_below hr hbel)
  have h1 : W.cell? ⟨gb, 1, none⟩ = some (.int .i64 death) := (hbel.cell (p := ⟨gb, 1, none⟩) (blk_lt hb)).trans ((blk_cell hb 1).trans ho)
  have h2 : W.cell? ⟨gv, 0, none⟩ = some (.slice A vs.length c) := (hbel.cell (p := ⟨gv, 0, none⟩) (blk_lt hv)).trans ((blk_cell hv 0).trans rfl)
  have h3 : W.cell? ⟨ge, 0, none⟩ = some (.bool early) := (hbel.cell (p := ⟨ge, 0, none⟩) (blk_lt he)).trans ((blk_cell he 0).trans rfl)
  have l1 : gb < W.heap.size := Nat.lt_of_lt_of_le (blk_lt hb) hbel.size
  have l2 : gv < W.heap.size := Nat.lt_of_lt_of_le (blk_lt hv) hbel.size
  have l3 : ge < W.heap.size := Nat.lt_of_lt_of_le (blk_lt he) hbel.size
  have HL := Aside0.mk hl
  have hu35 := Try.underlying35
  have hu43 := Try.underlying43
  clear hr hb ho hv he hbel hl
  have key : ∀ bb, (vs.any fun v => inSpan b death v) = bb → Calls Try.prog 27 #[.agg #[.int .i64 a, .int .i64 b], .pointer (some ⟨gb, 0, none⟩), .pointer (some ⟨gv, 0, none⟩), .pointer (some ⟨ge, 0, none⟩)] W fun e w' => e = .returned (.bool (!early && !bb)) ∧ Below W.heap.size W w' := by
    intro bb hbb
    have HBB := Aside0.mk hbb
    clear hbb
    cases early <;> cases bb <;>
    (go_enter Try.func27, Try.ntmps27
     go_wp2_with (go_at_call 28; (refine (some28 b death A c vs _ (Kd.C_alloc HR.out _) HL.out).mono ?_); rintro e w1 ⟨⟨v, rfl⟩, hb⟩; rw [HBB.out]; have HB1 := Aside0.mk (below_step (below_alloc (Below.refl W.heap.size W) _) hb); clear hb; replace h3 := (HB1.out.cell (p := ⟨ge, 0, none⟩) l3).trans h3)
     go_ret
     exact ⟨rfl, by repeat (first | exact HB1.out | apply below_drew1 | apply pw_below_drewN)⟩)
  exact key _ rfl

end Go.Proofs.Ytjfogghpiclooaa.HSplit
