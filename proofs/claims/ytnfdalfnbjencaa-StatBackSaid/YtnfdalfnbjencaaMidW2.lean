/- The walk of the document's Middle. -/
import Derived.Test.YtnfdalfnbjencaaStatW4
import Derived.Deep.QuietTactic
namespace Go.Proofs.Ytnfdalfnbjencaa.Fw
open Go.RowKit Go.Proofs.Ytnfdalfnbjencaa.Fl Go.Proofs.YtnfdalfnbjencaaW.PrintWords Go.Proofs.YtnfdalfnbjencaaW.PrintMore
set_option linter.unusedVariables false
set_option linter.unusedSimpArgs false

/-- How many are ahead of x, and how many are as x. -/
def nless (ys : List Nat) (x : Nat) : Nat := ys.countP fun y => less y x
def nsame (ys : List Nat) (x : Nat) : Nat := ys.countP fun y => !less y x && same y x
/-- Is x the one in the middle? -/
def mid (ys : List Nat) (x : Nat) : Bool := decide (nless ys x ≤ (ys.length - 1) / 2) && decide ((ys.length - 1) / 2 < nless ys x + nsame ys x)

theorem nless_snoc (l : List Nat) (y x : Nat) : nless (l ++ [y]) x = nless l x + if less y x then 1 else 0 := by
  unfold nless; rw [List.countP_append]; simp [List.countP_cons]
theorem nsame_snoc (l : List Nat) (y x : Nat) : nsame (l ++ [y]) x = nsame l x + if (!less y x && same y x) then 1 else 0 := by
  unfold nsame; rw [List.countP_append]; simp [List.countP_cons]
theorem nless_le (l : List Nat) (x : Nat) : nless l x ≤ l.length := List.countP_le_length
theorem nsame_le (l : List Nat) (x : Nat) : nsame l x ≤ l.length := List.countP_le_length
theorem quo2 (n : Nat) (h : 0 < n) : ((n : Int) - 1).tdiv 2 = (((n - 1) / 2 : Nat) : Int) := by
  rw [show (n : Int) - 1 = ((n - 1 : Nat) : Int) by omega]; rfl

theorem quiet2 {f : FuncId} {args : Array Value} {v : Value} {w : World} {q a : Nat} (h : Calls Try.prog f args (w.drewN (q + a)) fun e w' => e = .returned v ∧ Drawn0 (w.drewN (q + a)) w') : Calls Try.prog f args (w.drewN (q + a)) fun e w'' => e = .returned v ∧ ∃ n, w'' = w.drewN (q + n) :=
  h.mono fun _ _ ⟨he, m, hm⟩ => ⟨he, a + m, by rw [hm, World.drewN_drewN, Nat.add_assoc]⟩
theorem quiet3 {f : FuncId} {args : Array Value} {v : Value} {w : World} {q s a : Nat} (h : Calls Try.prog f args (w.drewN (q + (s + a))) fun e w' => e = .returned v ∧ Drawn0 (w.drewN (q + (s + a))) w') : Calls Try.prog f args (w.drewN (q + (s + a))) fun e w'' => e = .returned v ∧ ∃ n, w'' = w.drewN (q + (s + n)) :=
  h.mono fun _ _ ⟨he, m, hm⟩ => ⟨he, a + m, by rw [hm, World.drewN_drewN, Nat.add_assoc, Nat.add_assoc]⟩
theorem quiet4 {f : FuncId} {args : Array Value} {v : Value} {w : World} {q s a : Nat} (h : Calls Try.prog f args (w.drewN (q + s + a)) fun e w' => e = .returned v ∧ Drawn0 (w.drewN (q + s + a)) w') : Calls Try.prog f args (w.drewN (q + s + a)) fun e w'' => e = .returned v ∧ ∃ n, w'' = w.drewN (q + s + n) :=
  h.mono fun _ _ ⟨he, m, hm⟩ => ⟨he, a + m, by rw [hm, World.drewN_drewN, Nat.add_assoc]⟩

set_option maxHeartbeats 4000000 in
set_option maxRecDepth 100000 in
theorem rmiddle_c (A : Option Addr) (c : Nat) (ys : List Nat) (w : World) (hr : RF w A ys) (hy : ∀ x ∈ ys, x < full) (hl : ys.length ≤ 1000000) :
    Calls Try.prog 39 #[.slice A ys.length c] w fun e w' => ∃ r, e = .returned (.float .f64 r) ∧ r < full ∧ ((r ∈ ys ∧ mid ys r = true) ∨ (r = nanBits ∧ ∀ x ∈ ys, mid ys x = false)) ∧ Drawn0 w w' := by
  have HR := Aside0.mk hr
  have HX := Aside0.mk hy
  have hlen : (ys.length : Int) ≤ 1000000 := by omega
  clear hr hy hl
  go_enter Try.func39, Try.ntmps39
  go_wp2
  go_loopg [3] (ys.length + 1) (fun gg s3 wr => ∃ kk q : Nat, kk ≤ ys.length ∧ ys.length + 1 - kk ≤ gg ∧ s3 = .int .i64 kk ∧ Aside0 (∀ x ∈ ys.take kk, mid ys x = false) ∧ wr = w.drewN q)
  case atStart => exact ⟨0, 0, Nat.zero_le _, by omega, rfl, ⟨by simp⟩, rfl⟩
  case round =>
    obtain ⟨kk, q, hkk, hg, rfl, HP, rfl⟩ := hrel
    by_cases hk : kk < ys.length
    · have hlt : (kk : Int) < (ys.length : Int) := by omega
      obtain ⟨ad, e, hc⟩ := HR.out.at_ kk hk
      cases e
      have HM := Aside0.mk (List.getElem_mem hk)
      have HB := Aside0.mk (HX.out ys[kk] (List.getElem_mem hk))
      have HT := Aside0.mk (take_snoc ys kk hk)
      generalize ys[kk] = x at hc HB HT HM
      go_wp2
      go_loopg [4, 5, 6] (ys.length + 1) (fun gg s4 s5 s6 wr => ∃ jj q2 : Nat, jj ≤ ys.length ∧ ys.length + 1 - jj ≤ gg ∧ s6 = .int .i64 jj ∧ s4 = .int .i64 (nless (ys.take jj) x : Nat) ∧ s5 = .int .i64 (nsame (ys.take jj) x : Nat) ∧ wr = w.drewN q2)
      case atStart => exact ⟨0, q, Nat.zero_le _, by omega, rfl, rfl, rfl, rfl⟩
      case round =>
        obtain ⟨jj, q2, hjj, hg2, rfl, rfl, rfl, rfl⟩ := hrel
        by_cases hj : jj < ys.length
        · have hltj : (jj : Int) < (ys.length : Int) := by omega
          obtain ⟨ad2, e2, hcj⟩ := HR.out.at_ jj hj
          cases e2
          have HBj := Aside0.mk (HX.out ys[jj] (List.getElem_mem hj))
          have HTj := Aside0.mk (take_snoc ys jj hj)
          have HL1 := nless_le (ys.take jj) x
          have HL2 := nsame_le (ys.take jj) x
          rw [List.length_take] at HL1 HL2
          generalize ys[jj] = y at hcj HBj HTj
          obtain ⟨a, ha⟩ : ∃ a, a = nless (ys.take jj) x := ⟨_, rfl⟩
          obtain ⟨b, hb⟩ : ∃ b, b = nsame (ys.take jj) x := ⟨_, rfl⟩
          rw [← ha] at HL1
          rw [← hb] at HL2
          rw [← ha, ← hb]
          have EA := Aside0.mk ha
          have EB := Aside0.mk hb
          clear ha hb
          cases h1 : less y x with
          | true =>
            have H1 := Aside0.mk h1
            clear h1
            go_wp2
            go_quiet (first | exact quiet2 (rless_c y x true _ HBj.out HB.out H1.out) | exact quiet3 (rless_c y x true _ HBj.out HB.out H1.out) | exact quiet4 (rless_c y x true _ HBj.out HB.out H1.out))
            go_wp2
            go_roundg (ys.length + 1 - (jj + 1))
            case measure => omega
            case rel => exact ⟨jj + 1, _, by omega, by omega, by go_num, by rw [HTj.out, nless_snoc, H1.out, ← EA.out]; go_num, by rw [HTj.out, nsame_snoc, H1.out, ← EB.out]; simp, rfl⟩
          | false =>
            have H1 := Aside0.mk h1
            clear h1
            obtain ⟨s, hs⟩ : ∃ s, s = same y x := ⟨_, rfl⟩
            have HS := Aside0.mk hs.symm
            clear hs
            cases s with
            | true =>
              go_wp2
              go_quiet (first | exact quiet2 (rless_c y x false _ HBj.out HB.out H1.out) | exact quiet3 (rless_c y x false _ HBj.out HB.out H1.out) | exact quiet4 (rless_c y x false _ HBj.out HB.out H1.out))
              go_wp2
              go_quiet (first | exact quiet2 (rsame_c y x true _ HBj.out HB.out HS.out) | exact quiet3 (rsame_c y x true _ HBj.out HB.out HS.out) | exact quiet4 (rsame_c y x true _ HBj.out HB.out HS.out))
              go_wp2
              go_roundg (ys.length + 1 - (jj + 1))
              case measure => omega
              case rel => exact ⟨jj + 1, _, by omega, by omega, by go_num, by rw [HTj.out, nless_snoc, H1.out, ← EA.out]; simp, by rw [HTj.out, nsame_snoc, H1.out, HS.out, ← EB.out]; go_num, rfl⟩
            | false =>
              go_wp2
              go_quiet (first | exact quiet2 (rless_c y x false _ HBj.out HB.out H1.out) | exact quiet3 (rless_c y x false _ HBj.out HB.out H1.out) | exact quiet4 (rless_c y x false _ HBj.out HB.out H1.out))
              go_wp2
              go_quiet (first | exact quiet2 (rsame_c y x false _ HBj.out HB.out HS.out) | exact quiet3 (rsame_c y x false _ HBj.out HB.out HS.out) | exact quiet4 (rsame_c y x false _ HBj.out HB.out HS.out))
              go_wp2
              go_roundg (ys.length + 1 - (jj + 1))
              case measure => omega
              case rel => exact ⟨jj + 1, _, by omega, by omega, by go_num, by rw [HTj.out, nless_snoc, H1.out, ← EA.out]; simp, by rw [HTj.out, nsame_snoc, H1.out, HS.out, ← EB.out]; simp, rfl⟩
        · have hltj : ¬ (jj : Int) < (ys.length : Int) := by omega
          have HE := List.take_of_length_le (show ys.length ≤ jj by omega)
          rw [HE]
          clear HE
          have HL1 := nless_le ys x
          have HL2 := nsame_le ys x
          obtain ⟨a, ha⟩ : ∃ a, a = nless ys x := ⟨_, rfl⟩
          obtain ⟨b, hb⟩ : ∃ b, b = nsame ys x := ⟨_, rfl⟩
          rw [← ha] at HL1
          rw [← hb] at HL2
          rw [← ha, ← hb]
          have hq := quo2 ys.length (by omega)
          obtain ⟨t, ht⟩ : ∃ t, t = (ys.length - 1) / 2 := ⟨_, rfl⟩
          rw [← ht] at hq
          have hw1 : IntKind.i64.wrap ((ys.length : Int) - 1) = (ys.length : Int) - 1 := by simp [IntKind.wrap, IntKind.bits, IntKind.signed]; omega
          have hmd : mid ys x = (decide (a ≤ t) && decide (t < a + b)) := by unfold mid; rw [← ha, ← hb, ← ht]
          have HMD := Aside0.mk hmd
          have ht2 : t ≤ 1000000 := by omega
          clear ha hb ht hmd
          by_cases h1 : a ≤ t
          · have hd1 : decide ((a : Int) ≤ (t : Int)) = true := decide_eq_true (by omega)
            by_cases h2 : t < a + b
            · have hd2 : decide ((t : Int) < (a : Int) + b) = true := decide_eq_true (by omega)
              have HMT : Aside0 (mid ys x = true) := ⟨by rw [HMD.out, decide_eq_true h1, decide_eq_true h2]; rfl⟩
              go_wp2
              go_ret
              exact ⟨x, rfl, HB.out, .inl ⟨HM.out, HMT.out⟩, by repeat (first | exact Drawn0.refl _ | apply Drawn0.step)⟩
            · have hd2 : decide ((t : Int) < (a : Int) + b) = false := decide_eq_false (by omega)
              have HMF : Aside0 (mid ys x = false) := ⟨by rw [HMD.out, decide_eq_false h2]; simp⟩
              go_wp2
              go_roundg (ys.length + 1 - (kk + 1))
              case measure => omega
              case rel => exact ⟨kk + 1, _, by omega, by omega, by go_num, ⟨by rw [HT.out]; intro z hz; rcases List.mem_append.1 hz with hz | hz; exact HP.out z hz; rw [List.mem_singleton.1 hz]; exact HMF.out⟩, rfl⟩
          · have hd1 : decide ((a : Int) ≤ (t : Int)) = false := decide_eq_false (by omega)
            have HMF : Aside0 (mid ys x = false) := ⟨by rw [HMD.out, decide_eq_false h1]; rfl⟩
            go_wp2
            go_roundg (ys.length + 1 - (kk + 1))
            case measure => omega
            case rel => exact ⟨kk + 1, _, by omega, by omega, by go_num, ⟨by rw [HT.out]; intro z hz; rcases List.mem_append.1 hz with hz | hz; exact HP.out z hz; rw [List.mem_singleton.1 hz]; exact HMF.out⟩, rfl⟩
    · have hlt : ¬ (kk : Int) < (ys.length : Int) := by omega
      have HE := Aside0.mk (List.take_of_length_le (show ys.length ≤ kk by omega))
      go_wp2_with (go_at_call 46; (with_reducible refine (naN_c _).mono ?_); rintro e w1 ⟨rfl, ⟨n0, rfl⟩⟩)
      go_ret
      exact ⟨nanBits, rfl, nanBits_lt, .inr ⟨rfl, by have := HP.out; rwa [HE.out] at this⟩, by repeat (first | exact Drawn0.refl _ | apply Drawn0.step)⟩

end Go.Proofs.Ytnfdalfnbjencaa.Fw
