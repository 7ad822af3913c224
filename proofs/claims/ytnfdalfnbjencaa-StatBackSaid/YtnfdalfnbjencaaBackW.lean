/- The walk of the law StatBack. -/
import Derived.Test.YtnfdalfnbjencaaMidW4
import Derived.Test.YtnfdalfnbjencaaBackL
import Derived.Test.YtnfdalfnbjencaaFloatW8
namespace Go.Proofs.Ytnfdalfnbjencaa.Fw
open Go.RowKit Go.Proofs.Ytnfdalfnbjencaa.Fl Go.Proofs.YtnfdalfnbjencaaW.PrintWords Go.Proofs.YtnfdalfnbjencaaW.PrintMore
open Go.Proofs.Ytnfdalfnbjencaa.HText (stat_Parse.calls)
open Go.Proofs.Ytnfdalfnbjencaa.Pure (parse_text text_less least_bound most_bound)
set_option linter.unusedVariables false
set_option linter.unusedSimpArgs false

theorem any_snoc (l : List Nat) (y m : Nat) : (l ++ [y]).any (same m) = (l.any (same m) || same m y) := by simp
theorem text_cell (x : Nat) (r : Nat) (w : World) (hx : x < full) (hr : rank x = r) : Calls Try.prog 36 #[.float .f64 x] w fun e w' => e = .returned (.string (strOfNums (text r))) ∧ Below w.heap.size w w' := text_c x r w hx hr

set_option maxHeartbeats 8000000 in
set_option maxRecDepth 100000 in
theorem back_walk (A : Option Addr) (n c : Nat) (x y : Nat) (ys : List Nat) (w : World) (hx : x < full) (hy : y < full) (hys : ∀ x ∈ ys, x < full) (hl : ys.length ≤ 1000000)
    (HF : Aside0 (∀ W, Below w.heap.size w W → Calls Try.prog 31 #[.slice A n c] W fun e w' => ∃ A1 c1, e = .returned (.slice A1 ys.length c1) ∧ RF w' A1 ys ∧ Below W.heap.size W w')) :
    Calls Try.prog 10 #[.int .u64 (x : Int), .int .u64 (y : Int), .slice A n c] w fun e w' => e = .returned (.bool true) ∧ Below w.heap.size w w' := by
  have HY := Aside0.mk hys
  have HL := Aside0.mk hl
  have HX := Aside0.mk hx
  have HYY := Aside0.mk hy
  have hlen : (ys.length : Int) ≤ 1000000 := by omega
  have h11 := call_frombits
  obtain ⟨rx, hrx⟩ : ∃ rx, rank x = rx := ⟨_, rfl⟩
  obtain ⟨ry, hry⟩ : ∃ ry, rank y = ry := ⟨_, rfl⟩
  obtain ⟨l, hlx⟩ : ∃ l, less x y = l := ⟨_, rfl⟩
  obtain ⟨f, hf⟩ : ∃ f, f = (if isNaN x then nanBits else x) := ⟨_, rfl⟩
  have hpt := parse_text x hx
  rw [← hf, hrx] at hpt
  have HPT : Aside0 (∀ W, Calls Try.prog 34 #[.string (strOfNums (text rx))] W fun e w' => e = .returned (.tuple #[.float .f64 f, .int .i64 0]) ∧ Below W.heap.size W w') := ⟨fun W => stat_Parse.calls 400 _ (f : Int) 0 W hpt⟩
  have HTX : Aside0 (∀ W, Calls Try.prog 36 #[.float .f64 x] W fun e w' => e = .returned (.string (strOfNums (text rx))) ∧ Below W.heap.size W w') := ⟨fun W => text_c x rx W hx hrx⟩
  have HTY : Aside0 (∀ W, Calls Try.prog 36 #[.float .f64 y] W fun e w' => e = .returned (.string (strOfNums (text ry))) ∧ Below W.heap.size W w') := ⟨fun W => text_c y ry W hy hry⟩
  have HFX := Aside0.mk (show same f x = true by rw [hf]; exact back_same x hx)
  have HFL := Aside0.mk (show f < full by rw [hf]; exact back_lt x hx)
  have hbl : Op.bytesLess (strOfNums (text rx)).toList (strOfNums (text ry)).toList = l := by
    rw [← hlx, less_rank x y hx hy, ← hrx, ← hry]
    exact text_less _ _ (rank_lt x hx) (rank_lt y hy)
  have HLX := Aside0.mk hlx
  clear hx hy hys hl hrx hry hlx hf hpt
  generalize strOfNums (text rx) = tx at *
  generalize strOfNums (text ry) = ty at *
  have HB0 := Aside0.mk (Below.refl w.heap.size w)
  go_enter Try.func10, Try.ntmps10
  go_upto_region 7 with (first
    | (go_at_call 32; (with_reducible refine (works41_c _).mono ?_); rintro e w1 ⟨rfl, hb⟩; have HB1 := Aside0.mk (below_step (by repeat (with_reducible first | exact HB0.out | apply pw_below_drewN | apply below_drew1)) hb); clear hb HB0; have HB0 := HB1; clear HB1)
    | (go_at_call 36; (with_reducible refine (HTX.out _).mono ?_); rintro e w2 ⟨rfl, hb⟩; have HB1 := Aside0.mk (below_step (by repeat (with_reducible first | exact HB0.out | apply pw_below_drewN | apply below_drew1)) hb); clear hb HB0; have HB0 := HB1; clear HB1)
    | (go_at_call 36; (with_reducible refine (HTY.out _).mono ?_); rintro e w2 ⟨rfl, hb⟩; have HB1 := Aside0.mk (below_step (by repeat (with_reducible first | exact HB0.out | apply pw_below_drewN | apply below_drew1)) hb); clear hb HB0; have HB0 := HB1; clear HB1)
    | (go_at_call 34; (with_reducible refine (HPT.out _).mono ?_); rintro e w2 ⟨rfl, hb⟩; have HB1 := Aside0.mk (below_step (by repeat (with_reducible first | exact HB0.out | apply pw_below_drewN | apply below_drew1)) hb); clear hb HB0; have HB0 := HB1; clear HB1)
    | (go_at_call 17; (with_reducible refine (rsame_c f x true _ HFL.out HX.out HFX.out).mono ?_); rintro e w3 ⟨rfl, ⟨n3, rfl⟩⟩)
    | (go_at_call 15; (with_reducible refine (rless_c x y l _ HX.out HYY.out HLX.out).mono ?_); rintro e w4 ⟨rfl, ⟨n4, rfl⟩⟩))
  clear HPT HTX HTY hbl HFX HFL HLX h11
  generalize hW2 : w2.drewN n4 = W2
  have HB1 : Aside0 (Below w.heap.size w W2) := ⟨by rw [← hW2]; exact pw_below_drewN HB0.out _⟩
  clear hW2 HB0
  go_wp2_with (fail)
  refine (HF.out _ HB1.out).mono ?_
  rintro e w5 ⟨A1, c1, rfl, hf5, hb5⟩
  have HF1 := Aside0.mk hf5
  have HB5 := Aside0.mk (below_step HB1.out hb5)
  clear hf5 hb5 HB1
  go_wp2_with (fail)
  refine (HF.out _ HB5.out).mono ?_
  rintro e w6 ⟨A2, c2, rfl, hf6, hb6⟩
  have HF2 := Aside0.mk hf6
  have HB6 := Aside0.mk (below_step HB5.out hb6)
  have HF1b := Aside0.mk (HF1.out.below hb6)
  clear hf6 hb6 HF1 HB5
  go_wp2_with (fail)
  refine (of_c A2 c2 ys _ HF2.out HY.out).mono ?_
  rintro e w7 ⟨v, rfl, ⟨s, mm, d, rfl, hs, hm, hd⟩, hb7⟩
  have HB7 := Aside0.mk (below_step HB6.out hb7)
  have HF1c := Aside0.mk (HF1b.out.below hb7)
  clear hs hm hd hb7 HF2 HB6 HF1b
  go_wp2_with (fail)
  refine (HF.out _ HB7.out).mono ?_
  rintro e w8 ⟨A3, c3, rfl, hf8, hb8⟩
  have HF3 := Aside0.mk hf8
  have HB8 := Aside0.mk (below_step HB7.out hb8)
  have HF1d := Aside0.mk (HF1c.out.below hb8)
  clear hf8 hb8 HF HB7 HF1c
  go_wp2_with (fail)
  refine (middle_c A3 c3 ys _ HF3.out HY.out HL.out).mono ?_
  rintro e w9 ⟨m, rfl, hmid, hb9⟩
  have HM := Aside0.mk hmid
  have HML := Aside0.mk hmid.1
  have HB9 := Aside0.mk (below_step HB8.out hb9)
  have HF1e := Aside0.mk (HF1d.out.below hb9)
  clear hmid hb9 HF3 HB8 HF1d
  have HLS := Aside0.mk (least_lt ys HY.out)
  have HMO := Aside0.mk (most_lt ys HY.out)
  have HLB := Aside0.mk (least_bound ys HY.out)
  have HMB := Aside0.mk (most_bound ys HY.out)
  generalize least ys = le at *
  generalize most ys = mo at *
  go_upto_region 9 with (fail)
  obtain ⟨g, hg⟩ : ∃ g, g = w9.heap.size := ⟨_, rfl⟩
  obtain ⟨W4, hW4⟩ : ∃ W4, W4 = (w9.alloc (.cells #[.int .i64 ys.length, .float .f64 s, .float .f64 mm, .float .f64 le, .float .f64 mo, .float .f64 d] 39)) := ⟨_, rfl⟩
  rw [← hW4, ← hg]
  have hc3 : W4.cell? ⟨g, 3, none⟩ = some (.float .f64 le) := by rw [hW4, hg]; go_simp
  have hc4 : W4.cell? ⟨g, 4, none⟩ = some (.float .f64 mo) := by rw [hW4, hg]; go_simp
  have HB4 : Aside0 (Below w.heap.size w W4) := ⟨by rw [hW4]; exact below_alloc HB9.out _⟩
  have HRF : Aside0 (RF W4 A1 ys) := ⟨by rw [hW4]; exact HF1e.out.below (below_alloc (Below.refl _ _) _)⟩
  clear hW4 hg HB9 HF1e
  obtain ⟨b0, hb0⟩ : ∃ b0, b0 = ((ys.length : Int) == 0) := ⟨_, rfl⟩
  rw [← hb0]
  have HB00 := Aside0.mk hb0
  clear hb0
  go_wp2
  go_loopg [14, 15] (ys.length + 1) (fun gg s14 s15 wr => ∃ kk q : Nat, ∃ o : Bool, kk ≤ ys.length ∧ ys.length + 1 - kk ≤ gg ∧ s15 = .int .i64 kk ∧ s14 = .bool o ∧ Aside0 (o = (b0 || (ys.take kk).any (same m))) ∧ wr = W4.drewN q)
  case atStart => exact ⟨0, 0, b0, Nat.zero_le _, by omega, rfl, rfl, ⟨by simp⟩, rfl⟩
  case round =>
    obtain ⟨kk, q, o, hkk, hgg, rfl, rfl, HO, rfl⟩ := hrel
    by_cases hk : kk < ys.length
    · have hlt : (kk : Int) < (ys.length : Int) := by omega
      obtain ⟨ad, e, hc⟩ := HRF.out.at_ kk hk
      cases e
      have HBy := Aside0.mk (HY.out ys[kk] (List.getElem_mem hk))
      have HT := Aside0.mk (take_snoc ys kk hk)
      have HLy := Aside0.mk (HLB.out ys[kk] (List.getElem_mem hk))
      have HMy := Aside0.mk (HMB.out ys[kk] (List.getElem_mem hk))
      obtain ⟨sm, hsm⟩ : ∃ sm, same m ys[kk] = sm := ⟨_, rfl⟩
      have HSM := Aside0.mk hsm
      clear hsm
      generalize ys[kk] = z at hc HBy HT HLy HMy HSM
      cases o with
      | true =>
        go_wp2
        go_quiet (first | (with_reducible exact quiet2 (rless_c mo z false _ HMO.out HBy.out HMy.out)) | (with_reducible exact quiet2 (rless_c z le false _ HBy.out HLS.out HLy.out)))
        go_wp2
        go_roundg (ys.length + 1 - (kk + 1))
        case measure => omega
        case rel => exact ⟨kk + 1, _, true, by omega, by omega, by go_num, rfl, ⟨by rw [HT.out, any_snoc, ← Bool.or_assoc, ← HO.out]; rfl⟩, rfl⟩
      | false =>
        go_wp2
        go_quiet (first | (with_reducible exact quiet2 (rless_c mo z false _ HMO.out HBy.out HMy.out)) | (with_reducible exact quiet2 (rless_c z le false _ HBy.out HLS.out HLy.out)))
        go_wp2_with (go_at_call 17; (with_reducible refine (rsame_c m z sm _ HML.out HBy.out HSM.out).mono ?_); rintro e w' ⟨rfl, ⟨n9, rfl⟩⟩)
        go_roundg (ys.length + 1 - (kk + 1))
        case measure => omega
        case rel => exact ⟨kk + 1, _, sm, by omega, by omega, by go_num, rfl, ⟨by rw [HT.out, any_snoc, ← Bool.or_assoc, ← HO.out, HSM.out]; rfl⟩, rfl⟩
    · have hlt : ¬ (kk : Int) < (ys.length : Int) := by omega
      have HE := List.take_of_length_le (show ys.length ≤ kk by omega)
      have ho : o = true := by
        rw [HO.out, HE, HB00.out]
        rcases HM.out.2 with ⟨h, _⟩ | ⟨h, _⟩
        · subst h; rfl
        · rw [List.any_eq_true.2 ⟨m, h, same_refl m HML.out⟩]; simp
      subst ho
      clear HE
      go_wp2
      go_ret
      exact ⟨rfl, pw_below_drewN HB4.out _⟩

theorem StatBack (a b : Int) (a0 : Option Addr) (len0 cap0 : Nat) (z0 : List Int) (w : World) (wa : (Lit.int .u64 a).wf = true) (wb : (Lit.int .u64 b).wf = true) (w0 : (a0 = none ∧ len0 = 0 ∧ cap0 = 0 ∧ z0 = []) ∨ ∃ x, a0 = some x ∧ len0 ≤ cap0 ∧ cap0 ≤ maxLen ∧ z0.length = cap0 ∧ (∀ i, i < z0.length → w.cell? (x.add i) = some (.int .u64 (z0.getD i 0))) ∧ ∀ n ∈ z0, (Lit.int .u64 n).wf = true) :
    Calls Try.prog 10 #[.int .u64 a, .int .u64 b, .slice a0 len0 cap0] w fun e w' => e = .returned (.bool true) ∧ Below w.heap.size w w' := by
  obtain ⟨x, rfl, hx⟩ := wf_u64 wa
  obtain ⟨y, rfl, hy⟩ := wf_u64 wb
  obtain ⟨l, rfl, hr, hm, hw, hc⟩ := ReadsInt.ofRowC w0
  exact back_walk a0 l.length cap0 x y _ w hx hy (nat_lt l hw _) (by rw [List.length_map, List.length_take]; omega) ⟨fun W hb => few41_rf a0 cap0 l w (Kd.C_of_reads (d := (0 : Int)) (h1 := fun _ => rfl) hr) hc _ rfl W hb⟩

end Go.Proofs.Ytnfdalfnbjencaa.Fw
