/- Small functions of the script layer: the document's one and text over bytes that are read; the law's bytes. -/
import Derived.Test.YtfpjfndelkgciaaDoorHScriptx0
namespace Go.Proofs.YtfpjfndelkgciaaDoor.Sc
open Go.RowKit Go.Proofs.YtfpjfndelkgciaaDoorW.PrintWords Go.Proofs.YtfpjfndelkgciaaDoorW.PrintLast Go.Proofs.YtfpjfndelkgciaaDoorW.PrintMore
open HScript (S25 S54 k25 k54 z25 z54)
attribute [local go_sem] max2_int min2_int max_two min_two
set_option linter.unusedVariables false
set_option linter.unusedSimpArgs false

def hd (bs : List Int) : Int := bs.headD 0
def Rg (bs : List Int) : Prop := ∀ x ∈ bs, 0 ≤ x ∧ x ≤ 255
theorem Rg.hd {bs : List Int} (h : Rg bs) : 0 ≤ hd bs ∧ hd bs ≤ 255 := by
  cases bs with
  | nil => exact ⟨by decide, by decide⟩
  | cons x t => exact h x List.mem_cons_self
theorem Rg.drop {bs : List Int} (h : Rg bs) (n : Nat) : Rg (bs.drop n) := fun x hx => h x (List.mem_of_mem_drop hx)
theorem Rg.take {bs : List Int} (h : Rg bs) (n : Nat) : Rg (bs.take n) := fun x hx => h x (List.mem_of_mem_take hx)
theorem u8_w {x : Int} (h : 0 ≤ x ∧ x ≤ 255) : wrap64 x = x := by unfold wrap64; omega

theorem one_c (A : Option Addr) (c : Nat) (bs : List Int) (W : World) (hC : Kd.C (Kd.int .u8) W A bs.length bs) (hc : bs.length ≤ c) (hb : Rg bs) :
    Calls Tryd.prog 40 #[.slice A bs.length c] W fun e w' => ∃ A' c', e = .returned (.tuple #[.int .i64 (hd bs), .slice A' (bs.drop 1).length c']) ∧ (bs.drop 1).length ≤ c' ∧ (∀ w0, Kd.C (Kd.int .u8) w0 A bs.length bs → Kd.C (Kd.int .u8) w0 A' (bs.drop 1).length (bs.drop 1)) ∧ Drawn0 W w' := by
  cases bs with
  | nil =>
    have HC := Aside0.mk hC
    clear hC
    go_enter Tryd.func40, Tryd.ntmps40
    go_wp2
    repeat (go_quiet (fail); try go_wp2)
    go_ret2
    exact ⟨A, c, rfl, Nat.zero_le _, fun w0 h => h, by repeat (first | exact Drawn0.refl _ | apply Drawn0.step)⟩
  | cons x t =>
    have hx := hb x List.mem_cons_self
    obtain ⟨ad, e, hx0⟩ := Kd.at_int hC 0 (by omega) (by simp only [List.length_cons]; omega)
    cases e
    rw [show ((0 : Int)).toNat = 0 from rfl, Addr.add_zero'] at hx0
    replace hx0 : W.cell? ad = some (.int .u8 x) := hx0
    have q7 : (1 : Int) ≤ ((x :: t).length : Int) := by simp only [List.length_cons]; omega
    obtain ⟨i0, hi0, _, hsz, _⟩ := info_parts HScript.info5
    have hcut := cut_from (P := Tryd.prog) 39 5 .i64 Tryd.underlying39 hi0 1 hsz (some ad) (x :: t).length c 1 (by omega) q7
    have hr := fun w0 (h : Kd.C (Kd.int .u8) w0 (some ad) (x :: t).length (x :: t)) => Kd.C_drop (m := 1) h (by simp only [List.length_cons]; omega) hc
    obtain ⟨A7, hA7⟩ : ∃ A1, A1 = (if c = (1 : Int).toNat then (some ad) else ((some ad) : Option Addr).map (·.add ((1 : Int).toNat * 1))) := ⟨_, rfl⟩
    obtain ⟨c7, hc7⟩ : ∃ c1, c1 = c - (1 : Int).toNat := ⟨_, rfl⟩
    rw [← hA7, ← hc7] at hcut
    have hr7 : ∀ w0, Kd.C (Kd.int .u8) w0 (some ad) (x :: t).length (x :: t) → Kd.C (Kd.int .u8) w0 A7 t.length t := by rw [hA7]; exact hr
    have hle : t.length ≤ c7 := by rw [hc7]; simp only [List.length_cons] at hc; show t.length ≤ c - 1; omega
    have e7 : (x :: t).length - (1 : Int).toNat = t.length := by simp
    rw [e7] at hcut
    have hlen : (t.length : Int) + 1 ≠ 0 := by omega
    have hlen2 : ((t.length : Int) + 1 == 0) = false := beq_eq_false_iff_ne.mpr hlen
    have hlt : (0 : Int) < (t.length : Int) + 1 := by omega
    have hw := u8_w hx
    have HC := Aside0.mk hr7
    have HL := Aside0.mk hle
    clear hC hb hr hr7 hi0 hsz hA7 hc7 hc e7 hle hx q7
    simp only [List.length_cons] at hcut ⊢
    have q8 : (0 : Int) < ((t.length + 1 : Nat) : Int) := by omega
    go_enter Tryd.func40, Tryd.ntmps40
    go_wp2
    repeat (go_quiet (fail); try go_wp2)
    go_ret2
    refine ⟨A7, c7, congrArg (fun v => Ending.returned (.tuple #[.int .i64 v, .slice A7 t.length c7])) hw, HL.out, HC.out, by repeat (first | exact Drawn0.refl _ | apply Drawn0.step)⟩

theorem mn_take (h : Int) (h0 : 0 ≤ h ∧ h ≤ 255) (l : List Int) : 0 ≤ mn (Int.tmod h 17) (l.length : Int) ∧ mn (Int.tmod h 17) (l.length : Int) ≤ (l.length : Int) ∧ l.take (mn (Int.tmod h 17) (l.length : Int)).toNat = l.take (h % 17).toNat ∧ l.drop (mn (Int.tmod h 17) (l.length : Int)).toNat = l.drop (h % 17).toNat := by
  have e : Int.tmod h 17 = h % 17 := Int.tmod_eq_emod_of_nonneg h0.1
  rw [e]
  unfold mn
  split
  · rename_i hlt
    refine ⟨by omega, by omega, ?_, ?_⟩
    · rw [Int.toNat_natCast, List.take_length, List.take_of_length_le (by omega)]
    · rw [Int.toNat_natCast, List.drop_length, List.drop_eq_nil_of_le (by omega)]
  · exact ⟨by omega, by omega, rfl, rfl⟩

set_option maxHeartbeats 1000000 in
theorem text_c (A : Option Addr) (c : Nat) (bs : List Int) (W : World) (hC : Kd.C (Kd.int .u8) W A bs.length bs) (hc : bs.length ≤ c) (hb : Rg bs) :
    Calls Tryd.prog 41 #[.slice A bs.length c] W fun e w' => ∃ A' c', e = .returned (.tuple #[.string (strOfNums ((bs.drop 1).take (hd bs % 17).toNat)), .slice A' ((bs.drop 1).drop (hd bs % 17).toNat).length c']) ∧ ((bs.drop 1).drop (hd bs % 17).toNat).length ≤ c' ∧
      (∀ w0, Kd.C (Kd.int .u8) w0 A bs.length bs → Kd.C (Kd.int .u8) w0 A' ((bs.drop 1).drop (hd bs % 17).toNat).length ((bs.drop 1).drop (hd bs % 17).toNat)) ∧ Drawn0 W w' := by
  obtain ⟨m0, m1, m2, m3⟩ := mn_take (hd bs) hb.hd (bs.drop 1)
  have HC := Aside0.mk hC
  have HL := Aside0.mk hc
  have HB := Aside0.mk hb
  obtain ⟨r, hr⟩ : ∃ r, r = bs.drop 1 := ⟨_, rfl⟩
  rw [← hr] at m0 m1 m2 m3 ⊢
  obtain ⟨x, hx⟩ : ∃ x, x = hd bs := ⟨_, rfl⟩
  rw [← hx] at m0 m1 m2 m3 ⊢
  obtain ⟨j, hj⟩ : ∃ j, j = mn (Int.tmod x 17) (r.length : Int) := ⟨_, rfl⟩
  rw [← hj] at m0 m1 m2 m3
  have HR := Aside0.mk hr
  have HX := Aside0.mk hx
  have hjm := hj.symm
  obtain ⟨s, hs⟩ : ∃ s, s = strOfNums (r.take (x % 17).toNat) := ⟨_, rfl⟩
  obtain ⟨r2, hr4⟩ : ∃ r2, r2 = r.drop (x % 17).toNat := ⟨_, rfl⟩
  rw [← hs, ← hr4]
  have HS := Aside0.mk hs
  have HR4 := Aside0.mk hr4
  clear hs hr4
  clear hC hc hb hr hx hj
  go_enter Tryd.func41, Tryd.ntmps41
  go_upto_region 3 with (first | (go_at_call 40; (with_reducible refine (one_c A c bs _ (Kd.C_below HC.out (by repeat (with_reducible first | exact Below.refl _ _ | apply pw_below_drewN | apply below_drew1))) HL.out HB.out).mono ?_); rintro e w1 ⟨A1, c1, rfl, hl1, hc1, ⟨q1, rfl⟩⟩; rw [← HR.out] at hl1 hc1; rw [← HR.out, ← HX.out]; have HCF := Aside0.mk hc1; have HC1 := Aside0.mk (hc1 _ (Kd.C_below HC.out (by repeat (with_reducible first | exact Below.refl _ _ | apply pw_below_drewN | apply below_drew1)) : Kd.C (Kd.int .u8) (W.drewN q1) A bs.length bs)); have HL1 := Aside0.mk hl1; clear hl1 hc1))
  have hjm2 : (if (r.length : Int) < x.tmod 17 then (r.length : Int) else x.tmod 17) = j := hjm
  rw [hjm2]
  have HD := Aside0.mk (show Drawn0 W (W.drewN q1) from ⟨q1, rfl⟩)
  generalize W.drewN q1 = w2 at HC1 HD ⊢
  obtain ⟨i0, hi0, _, hsz, _⟩ := info_parts HScript.info5
  have hcut1 := cut_to (P := Tryd.prog) 39 5 .i64 Tryd.underlying39 hi0 A1 r.length c1 j m0 m1 HL1.out
  have hcut2 := cut_from (P := Tryd.prog) 39 5 .i64 Tryd.underlying39 hi0 1 hsz A1 r.length c1 j m0 m1
  have hr1 := Kd.C_take (m := j.toNat) HC1.out (by omega)
  have hr2 := fun w0 (h : Kd.C (Kd.int .u8) w0 A1 r.length r) => Kd.C_drop (m := j.toNat) h (by omega) HL1.out
  have e1 : (r.take j.toNat).length = j.toNat := by rw [List.length_take]; omega
  have e2 : (r.drop j.toNat).length = r.length - j.toNat := List.length_drop
  rw [m2] at hr1 e1
  rw [m3] at hr2 e2
  rw [← e1] at hcut1
  obtain ⟨A2, hA2⟩ : ∃ A2, A2 = (if c1 = j.toNat then A1 else A1.map (·.add (j.toNat * 1))) := ⟨_, rfl⟩
  obtain ⟨c2, hc2⟩ : ∃ c2, c2 = c1 - j.toNat := ⟨_, rfl⟩
  rw [← e2, ← hA2, ← hc2] at hcut2
  have hr3 : ∀ w0, Kd.C (Kd.int .u8) w0 A1 r.length r → Kd.C (Kd.int .u8) w0 A2 (r.drop (x % 17).toNat).length (r.drop (x % 17).toNat) := by rw [hA2]; exact hr2
  have hle : (r.drop (x % 17).toNat).length ≤ c2 := by rw [e2, hc2]; have := HL1.out; omega
  have hcv : ∀ q, (convert 39 9 (.slice A1 (r.take (x % 17).toNat).length c1)).run Tryd.prog (w2.drewN q) = .ok (.string (strOfNums (r.take (x % 17).toNat))) (w2.drewN q) := fun q => Kd.C_string Tryd.underlying39 Tryd.underlying5 Tryd.underlying9 (Kd.C_below hr1 (pw_below_drewN (Below.refl _ _) q))
  have hcv1 : (convert 39 9 (.slice A1 (r.take (x % 17).toNat).length c1)).run Tryd.prog w2.drew = .ok (.string (strOfNums (r.take (x % 17).toNat))) w2.drew := Kd.C_string Tryd.underlying39 Tryd.underlying5 Tryd.underlying9 (Kd.C_below hr1 (below_drew1 (Below.refl _ _)))
  have hcv2 : (convert 39 9 (.slice A1 (r.take (x % 17).toNat).length c1)).run Tryd.prog w2 = .ok (.string (strOfNums (r.take (x % 17).toNat))) w2 := Kd.C_string Tryd.underlying39 Tryd.underlying5 Tryd.underlying9 hr1
  rw [← HS.out] at hcv hcv1 hcv2
  obtain ⟨n1, hn1⟩ : ∃ n1, n1 = (r.take (x % 17).toNat).length := ⟨_, rfl⟩
  rw [← hn1] at hcv hcv1 hcv2 hcut1
  rw [← HR4.out] at hcut2 hr3 hle
  have HC3 := Aside0.mk hr3
  have HL3 := Aside0.mk hle
  clear hr1 hr2 e1 e2 hA2 hc2 m0 m1 m2 m3 hi0 hsz hr3 hle hjm hjm2 hn1
  repeat (go_quiet (fail); try go_wp2)
  go_ret2
  refine ⟨A2, c2, rfl, HL3.out, fun w0 h => HC3.out w0 (HCF.out w0 h), ?_⟩
  · obtain ⟨q2, rfl⟩ := HD.out
    repeat (first | exact Drawn0.refl _ | apply Drawn0.step)
end Go.Proofs.YtfpjfndelkgciaaDoor.Sc
