/- The walk of the document's List: floats by their bits, in a row of the call's own; and of few. -/
import Derived.Test.YtnfdalfnbjencaaFloatW5
import Derived.Test.YtnfdalfnbjencaaWMore
import Derived.OwnWalk
import Derived.IntWalk
namespace Go.Proofs.Ytnfdalfnbjencaa.Fw
open Go.RowKit Go.Proofs.Ytnfdalfnbjencaa.Fl Go.Proofs.YtnfdalfnbjencaaW.PrintWords Go.Proofs.YtnfdalfnbjencaaW.PrintMore
attribute [local go_sem] max2_int min2_int max_two min_two
set_option linter.unusedVariables false
set_option linter.unusedSimpArgs false

def FL : Kd Nat := Kd.scalar (Value.float .f64) (fun _ => rfl)
theorem info23 : (Try.prog.info? 23).map (fun i => (i.zero, i.size, i.bytes)) = some (some (.float .f64 0), 1, 8) := by kernel_rfl

theorem RF.of_R {w : World} {base : Nat} {v : Value} {xs : List Nat} (h : FL.R 23 w base (fun _ => True) v xs) : ∃ A c, v = .slice A xs.length c ∧ xs.length ≤ c ∧ RF w A xs := by
  obtain ⟨A, c, he, hl, hc⟩ := Kd.R_reads h
  exact ⟨A, c, he, hl, Kd.reads_of_C (enc := Value.float .f64) (d := (0 : Nat)) (h1 := fun _ => rfl) hc⟩

set_option maxHeartbeats 2000000 in
set_option maxRecDepth 100000 in
theorem list_c (A : Option Addr) (c : Nat) (l : List Int) (w : World) (hr : Kd.C (Kd.int .u64) w A l.length l) (hl : l.length ≤ 1000000) :
    Calls Try.prog 48 #[.slice A l.length c] w fun e w' => ∃ v, e = .returned v ∧ FL.R 23 w' w.heap.size (fun _ => True) v (l.map Int.toNat) ∧ Below w.heap.size w w' := by
  have HR := Aside0.mk hr
  have HB := Aside0.mk (Below.refl w.heap.size w)
  clear hr
  have h11 := call_frombits
  go_enter Try.func48, Try.ntmps48
  go_wp2_with ((with_reducible refine gate_dst (N := 5) rfl ?_); refine Kd.R_lit FL _ 23 ?hg (N := 5) ?hd (xs := ([] : List Nat)) (inner := []) (ok := fun _ => True) (okp := fun _ => True) ?hr ?hp (fun _ hk => hk) trivial (Below.refl _ _) (Nat.le_refl _) (by simp) ?_; (case hd => rfl); (case hg => rfl); (case hr => first | (go_simp; done) | (go_simp; rfl)); (case hp => exact (Reps.none _ _)); intro v1 w1 ho hb hg_ hnew_; clear hg_ hnew_; have HO := Aside0.mk ho; replace HB := Aside0.mk hb; clear ho hb)
  go_loopg [3, 4] (l.length + 1) (fun gg s3 s4 wr => ∃ kk : Nat, kk ≤ l.length ∧ l.length + 1 - kk ≤ gg ∧ s4 = .int .i64 kk ∧ Aside0 (FL.R 23 wr w.heap.size (fun _ => True) s3 ((l.take kk).map Int.toNat)) ∧ Aside0 (Below w.heap.size w wr))
  case atStart => exact ⟨0, Nat.zero_le _, by omega, rfl, HO, HB⟩
  case round =>
    clear HO HB
    obtain ⟨kk, hkk, hg, rfl, HO, HB⟩ := hrel
    by_cases hk : kk < l.length
    · have hlt : (kk : Int) < (l.length : Int) := by omega
      have hll : (l.length : Int) ≤ 1000000 := by omega
      obtain ⟨ad, e, hc⟩ := Kd.at_int (Kd.C_below HR.out HB.out) kk (by omega) hlt
      cases e
      rw [Int.toNat_natCast] at hc
      have hrd : rd l (kk : Int) = l[kk] := by simp [rd, hk]
      rw [hrd] at hc
      have HS := Aside0.mk (show (l.take (kk + 1)).map Int.toNat = (l.take kk).map Int.toNat ++ [l[kk].toNat] by rw [List.take_succ_eq_append_getElem hk, List.map_append]; rfl)
      generalize l[kk] = x at hc HS
      clear hrd
      have HLn := Aside0.mk (show ((l.take kk).map Int.toNat).length ≤ 1000000 by rw [List.length_map, List.length_take]; omega)
      generalize (l.take kk).map Int.toNat = ys at HO HS HLn
      go_wp2_with (at_builtin; refine Kd.R_append FL (w0 := w) w.heap.size rfl (.tmp 12) (.tmp 18) 30 23 (.float .f64 0) 8 rfl Try.underlying30 info23 rfl (by decide) (by omega) u3 ys x.toNat [.float .f64 x.toNat] (fun _ => True) (fun _ => False) rfl rfl ?aP (fun _ hk => hk.elim) ?aF ?aO ?aB ?aS ?aL ?_; (case aP => exact rfl); (case aF => exact (fun _ _ => trivial)); (case aO => exact HO.out); (case aB => exact HB.out); (case aS => exact (below_size HB.out)); (case aL => have := HLn.out; omega); intro v1 w1 ho hb hg hat; have HO1 := Aside0.mk ho; have HB1 := Aside0.mk hb; clear ho hb hg hat)
      go_roundg (l.length + 1 - (kk + 1))
      case measure => omega
      case rel => exact ⟨kk + 1, by omega, by omega, by go_num, ⟨by rw [HS.out]; exact HO1.out⟩, HB1⟩
    · have hlt : ¬ (kk : Int) < (l.length : Int) := by omega
      have HE := Aside0.mk (List.take_of_length_le (show l.length ≤ kk by omega))
      go_wp2
      go_ret
      exact ⟨_, rfl, by have := HO.out; rwa [HE.out] at this, HB.out⟩

end Go.Proofs.Ytnfdalfnbjencaa.Fw
