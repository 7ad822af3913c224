/- The walk of stat.Text. -/
import Derived.Test.YtnfdalfnbjencaaStatW1
import Derived.Test.YtnfdalfnbjencaaTextPlain
import Derived.Laws.Rows
namespace Go.Proofs.Ytnfdalfnbjencaa.Fw
open Go.RowKit Go.Proofs.Ytnfdalfnbjencaa.Fl Go.Proofs.YtnfdalfnbjencaaW.PrintWords Go.Proofs.YtnfdalfnbjencaaW.PrintMore
set_option linter.unusedVariables false
set_option linter.unusedSimpArgs false

/-- The block (of type t) that holds the bytes xs. -/
def BK (t : TypeId) (w : World) (g : Nat) (xs : List Int) : Prop := w.heap[g]? = some (.cells (nums .u8 xs).toArray t (0, 0))
theorem BK.cell {t : TypeId} {w : World} {g : Nat} {xs : List Int} (h : BK t w g xs) (j : Nat) (hj : j < xs.length) : w.cell? ⟨g, j, none⟩ = some (.int .u8 xs[j]) := by
  rw [cell_of_row w g j _ t (0, 0) h]
  simp [nums, hj]
theorem BK.free {t : TypeId} {w : World} {g : Nat} {xs : List Int} (h : BK t w g xs) (j : Nat) : w.frozen? ⟨g, j, none⟩ = false := by
  unfold BK at h
  simp [World.frozen?, h]
theorem BK.set_ {t : TypeId} {w : World} {g : Nat} {xs : List Int} (h : BK t w g xs) (j : Nat) (x : Int) : BK t (w.setCell ⟨g, j, none⟩ (.int .u8 x)) g (xs.set j x) := by
  unfold BK at h ⊢
  simp only [World.setCell, Array.getElem?_modify, h]
  simp [nums, List.map_set]
theorem BK.reads {t : TypeId} {w : World} {g : Nat} {xs : List Int} (h : BK t w g xs) (hl : xs.length ≤ 9223372036854775807) : ReadsInt w .u8 (some ⟨g, 0, none⟩) xs.length xs := by
  refine ⟨rfl, hl, fun _ => ⟨_, rfl, fun j hj => ?_⟩⟩
  have e : (⟨g, 0, none⟩ : Addr).add j = ⟨g, j, none⟩ := by
    unfold Addr.add
    by_cases h0 : j = 0
    · subst h0; simp
    · simp [h0]
  rw [e, h.cell j hj]
  simp [hj]

theorem digit_index (d : Nat) (hd : d < 16) (W : World) : (Instr.index 9 (.string ⟨#[48, 49, 50, 51, 52, 53, 54, 55, 56, 57, 97, 98, 99, 100, 101, 102]⟩) (.int .u64 (d : Int))).run Try.prog W = .ok (.int .u8 (hexd d : Int)) W := by
  rcases d with _ | _ | _ | _ | _ | _ | _ | _ | _ | _ | _ | _ | _ | _ | _ | _ | d
  all_goals first | omega | kernel_rfl

theorem and15 (n k : Nat) (hn : n < full) : bits .and .u64 ((n : Int) / 2 ^ (4 * k)) 15 = ((n / 16 ^ k % 16 : Nat) : Int) := by
  have e : ((n : Int) / 2 ^ (4 * k)) = ((n / 16 ^ k : Nat) : Int) := by
    rw [Int.natCast_ediv]
    congr 1
    rw [show (16 : Nat) = 2 ^ 4 from rfl, ← Nat.pow_mul]
    simp
  rw [e]
  have hlt : n / 16 ^ k < full := Nat.lt_of_le_of_lt (Nat.div_le_self _ _) hn
  refine (u64_and_nat (n / 16 ^ k) 15 hlt (by decide)).trans ?_
  rw [show 15 = 2 ^ 4 - 1 from rfl, Nat.and_two_pow_sub_one_eq_mod]

set_option maxHeartbeats 1000000 in
set_option maxRecDepth 100000 in
theorem text_c (b n : Nat) (w : World) (hb : b < full) (hn : rank b = n) :
    Calls Try.prog 36 #[.float .f64 b] w fun e w' => e = .returned (.string (strOfNums (text n))) ∧ Below w.heap.size w w' := by
  have HN := Aside0.mk hn
  have hnl : n < full := hn ▸ rank_lt b hb
  have HL := Aside0.mk hnl
  clear hn hnl
  go_enter Try.func36, Try.ntmps36
  go_wp2_with (go_at_call 12; (with_reducible refine (rank_c b n _ hb HN.out).mono ?_); rintro e w1 ⟨rfl, ⟨n1, rfl⟩⟩)
  go_loopg [5, 8] 17 (fun gg s5 s8 wr => ∃ kk : Nat, kk ≤ 16 ∧ 17 - kk ≤ gg ∧ s8 = .int .i64 kk ∧ Aside0 (BK 59 wr w.heap.size (partText n kk)) ∧ Aside0 (Below w.heap.size w wr))
  case atStart =>
    refine ⟨0, Nat.zero_le _, by omega, rfl, ⟨?_⟩, ⟨?_⟩⟩
    · rw [partText_zero]
      exact heap_alloc_new (w.drewN n1) _
    · repeat (with_reducible first | exact Below.refl _ _ | apply pw_below_drewN | apply below_drew1 | apply below_alloc)
  case round =>
    obtain ⟨kk, hkk, hg, rfl, HK, HB⟩ := hrel
    by_cases hk : kk < 16
    · have hlt : (kk : Int) < 16 := by omega
      have hcell := HK.out.cell (15 - kk) (by rw [partText_len]; omega)
      have hfree := HK.out.free (15 - kk)
      have hand := and15 n kk HL.out
      have hix := digit_index (n / 16 ^ kk % 16) (Nat.mod_lt _ (by decide))
      have HX := Aside0.mk (show hexd (n / 16 ^ kk % 16) = hxat n (15 - kk) by unfold hxat; rw [show 15 - (15 - kk) = kk from by omega])
      generalize n / 16 ^ kk % 16 = d at hand hix HX
      generalize (partText n kk)[15 - kk]'(by rw [partText_len]; omega) = old at hcell
      go_wp2
      go_roundg (17 - (kk + 1))
      case measure => omega
      case rel =>
        refine ⟨kk + 1, by omega, by omega, by go_num, ⟨?_⟩, ⟨below_set HB.out (Nat.le_refl _)⟩⟩
        have := HK.out.set_ (15 - kk) (hexd d : Int)
        rw [HX.out, partText_set n kk hk] at this
        rw [HX.out]
        exact this
    · have hlt : ¬ (kk : Int) < 16 := by omega
      obtain rfl : kk = 16 := by omega
      have hK := HK.out
      rw [partText_full] at hK
      have hconv := string_of_reads (P := Try.prog) (src := 56) (dst := 9) (c := 16) Try.underlying56 Try.underlying5 Try.underlying9 (hK.reads (by simp [text]))
      have hlen : (text n).length = 16 := by simp [text]
      rw [hlen] at hconv
      clear hK hlen HK
      go_wp2
      go_ret
      exact ⟨rfl, HB.out⟩

end Go.Proofs.Ytnfdalfnbjencaa.Fw
