/- Layer 1: the digits of a number, written. -/
import Derived.Test.YtingopdeckgpaaaWDec1
import Derived.Test.YtingopdeckgpaaaMText
import Derived.Test.YtingopdeckgpaaaBase3
import Derived.Laws.BytesArg
namespace Go.Proofs.Ytingopdeckgpaaa
set_option linter.unusedVariables false
set_option linter.unusedSimpArgs false
open Go.RowKit Lv

theorem strOfNums_map (S : List UInt8) : strOfNums (S.map (fun b => (b.toNat : Int))) = ⟨S.toArray⟩ := by
  unfold strOfNums
  congr 1
  congr 1
  rw [List.map_map]
  conv => rhs; rw [← List.map_id S]
  refine List.map_congr_left fun b _ => ?_
  simp

theorem len20 : Try.prog.arrayLen 81 = 20 := by kernel_rfl
theorem elem20 : Try.prog.elem 81 = 5 := by kernel_rfl
theorem und20 : Try.prog.underlying 81 = some (.array 20 5) := Try.underlying81
theorem slice20 (g j : Nat) (hj : j < 20) (w : World) : (Instr.sliceAt 81 (.pointer (some ⟨g, 0, none⟩)) (some (.int .i64 (j : Int))) none none).run Try.prog w = .ok (.slice (some ⟨g, j, none⟩) (20 - j) (20 - j)) w := by
  have h := run_sliceAt_array_l (P := Try.prog) w 81 ⟨g, 0, none⟩ (by rw [len20, elem20]; exact und20) .i64 (j : Int) (by omega) (by rw [len20]; omega)
  rw [h, len20, elem20]
  have hs : (sizeOf 5).run Try.prog w = .ok 1 w := by kernel_rfl
  rw [hs]
  simp only [Result.andThen, slicedAt, Int.toNat_natCast, Nat.mul_one]
  rw [if_neg (by omega)]
  simp only [Addr.add]
  split
  · rename_i h0; subst h0; rfl
  · simp

set_option maxHeartbeats 800000 in
theorem decimal_any (n : Nat) (w : World) (h : n ≤ 18446744073709551615) :
    Calls Try.prog 65 #[.int .u64 n] w fun e w' => e = .returned (.string ⟨(digs n).toArray⟩) ∧ Kept w w' := by
  go_enter Try.func65, Try.ntmps65
  go_wp2_with fail
  go_loopw [0, 4] (fun x i wr => ∃ (m : Nat) (S : List UInt8), S.length ≤ 20 ∧ x = .int .u64 m ∧ i = .int .i64 (20 - S.length) ∧ Kept w wr ∧ Box wr w.heap.size 81 (cells20 S) ∧ m < 10 ^ (20 - S.length) ∧ (S = [] ∨ 0 < m) ∧ digs n = digs m ++ S) (fun _ i _ => (intOf i).toNat)
  case atStart =>
    exact ⟨n, [], by simp, rfl, rfl, (by repeat (first | with_reducible exact Kept.refl _ | with_reducible apply Kept.drew | with_reducible apply Kept.drewN | with_reducible apply Kept.alloc | (with_reducible refine Kept.setCellX ?_ ?_ _; focus (first | (simp; done) | (simp; omega))) | (with_reducible refine Kept.trans ?_ (by assumption)))), by rw [cells20_nil]; exact (by repeat (first | with_reducible assumption | (with_reducible refine Box.newAt ?_ _ _; (simp; done)) | with_reducible apply Box.drew | with_reducible apply Box.drewN | (with_reducible refine Box.alloc ?_ _) | (with_reducible apply Box.s20) | (with_reducible apply Box.s21) | (with_reducible apply Box.s1) | (with_reducible apply Box.s40) | (with_reducible apply Box.s41) | (with_reducible apply Box.s42) | (with_reducible apply Box.s43) | (with_reducible refine Box.farX ?_ ?_ _; focus (first | (simp; done) | (simp; omega))))), by simp; omega, Or.inl rfl, by simp⟩
  case round =>
    obtain ⟨m, S, hk, rfl, rfl, hkept, hbox, hm, h0, hd⟩ := hrel
    have hm20 : m < 100000000000000000000 := by
      have := Nat.pow_le_pow_right (n := 10) (by omega) (show 20 - S.length ≤ 20 by omega)
      omega
    have hk1 : S.length < 20 := by
      rcases Nat.lt_or_ge S.length 20 with h | h
      · exact h
      · exfalso
        have e : S.length = 20 := by omega
        rw [e] at hm
        rcases h0 with h0 | h0
        · subst h0; simp at e
        · omega
    have hin : ∃ v, wr.cell? ⟨w.heap.size, 20 - S.length - 1, none⟩ = some v := by
      obtain ⟨v, hv⟩ := cells20_some hk (i := 20 - S.length - 1) (by omega)
      exact ⟨v, by rw [hbox.cell]; exact hv⟩
    obtain ⟨v, hv⟩ := hin
    have hf := hbox.loose (20 - S.length - 1)
    have hc : ((UInt8.ofNat (48 + m % 10)).toNat : Int) = 48 + (m : Int) % 10 := by simp; omega
    have hbox2 : Box (wr.setCell ⟨w.heap.size, 20 - S.length - 1, none⟩ (.int .u8 (48 + (m : Int) % 10))) w.heap.size 81 (cells20 (UInt8.ofNat (48 + m % 10) :: S)) := by
      have := hbox.at_ (20 - S.length - 1) (.int .u8 (UInt8.ofNat (48 + m % 10)).toNat)
      rw [show 20 - S.length - 1 = 19 - S.length by omega, cells20_cons hk1, hc] at this
      rw [show 20 - S.length - 1 = 19 - S.length by omega]
      exact this
    have HB2 := Lib.hid hbox2
    have HD := Lib.hid hd
    have HM := Lib.hid hm
    have H0 := Lib.hid h0
    clear hbox2 hd hc hbox hm h0
    by_cases c : m / 10 = 0
    · have m9 : m < 10 := by omega
      have c' : ((m : Int) / 10 == 0) = true := by simp; omega
      have hl : (UInt8.ofNat (48 + m % 10) :: S).length = S.length + 1 := rfl
      have hcv := run_convert_bytes_arg (P := Try.prog) (wr.setCell ⟨w.heap.size, 20 - S.length - 1, none⟩ (.int .u8 (48 + (m : Int) % 10))) 71 5 Try.underlying71 Try.underlying5 w.heap.size (20 - S.length - 1) (20 - (20 - S.length - 1)) (20 - (20 - S.length - 1)) ((UInt8.ofNat (48 + m % 10) :: S).map (fun b => (b.toNat : Int))) (by simp; omega)
        (fun i hi => by
          have := cells20_get (S := UInt8.ofNat (48 + m % 10) :: S) (by simp; omega) (i := i) (by simp; omega)
          rw [List.length_cons] at this
          rw [HB2.out.cell, show 20 - S.length - 1 + i = 20 - (S.length + 1) + i by omega]
          exact this) 9 Try.underlying9
      rw [strOfNums_map] at hcv
      have hsl := fun wx => slice20 w.heap.size (20 - S.length - 1) (by omega) wx
      rw [show (((20 - S.length - 1 : Nat) : Int)) = 20 - (S.length : Int) - 1 by omega] at hsl
      have E : UInt8.ofNat (48 + m % 10) :: S = digs n := by rw [HD.out, digs_lt m9, Nat.mod_eq_of_lt m9]; rfl
      rw [E] at hcv
      clear E
      go_wp2_with fail
      go_ret
      exact ⟨rfl, (by repeat (first | with_reducible exact Kept.refl _ | with_reducible apply Kept.drew | with_reducible apply Kept.drewN | with_reducible apply Kept.alloc | (with_reducible refine Kept.setCellX ?_ ?_ _; focus (first | (simp; done) | (simp; omega))) | (with_reducible refine Kept.trans ?_ (by assumption))))⟩
    · have c' : ((m : Int) / 10 == 0) = false := by simp; omega
      go_wp2_with fail
      go_roundw
      case rel =>
        have e := HD.out
        rw [digs_ge (by omega) hm20, List.append_assoc] at e
        refine ⟨m / 10, UInt8.ofNat (48 + m % 10) :: S, by simp; omega, by simp, by simp; omega, (by repeat (first | with_reducible exact Kept.refl _ | with_reducible apply Kept.drew | with_reducible apply Kept.drewN | with_reducible apply Kept.alloc | (with_reducible refine Kept.setCellX ?_ ?_ _; focus (first | (simp; done) | (simp; omega))) | (with_reducible refine Kept.trans ?_ (by assumption)))), HB2.out, ?_, Or.inr (by omega), e⟩
        have hm := HM.out
        rw [Nat.div_lt_iff_lt_mul (by omega), List.length_cons, ← Nat.pow_succ, show (20 - (S.length + 1)).succ = 20 - S.length by omega]
        exact hm
      case measure => simp [intOf]; omega
end Go.Proofs.Ytingopdeckgpaaa
