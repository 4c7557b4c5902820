/- The statements' own 'many': n times one byte. -/
import Derived.Test.YtipkjpcedfokhaaDoorGUnq
namespace Go.Proofs.YtipkjpcedfokhaaDoor
set_option linter.unusedVariables false
set_option linter.unusedSimpArgs false
open Go.RowKit Lv

theorem conv_box {w : World} {g cap : Nat} {cs : Array Value} (l : List UInt8) (b : Box w g 5 cs) (tel : Tells cs l.length (fun j => (l.getD j 0).toNat)) :
    (convert 70 9 (.slice (some ⟨g, 0, none⟩) l.length cap)).run Tryd.prog w = .ok (.string ⟨l.toArray⟩) w := by
  have := run_convert_bytes_arg (P := Tryd.prog) w 70 5 Tryd.underlying70 Tryd.underlying5 g 0 l.length cap (l.map fun b => (b.toNat : Int)) (by simp)
    (fun i hi => by
      rw [Nat.zero_add, b.cell i, tel i hi]
      simp [hi]) 9 Tryd.underlying9
  rw [this, strOfNums_list]

theorem make_bytes (n : Nat) (h : n ≤ 1000) (w : World) : (Instr.makeSlice 70 (.int .i64 (n : Int)) (.int .i64 (n : Int))).run Tryd.prog w = .ok (.slice (some ⟨w.heap.size, 0, none⟩) n n) (w.alloc (.cells (madeCells #[.int .u8 0] n) 5)) := by
  obtain ⟨i, hi, hz, h1, h2⟩ := info_u8
  have hr := run_make (P := Tryd.prog) w 70 5 i (.int .u8 0) Tryd.underlying70 hi hz .i64 .i64 n n (by omega) (Int.le_refl _) (by rw [h2]; omega) (by omega)
  simp only [Int.toNat_natCast] at hr
  rw [h1, Nat.mul_one] at hr
  exact hr

set_option maxHeartbeats 800000 in
set_option maxRecDepth 100000 in
theorem many_any (b : UInt8) (n : Nat) (hn : n ≤ 1000) (w : World) : Calls Tryd.prog 38 #[.int .u8 b.toNat, .int .i64 n] w fun e w' => e = .returned (.string ⟨(List.replicate n b).toArray⟩) ∧ Kept w w' := by
  have MK := make_bytes n hn
  have bx0 : Box (w.alloc (.cells (madeCells #[.int .u8 0] n) 5)) w.heap.size 5 (madeCells #[.int .u8 0] n) := Box.new w _ _
  have tl0 : Tells (madeCells #[.int .u8 0] n) n (fun j => if j < 0 then b.toNat else 0) := fun j hj => by
    rw [← Array.getElem?_toList, toList_madeCells_one]; simp [hj]
  have HB := Lib.hid bx0; have HT := Lib.hid tl0
  have sz : (madeCells #[.int .u8 0] n).size = n := size_madeCells _ _
  have HS := Lib.hid sz
  have hk0 : Kept w (w.alloc (.cells (madeCells #[.int .u8 0] n) 5)) := (by repeat (first | with_reducible exact Kept.refl _ | with_reducible apply Kept.drew | with_reducible apply Kept.drewN | with_reducible apply Kept.alloc | (with_reducible refine Kept.setCellX ?_ ?_ _; focus (first | (simp; done) | (simp; omega))) | (with_reducible refine Kept.trans ?_ (by assumption))))
  have HK := Lib.hid hk0
  clear bx0 tl0 sz hk0
  generalize madeCells #[.int .u8 0] n = cs0 at *
  go_enter Tryd.func38, Tryd.ntmps38
  go_wp2_with fail
  generalize (w.alloc (.cells cs0 5)) = w0 at *
  clear MK
  go_loopw [6] (fun i wr => ∃ (k : Nat) (cs : Array Value), k ≤ n ∧ i = .int .i64 k ∧ Kept w wr ∧ Box wr w.heap.size 5 cs ∧ Tells cs n (fun j => if j < k then b.toNat else 0)) (fun i _ => n - (intOf i).toNat)
  case atStart => exact ⟨0, cs0, by omega, rfl, HK.out, HB.out, HT.out⟩
  case round =>
    obtain ⟨k, cs, hk, rfl, hkept, bx, tel⟩ := hrel
    have TE := Lib.hid tel
    clear tel
    by_cases c : k < n
    · have hc := (bx.cell k).trans (TE.out k c)
      have hl := bx.loose k
      simp only [Nat.lt_irrefl, if_false] at hc
      have BX := Lib.hid bx
      clear bx
      go_wp2_with fail
      go_roundw
      case rel =>
        refine ⟨k + 1, _, by omega, by go_num, Kept.setCell hkept (by simp) _, BX.out.at_ k _, fun j hj => ?_⟩
        rw [(TE.out.set c b.toNat) j hj]
        by_cases e : j = k
        · subst e; simp only [if_true, if_pos (Nat.lt_succ_self j)]
        · simp only [if_neg e]
          by_cases e2 : j < k
          · rw [if_pos e2, if_pos (by omega)]
          · rw [if_neg e2, if_neg (by omega)]
      case measure => (simp [intOf]; try omega)
    · obtain rfl : k = n := by omega
      have hcv := fun cap => conv_box (cap := cap) (List.replicate k b) bx (by
        rw [List.length_replicate]
        intro j hj
        rw [TE.out j hj]
        simp [hj])
      rw [List.length_replicate] at hcv
      clear bx
      go_wp2_with fail
      go_ret
      exact ⟨rfl, hkept⟩
theorem plain_rep (b : UInt8) (n : Nat) (h : okB b = true) : plain (List.replicate n b) = true := by
  unfold plain; rw [List.all_replicate, h]; simp
end Go.Proofs.YtipkjpcedfokhaaDoor
