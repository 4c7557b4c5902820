/- Layer 4: Upper and Lower. -/
import Derived.Test.YtipkjpcedfokhaaDoorGClose
import Derived.Test.YtipkjpcedfokhaaDoorMGlyph
namespace Go.Proofs.YtipkjpcedfokhaaDoor
set_option linter.unusedVariables false
set_option linter.unusedSimpArgs false
open Go.RowKit Lv

theorem m1_up (p q c : Nat) (w : World) (hc : c ≤ 255) (h1 : w.cell? ⟨p, 0, none⟩ = some (.int .u8 97)) (h2 : w.cell? ⟨q, 0, none⟩ = some (.int .i64 (-32))) :
    Calls Tryd.prog 116 #[.int .u8 c, .pointer (some ⟨p, 0, none⟩), .pointer (some ⟨q, 0, none⟩)] w fun e w' => e = .returned (.int .u8 (up8 c : Nat)) ∧ Kept w w' := by
  by_cases c1 : 97 ≤ c
  · by_cases c2 : c ≤ 122
    · have e : Hid (((up8 c : Nat) : Int) = (c : Int) + (-32)) := by show _ = _; unfold up8; rw [if_pos ⟨c1, c2⟩]; omega
      go_enter Tryd.func116, Tryd.ntmps116
      go_wp2_with fail
      go_ret
      exact ⟨ret_int e.out.symm, (by repeat (first | with_reducible exact Kept.refl _ | with_reducible apply Kept.drew | with_reducible apply Kept.drewN | with_reducible apply Kept.alloc | (with_reducible refine Kept.setCellX ?_ ?_ _; focus (first | (simp; done) | (simp; omega))) | (with_reducible refine Kept.trans ?_ (by assumption))))⟩
    · have e : Hid (((up8 c : Nat) : Int) = (c : Int)) := by show _ = _; unfold up8; rw [if_neg (by omega)]
      go_enter Tryd.func116, Tryd.ntmps116
      go_wp2_with fail
      go_ret
      exact ⟨ret_int e.out.symm, (by repeat (first | with_reducible exact Kept.refl _ | with_reducible apply Kept.drew | with_reducible apply Kept.drewN | with_reducible apply Kept.alloc | (with_reducible refine Kept.setCellX ?_ ?_ _; focus (first | (simp; done) | (simp; omega))) | (with_reducible refine Kept.trans ?_ (by assumption))))⟩
  · have e : Hid (((up8 c : Nat) : Int) = (c : Int)) := by show _ = _; unfold up8; rw [if_neg (by omega)]
    go_enter Tryd.func116, Tryd.ntmps116
    go_wp2_with fail
    go_ret
    exact ⟨ret_int e.out.symm, (by repeat (first | with_reducible exact Kept.refl _ | with_reducible apply Kept.drew | with_reducible apply Kept.drewN | with_reducible apply Kept.alloc | (with_reducible refine Kept.setCellX ?_ ?_ _; focus (first | (simp; done) | (simp; omega))) | (with_reducible refine Kept.trans ?_ (by assumption))))⟩

theorem m1_lo (p q c : Nat) (w : World) (hc : c ≤ 255) (h1 : w.cell? ⟨p, 0, none⟩ = some (.int .u8 65)) (h2 : w.cell? ⟨q, 0, none⟩ = some (.int .i64 32)) :
    Calls Tryd.prog 116 #[.int .u8 c, .pointer (some ⟨p, 0, none⟩), .pointer (some ⟨q, 0, none⟩)] w fun e w' => e = .returned (.int .u8 (lo8 c : Nat)) ∧ Kept w w' := by
  by_cases c1 : 65 ≤ c
  · by_cases c2 : c ≤ 90
    · have e : Hid (((lo8 c : Nat) : Int) = (c : Int) + 32) := by show _ = _; unfold lo8; rw [if_pos ⟨c1, c2⟩]; omega
      go_enter Tryd.func116, Tryd.ntmps116
      go_wp2_with fail
      go_ret
      exact ⟨ret_int e.out.symm, (by repeat (first | with_reducible exact Kept.refl _ | with_reducible apply Kept.drew | with_reducible apply Kept.drewN | with_reducible apply Kept.alloc | (with_reducible refine Kept.setCellX ?_ ?_ _; focus (first | (simp; done) | (simp; omega))) | (with_reducible refine Kept.trans ?_ (by assumption))))⟩
    · have e : Hid (((lo8 c : Nat) : Int) = (c : Int)) := by show _ = _; unfold lo8; rw [if_neg (by omega)]
      go_enter Tryd.func116, Tryd.ntmps116
      go_wp2_with fail
      go_ret
      exact ⟨ret_int e.out.symm, (by repeat (first | with_reducible exact Kept.refl _ | with_reducible apply Kept.drew | with_reducible apply Kept.drewN | with_reducible apply Kept.alloc | (with_reducible refine Kept.setCellX ?_ ?_ _; focus (first | (simp; done) | (simp; omega))) | (with_reducible refine Kept.trans ?_ (by assumption))))⟩
  · have e : Hid (((lo8 c : Nat) : Int) = (c : Int)) := by show _ = _; unfold lo8; rw [if_neg (by omega)]
    go_enter Tryd.func116, Tryd.ntmps116
    go_wp2_with fail
    go_ret
    exact ⟨ret_int e.out.symm, (by repeat (first | with_reducible exact Kept.refl _ | with_reducible apply Kept.drew | with_reducible apply Kept.drewN | with_reducible apply Kept.alloc | (with_reducible refine Kept.setCellX ?_ ?_ _; focus (first | (simp; done) | (simp; omega))) | (with_reducible refine Kept.trans ?_ (by assumption))))⟩

theorem ret_bs {l m : List UInt8} (h : l = m) : Ending.returned (.string ⟨l.toArray⟩) = .returned (.string ⟨m.toArray⟩) := by rw [h]
theorem conv_lot {w : World} {g f cap : Nat} {cs : Array Value} (l : List UInt8) (lot : Lot w g 5 cs f) (tel : Tells cs l.length (fun j => (l.getD j 0).toNat)) :
    (convert 70 9 (.slice (some ⟨g, 0, none⟩) l.length cap)).run Tryd.prog w = .ok (.string ⟨l.toArray⟩) w := by
  have := run_convert_bytes_arg (P := Tryd.prog) w 70 5 Tryd.underlying70 Tryd.underlying5 g 0 l.length cap (l.map fun b => (b.toNat : Int)) (by simp)
    (fun i hi => by
      rw [Nat.zero_add, lot.cell i, tel i hi]
      simp [hi]) 9 Tryd.underlying9
  rw [this, strOfNums_list]
theorem tells_map {cs : Array Value} {l : List UInt8} {F : Nat → Nat} {g : UInt8 → UInt8} (hg : ∀ c : UInt8, (g c).toNat = F c.toNat) (h : Tells cs l.length (fun j => F (l.getD j 0).toNat)) : Tells cs (l.map g).length (fun j => ((l.map g).getD j 0).toNat) := fun j hj => by
  rw [List.length_map] at hj
  rw [h j hj]
  have e : (l.map g).getD j 0 = g (l.getD j 0) := by simp [List.getD, hj]
  simp only [e, hg]

set_option maxHeartbeats 400000 in
set_option maxRecDepth 100000 in
theorem moved_up (l : List UInt8) (w : World) (hl : l.length ≤ 1000000) : Calls Tryd.prog 76 #[.string ⟨l.toArray⟩, .int .u8 97, .int .i64 (-32)] w fun e w' => e = .returned (.string ⟨(l.map upB).toArray⟩) ∧ Kept w w' := by
  have hp : Hid (∀ W (c : Nat), c ≤ 255 → Kept ((w.alloc (.cells #[.int .u8 97] 5)).alloc (.cells #[.int .i64 (-32)] 3)) W → Calls Tryd.prog 116 #[.int .u8 c, .pointer (some ⟨w.heap.size, 0, none⟩), .pointer (some ⟨w.heap.size + 1, 0, none⟩)] W fun e w' => e = .returned (.int .u8 (up8 c : Nat)) ∧ Kept W w') := fun W c hc hW => by
    have hb := bcell hW
    refine m1_up _ _ c W hc ?_ ?_
    · rw [hb.1 _ _ (by simp; omega)]; simp
    · rw [hb.1 _ _ (by simp)]; simp
  have HK : Kept w ((w.alloc (.cells #[.int .u8 97] 5)).alloc (.cells #[.int .i64 (-32)] 3)) := (by repeat (first | with_reducible exact Kept.refl _ | with_reducible apply Kept.drew | with_reducible apply Kept.drewN | with_reducible apply Kept.alloc | (with_reducible refine Kept.setCellX ?_ ?_ _; focus (first | (simp; done) | (simp; omega))) | (with_reducible refine Kept.trans ?_ (by assumption))))
  go_enter Tryd.func76, Tryd.ntmps76
  go_wp2_with fail
  refine (changed_mv _ _ up8 l _ hl hp (fun c hc => by unfold up8; split <;> omega)).mono ?_
  rintro e w1 ⟨cap, cs, f, rfl, k1, lot, tel⟩
  have hcv := conv_lot (cap := cap) (l.map upB) lot (tells_map upB_toNat tel)
  rw [List.length_map] at hcv
  simp only [World.size_alloc] at hcv
  clear hp lot tel
  go_wp2_with fail
  go_ret
  exact ⟨rfl, HK.trans k1⟩

theorem upper_any (l : List UInt8) (w : World) (hl : l.length ≤ 1000000) : Calls Tryd.prog 27 #[.string ⟨l.toArray⟩] w fun e w' => e = .returned (.string ⟨(upper l).toArray⟩) ∧ Kept w w' := by
  have M := Lib.hid (fun w => moved_up l w hl)
  have E : Hid (l.map upB = upper l) := rfl
  generalize l.map upB = m at *
  go_enter Tryd.func27, Tryd.ntmps27
  go_wp2_with fail
  refine (M.out _).mono ?_
  rintro e w' ⟨rfl, k1⟩
  go_wp2_with fail
  go_ret
  exact ⟨ret_bs E.out, (by repeat (first | with_reducible exact Kept.refl _ | with_reducible apply Kept.drew | with_reducible apply Kept.drewN | with_reducible apply Kept.alloc | (with_reducible refine Kept.setCellX ?_ ?_ _; focus (first | (simp; done) | (simp; omega))) | (with_reducible refine Kept.trans ?_ (by assumption))))⟩

set_option maxHeartbeats 400000 in
set_option maxRecDepth 100000 in
theorem moved_lo (l : List UInt8) (w : World) (hl : l.length ≤ 1000000) : Calls Tryd.prog 76 #[.string ⟨l.toArray⟩, .int .u8 65, .int .i64 32] w fun e w' => e = .returned (.string ⟨(l.map loB).toArray⟩) ∧ Kept w w' := by
  have hp : Hid (∀ W (c : Nat), c ≤ 255 → Kept ((w.alloc (.cells #[.int .u8 65] 5)).alloc (.cells #[.int .i64 32] 3)) W → Calls Tryd.prog 116 #[.int .u8 c, .pointer (some ⟨w.heap.size, 0, none⟩), .pointer (some ⟨w.heap.size + 1, 0, none⟩)] W fun e w' => e = .returned (.int .u8 (lo8 c : Nat)) ∧ Kept W w') := fun W c hc hW => by
    have hb := bcell hW
    refine m1_lo _ _ c W hc ?_ ?_
    · rw [hb.1 _ _ (by simp; omega)]; simp
    · rw [hb.1 _ _ (by simp)]; simp
  have HK : Kept w ((w.alloc (.cells #[.int .u8 65] 5)).alloc (.cells #[.int .i64 32] 3)) := (by repeat (first | with_reducible exact Kept.refl _ | with_reducible apply Kept.drew | with_reducible apply Kept.drewN | with_reducible apply Kept.alloc | (with_reducible refine Kept.setCellX ?_ ?_ _; focus (first | (simp; done) | (simp; omega))) | (with_reducible refine Kept.trans ?_ (by assumption))))
  go_enter Tryd.func76, Tryd.ntmps76
  go_wp2_with fail
  refine (changed_mv _ _ lo8 l _ hl hp (fun c hc => by unfold lo8; split <;> omega)).mono ?_
  rintro e w1 ⟨cap, cs, f, rfl, k1, lot, tel⟩
  have hcv := conv_lot (cap := cap) (l.map loB) lot (tells_map loB_toNat tel)
  rw [List.length_map] at hcv
  simp only [World.size_alloc] at hcv
  clear hp lot tel
  go_wp2_with fail
  go_ret
  exact ⟨rfl, HK.trans k1⟩

theorem lower_any (l : List UInt8) (w : World) (hl : l.length ≤ 1000000) : Calls Tryd.prog 28 #[.string ⟨l.toArray⟩] w fun e w' => e = .returned (.string ⟨(lower l).toArray⟩) ∧ Kept w w' := by
  have M := Lib.hid (fun w => moved_lo l w hl)
  have E : Hid (l.map loB = lower l) := rfl
  generalize l.map loB = m at *
  go_enter Tryd.func28, Tryd.ntmps28
  go_wp2_with fail
  refine (M.out _).mono ?_
  rintro e w' ⟨rfl, k1⟩
  go_wp2_with fail
  go_ret
  exact ⟨ret_bs E.out, (by repeat (first | with_reducible exact Kept.refl _ | with_reducible apply Kept.drew | with_reducible apply Kept.drewN | with_reducible apply Kept.alloc | (with_reducible refine Kept.setCellX ?_ ?_ _; focus (first | (simp; done) | (simp; omega))) | (with_reducible refine Kept.trans ?_ (by assumption))))⟩

end Go.Proofs.YtipkjpcedfokhaaDoor
