/- Small texts together: WSum2, WSum3, Ints, Shelf2, WSum4, MAgg3. -/
import Derived.Test.YtbkjdcpfkepheaaGreatDoorCMixAS
import Derived.Test.YtbkjdcpfkepheaaGreatDoorCMixAM
import Derived.Test.YtbkjdcpfkepheaaGreatDoorCBunW
import Derived.Test.YtbkjdcpfkepheaaGreatDoorCShelf
import Derived.Test.YtbkjdcpfkepheaaGreatDoorCMixAN
set_option linter.unusedVariables false
set_option linter.unusedSimpArgs false
set_option maxHeartbeats 1000000
namespace Go.Proofs.YtbkjdcpfkepheaaGreatDoor
section
open Go.RowKit Lv
theorem bK (x y b d k : Int) (h : u64 x) (h' : u64 y) (b0 : 0 ≤ b) (b1 : b ≤ 1) (hd : u64 d) (k0 : 0 ≤ k) (k1 : k ≤ 1) (he : d = x - y - b + k * 18446744073709551616) (w : World) :
    (callFunc 178 #[.int .u64 x, .int .u64 y, .int .u64 b]).run Tryz.prog w = .ok (.value (.tuple #[.int .u64 d, .int .u64 k])) w := by
  rw [EK x y b h h' b0 b1]; obtain ⟨h1, h2⟩ := h; obtain ⟨h3, h4⟩ := h'; obtain ⟨h5, h6⟩ := hd; have e1 : (x - y - b) % 18446744073709551616 = d := by omega
  have e2 : (if x < y + b then (1 : Int) else 0) = k := by split <;> omega
  rw [e1, e2]
theorem jz {a b c d : Int} {x y : Bool} (h : a = b) (g : c = d) (i : x = y) : Ending.returned (.tuple #[.int .u64 a, .int .u64 c, .bool x]) = .returned (.tuple #[.int .u64 b, .int .u64 d, .bool y]) := by rw [h, g, i]
theorem IC (h0 h1 l0 l1 : Int) (g : Nat) (w : World) (hb : Box w g 194 #[.int .u64 h0, .int .u64 h1, .int .u64 l0, .int .u64 l1]) (u0 : u64 h0) (u1 : u64 h1) (v0 : u64 l0) (v1 : u64 l1) (c1 : l1 ≤ l0) (c2 : h1 ≤ h0) :
    Calls Tryz.prog 156 #[.pointer (some ⟨g, 0, none⟩)] w fun e w' => e = .returned (.tuple #[.int .u64 (aF (Lv.abs (wd h0 l0 - wd h1 l1))), .int .u64 (aK (Lv.abs (wd h0 l0 - wd h1 l1))), .bool (Lv.neg (wd h0 l0 - wd h1 l1))]) ∧ ∃ n, w' = w.drewN n := by
  have b0 : w.cell? ⟨g, 0, none⟩ = some (.int .u64 h0) := hb.cell 0; have b1 : w.cell? ⟨g, 1, none⟩ = some (.int .u64 h1) := hb.cell 1; have b2 : w.cell? ⟨g, 2, none⟩ = some (.int .u64 l0) := hb.cell 2; have b3 : w.cell? ⟨g, 3, none⟩ = some (.int .u64 l1) := hb.cell 3; clear hb; have U0 := u0; have U1 := u1; have V0 := v0; have V1 := v1; obtain ⟨U0, U0'⟩ := U0; obtain ⟨U1, U1'⟩ := U1; obtain ⟨V0, V0'⟩ := V0; obtain ⟨V1, V1'⟩ := V1; obtain ⟨lo, hlo⟩ : ∃ lo, lo = l0 - l1 := ⟨_, rfl⟩; obtain ⟨hi, hhi⟩ : ∃ hi, hi = h0 - h1 := ⟨_, rfl⟩; have s1 := bK l0 l1 0 lo 0 v0 v1 (by omega) (by omega) ⟨by omega, by omega⟩ (by omega) (by omega) (by omega); have s2 := bK h0 h1 0 hi 0 u0 u1 (by omega) (by omega) ⟨by omega, by omega⟩ (by omega) (by omega) (by omega); have e : 0 ≤ wd h0 l0 - wd h1 l1 := by unfold wd; omega
  have E1 : hi = aF (Lv.abs (wd h0 l0 - wd h1 l1)) := by unfold Lv.abs aF wd at *; rw [if_neg (by omega)]; omega
  have E2 : lo = aK (Lv.abs (wd h0 l0 - wd h1 l1)) := by unfold Lv.abs aK wd at *; rw [if_neg (by omega)]; omega
  have E3 : false = Lv.neg (wd h0 l0 - wd h1 l1) := (decide_eq_false (by omega)).symm; have HE1 := Lib.hid E1; have HE2 := Lib.hid E2; have HE3 := Lib.hid E3; clear c1 c2 E1 E2 E3 e u0 u1 v0 v1 hlo hhi; go_enter Tryz.func156, Tryz.ntmps156; go_wp2_with fail
  go_quiet (fail)
  go_wp2_with fail
  go_quiet (fail)
  go_wp2_with fail
  go_ret3
  exact ⟨jz HE1.out HE2.out HE3.out, _, rfl⟩
theorem GK (h0 h1 l0 l1 : Int) (g : Nat) (w : World) (hb : Box w g 194 #[.int .u64 h0, .int .u64 h1, .int .u64 l0, .int .u64 l1]) (u0 : u64 h0) (u1 : u64 h1) (v0 : u64 l0) (v1 : u64 l1) (c1 : l1 = l0) (c2 : h0 < h1) :
    Calls Tryz.prog 156 #[.pointer (some ⟨g, 0, none⟩)] w fun e w' => e = .returned (.tuple #[.int .u64 (aF (Lv.abs (wd h0 l0 - wd h1 l1))), .int .u64 (aK (Lv.abs (wd h0 l0 - wd h1 l1))), .bool (Lv.neg (wd h0 l0 - wd h1 l1))]) ∧ ∃ n, w' = w.drewN n := by
  have b0 : w.cell? ⟨g, 0, none⟩ = some (.int .u64 h0) := hb.cell 0; have b1 : w.cell? ⟨g, 1, none⟩ = some (.int .u64 h1) := hb.cell 1; have b2 : w.cell? ⟨g, 2, none⟩ = some (.int .u64 l0) := hb.cell 2; have b3 : w.cell? ⟨g, 3, none⟩ = some (.int .u64 l1) := hb.cell 3; clear hb; have U0 := u0; have U1 := u1; have V0 := v0; have V1 := v1; obtain ⟨U0, U0'⟩ := U0; obtain ⟨U1, U1'⟩ := U1; obtain ⟨V0, V0'⟩ := V0; obtain ⟨V1, V1'⟩ := V1; obtain ⟨lo, hlo⟩ : ∃ lo, lo = l0 - l1 := ⟨_, rfl⟩; obtain ⟨hi, hhi⟩ : ∃ hi, hi = h0 - h1 + 18446744073709551616 := ⟨_, rfl⟩; have s1 := bK l0 l1 0 lo 0 v0 v1 (by omega) (by omega) ⟨by omega, by omega⟩ (by omega) (by omega) (by omega); have s2 := bK h0 h1 0 hi 1 u0 u1 (by omega) (by omega) ⟨by omega, by omega⟩ (by omega) (by omega) (by omega); obtain ⟨lo2, hlo2⟩ : ∃ lo2, lo2 = 0 := ⟨_, rfl⟩; obtain ⟨hi2, hhi2⟩ : ∃ hi2, hi2 = h1 - h0 := ⟨_, rfl⟩; have s3 := bK 0 lo 0 lo2 0 ⟨by omega, by omega⟩ ⟨by omega, by omega⟩ (by omega) (by omega) ⟨by omega, by omega⟩ (by omega) (by omega) (by omega); have s4 := bK 0 hi 0 hi2 1 ⟨by omega, by omega⟩ ⟨by omega, by omega⟩ (by omega) (by omega) ⟨by omega, by omega⟩ (by omega) (by omega) (by omega); have e : wd h0 l0 - wd h1 l1 < 0 := by unfold wd; omega
  have E1 : hi2 = aF (Lv.abs (wd h0 l0 - wd h1 l1)) := by unfold Lv.abs aF wd at *; rw [if_pos (by omega)]; omega
  have E2 : lo2 = aK (Lv.abs (wd h0 l0 - wd h1 l1)) := by unfold Lv.abs aK wd at *; rw [if_pos (by omega)]; omega
  have E3 : true = Lv.neg (wd h0 l0 - wd h1 l1) := (decide_eq_true (by omega)).symm; have HE1 := Lib.hid E1; have HE2 := Lib.hid E2; have HE3 := Lib.hid E3; clear c1 c2 E1 E2 E3 e u0 u1 v0 v1 hlo hhi hlo2 hhi2; go_enter Tryz.func156, Tryz.ntmps156; go_wp2_with fail
  go_quiet (fail)
  go_wp2_with fail
  go_quiet (fail)
  go_wp2_with fail
  go_ret3
  exact ⟨jz HE1.out HE2.out HE3.out, _, rfl⟩
theorem GL (h0 h1 l0 l1 : Int) (g : Nat) (w : World) (hb : Box w g 194 #[.int .u64 h0, .int .u64 h1, .int .u64 l0, .int .u64 l1]) (u0 : u64 h0) (u1 : u64 h1) (v0 : u64 l0) (v1 : u64 l1) (c1 : l1 < l0) (c2 : h0 < h1) :
    Calls Tryz.prog 156 #[.pointer (some ⟨g, 0, none⟩)] w fun e w' => e = .returned (.tuple #[.int .u64 (aF (Lv.abs (wd h0 l0 - wd h1 l1))), .int .u64 (aK (Lv.abs (wd h0 l0 - wd h1 l1))), .bool (Lv.neg (wd h0 l0 - wd h1 l1))]) ∧ ∃ n, w' = w.drewN n := by
  have b0 : w.cell? ⟨g, 0, none⟩ = some (.int .u64 h0) := hb.cell 0; have b1 : w.cell? ⟨g, 1, none⟩ = some (.int .u64 h1) := hb.cell 1; have b2 : w.cell? ⟨g, 2, none⟩ = some (.int .u64 l0) := hb.cell 2; have b3 : w.cell? ⟨g, 3, none⟩ = some (.int .u64 l1) := hb.cell 3; clear hb; have U0 := u0; have U1 := u1; have V0 := v0; have V1 := v1; obtain ⟨U0, U0'⟩ := U0; obtain ⟨U1, U1'⟩ := U1; obtain ⟨V0, V0'⟩ := V0; obtain ⟨V1, V1'⟩ := V1; obtain ⟨lo, hlo⟩ : ∃ lo, lo = l0 - l1 := ⟨_, rfl⟩; obtain ⟨hi, hhi⟩ : ∃ hi, hi = h0 - h1 + 18446744073709551616 := ⟨_, rfl⟩; have s1 := bK l0 l1 0 lo 0 v0 v1 (by omega) (by omega) ⟨by omega, by omega⟩ (by omega) (by omega) (by omega); have s2 := bK h0 h1 0 hi 1 u0 u1 (by omega) (by omega) ⟨by omega, by omega⟩ (by omega) (by omega) (by omega); obtain ⟨lo2, hlo2⟩ : ∃ lo2, lo2 = l1 - l0 + 18446744073709551616 := ⟨_, rfl⟩; obtain ⟨hi2, hhi2⟩ : ∃ hi2, hi2 = h1 - h0 - 1 := ⟨_, rfl⟩; have s3 := bK 0 lo 0 lo2 1 ⟨by omega, by omega⟩ ⟨by omega, by omega⟩ (by omega) (by omega) ⟨by omega, by omega⟩ (by omega) (by omega) (by omega); have s4 := bK 0 hi 1 hi2 1 ⟨by omega, by omega⟩ ⟨by omega, by omega⟩ (by omega) (by omega) ⟨by omega, by omega⟩ (by omega) (by omega) (by omega); have e : wd h0 l0 - wd h1 l1 < 0 := by unfold wd; omega
  have E1 : hi2 = aF (Lv.abs (wd h0 l0 - wd h1 l1)) := by unfold Lv.abs aF wd at *; rw [if_pos (by omega)]; omega
  have E2 : lo2 = aK (Lv.abs (wd h0 l0 - wd h1 l1)) := by unfold Lv.abs aK wd at *; rw [if_pos (by omega)]; omega
  have E3 : true = Lv.neg (wd h0 l0 - wd h1 l1) := (decide_eq_true (by omega)).symm; have HE1 := Lib.hid E1; have HE2 := Lib.hid E2; have HE3 := Lib.hid E3; clear c1 c2 E1 E2 E3 e u0 u1 v0 v1 hlo hhi hlo2 hhi2; go_enter Tryz.func156, Tryz.ntmps156; go_wp2_with fail
  go_quiet (fail)
  go_wp2_with fail
  go_quiet (fail)
  go_wp2_with fail
  go_ret3
  exact ⟨jz HE1.out HE2.out HE3.out, _, rfl⟩
theorem IE (h0 h1 l0 l1 : Int) (g : Nat) (w : World) (hb : Box w g 194 #[.int .u64 h0, .int .u64 h1, .int .u64 l0, .int .u64 l1]) (u0 : u64 h0) (u1 : u64 h1) (v0 : u64 l0) (v1 : u64 l1) (c1 : l0 < l1) (c2 : h1 < h0) :
    Calls Tryz.prog 156 #[.pointer (some ⟨g, 0, none⟩)] w fun e w' => e = .returned (.tuple #[.int .u64 (aF (Lv.abs (wd h0 l0 - wd h1 l1))), .int .u64 (aK (Lv.abs (wd h0 l0 - wd h1 l1))), .bool (Lv.neg (wd h0 l0 - wd h1 l1))]) ∧ ∃ n, w' = w.drewN n := by
  have b0 : w.cell? ⟨g, 0, none⟩ = some (.int .u64 h0) := hb.cell 0; have b1 : w.cell? ⟨g, 1, none⟩ = some (.int .u64 h1) := hb.cell 1; have b2 : w.cell? ⟨g, 2, none⟩ = some (.int .u64 l0) := hb.cell 2; have b3 : w.cell? ⟨g, 3, none⟩ = some (.int .u64 l1) := hb.cell 3; clear hb; have U0 := u0; have U1 := u1; have V0 := v0; have V1 := v1; obtain ⟨U0, U0'⟩ := U0; obtain ⟨U1, U1'⟩ := U1; obtain ⟨V0, V0'⟩ := V0; obtain ⟨V1, V1'⟩ := V1; obtain ⟨lo, hlo⟩ : ∃ lo, lo = l0 - l1 + 18446744073709551616 := ⟨_, rfl⟩; obtain ⟨hi, hhi⟩ : ∃ hi, hi = h0 - h1 - 1 := ⟨_, rfl⟩; have s1 := bK l0 l1 0 lo 1 v0 v1 (by omega) (by omega) ⟨by omega, by omega⟩ (by omega) (by omega) (by omega); have s2 := bK h0 h1 1 hi 0 u0 u1 (by omega) (by omega) ⟨by omega, by omega⟩ (by omega) (by omega) (by omega); have e : 0 ≤ wd h0 l0 - wd h1 l1 := by unfold wd; omega
  have E1 : hi = aF (Lv.abs (wd h0 l0 - wd h1 l1)) := by unfold Lv.abs aF wd at *; rw [if_neg (by omega)]; omega
  have E2 : lo = aK (Lv.abs (wd h0 l0 - wd h1 l1)) := by unfold Lv.abs aK wd at *; rw [if_neg (by omega)]; omega
  have E3 : false = Lv.neg (wd h0 l0 - wd h1 l1) := (decide_eq_false (by omega)).symm; have HE1 := Lib.hid E1; have HE2 := Lib.hid E2; have HE3 := Lib.hid E3; clear c1 c2 E1 E2 E3 e u0 u1 v0 v1 hlo hhi; go_enter Tryz.func156, Tryz.ntmps156; go_wp2_with fail
  go_quiet (fail)
  go_wp2_with fail
  go_quiet (fail)
  go_wp2_with fail
  go_ret3
  exact ⟨jz HE1.out HE2.out HE3.out, _, rfl⟩
theorem IG (h0 h1 l0 l1 : Int) (g : Nat) (w : World) (hb : Box w g 194 #[.int .u64 h0, .int .u64 h1, .int .u64 l0, .int .u64 l1]) (u0 : u64 h0) (u1 : u64 h1) (v0 : u64 l0) (v1 : u64 l1) (c1 : l0 < l1) (c2 : h0 ≤ h1) :
    Calls Tryz.prog 156 #[.pointer (some ⟨g, 0, none⟩)] w fun e w' => e = .returned (.tuple #[.int .u64 (aF (Lv.abs (wd h0 l0 - wd h1 l1))), .int .u64 (aK (Lv.abs (wd h0 l0 - wd h1 l1))), .bool (Lv.neg (wd h0 l0 - wd h1 l1))]) ∧ ∃ n, w' = w.drewN n := by
  have b0 : w.cell? ⟨g, 0, none⟩ = some (.int .u64 h0) := hb.cell 0; have b1 : w.cell? ⟨g, 1, none⟩ = some (.int .u64 h1) := hb.cell 1; have b2 : w.cell? ⟨g, 2, none⟩ = some (.int .u64 l0) := hb.cell 2; have b3 : w.cell? ⟨g, 3, none⟩ = some (.int .u64 l1) := hb.cell 3; clear hb; have U0 := u0; have U1 := u1; have V0 := v0; have V1 := v1; obtain ⟨U0, U0'⟩ := U0; obtain ⟨U1, U1'⟩ := U1; obtain ⟨V0, V0'⟩ := V0; obtain ⟨V1, V1'⟩ := V1; obtain ⟨lo, hlo⟩ : ∃ lo, lo = l0 - l1 + 18446744073709551616 := ⟨_, rfl⟩; obtain ⟨hi, hhi⟩ : ∃ hi, hi = h0 - h1 - 1 + 18446744073709551616 := ⟨_, rfl⟩; have s1 := bK l0 l1 0 lo 1 v0 v1 (by omega) (by omega) ⟨by omega, by omega⟩ (by omega) (by omega) (by omega); have s2 := bK h0 h1 1 hi 1 u0 u1 (by omega) (by omega) ⟨by omega, by omega⟩ (by omega) (by omega) (by omega); obtain ⟨lo2, hlo2⟩ : ∃ lo2, lo2 = l1 - l0 := ⟨_, rfl⟩; obtain ⟨hi2, hhi2⟩ : ∃ hi2, hi2 = h1 - h0 := ⟨_, rfl⟩; have s3 := bK 0 lo 0 lo2 1 ⟨by omega, by omega⟩ ⟨by omega, by omega⟩ (by omega) (by omega) ⟨by omega, by omega⟩ (by omega) (by omega) (by omega); have s4 := bK 0 hi 1 hi2 1 ⟨by omega, by omega⟩ ⟨by omega, by omega⟩ (by omega) (by omega) ⟨by omega, by omega⟩ (by omega) (by omega) (by omega); have e : wd h0 l0 - wd h1 l1 < 0 := by unfold wd; omega
  have E1 : hi2 = aF (Lv.abs (wd h0 l0 - wd h1 l1)) := by unfold Lv.abs aF wd at *; rw [if_pos (by omega)]; omega
  have E2 : lo2 = aK (Lv.abs (wd h0 l0 - wd h1 l1)) := by unfold Lv.abs aK wd at *; rw [if_pos (by omega)]; omega
  have E3 : true = Lv.neg (wd h0 l0 - wd h1 l1) := (decide_eq_true (by omega)).symm; have HE1 := Lib.hid E1; have HE2 := Lib.hid E2; have HE3 := Lib.hid E3; clear c1 c2 E1 E2 E3 e u0 u1 v0 v1 hlo hhi hlo2 hhi2; go_enter Tryz.func156, Tryz.ntmps156; go_wp2_with fail
  go_quiet (fail)
  go_wp2_with fail
  go_quiet (fail)
  go_wp2_with fail
  go_ret3
  exact ⟨jz HE1.out HE2.out HE3.out, _, rfl⟩
theorem EL (h0 h1 l0 l1 : Int) (g : Nat) (w : World) (hb : Box w g 194 #[.int .u64 h0, .int .u64 h1, .int .u64 l0, .int .u64 l1]) (u0 : u64 h0) (u1 : u64 h1) (v0 : u64 l0) (v1 : u64 l1) :
    Calls Tryz.prog 156 #[.pointer (some ⟨g, 0, none⟩)] w fun e w' => e = .returned (.tuple #[.int .u64 (aF (Lv.abs (wd h0 l0 - wd h1 l1))), .int .u64 (aK (Lv.abs (wd h0 l0 - wd h1 l1))), .bool (Lv.neg (wd h0 l0 - wd h1 l1))]) ∧ ∃ n, w' = w.drewN n := by
  by_cases c1 : l0 < l1
  · by_cases c2 : h1 < h0
    · exact IE h0 h1 l0 l1 g w hb u0 u1 v0 v1 c1 c2
    · exact IG h0 h1 l0 l1 g w hb u0 u1 v0 v1 c1 (by omega)
  · by_cases c2 : h1 ≤ h0
    · exact IC h0 h1 l0 l1 g w hb u0 u1 v0 v1 (by omega) c2
    · by_cases c3 : l1 = l0
      · exact GK h0 h1 l0 l1 g w hb u0 u1 v0 v1 c3 (by omega)
      · exact GL h0 h1 l0 l1 g w hb u0 u1 v0 v1 (by omega) (by omega)
end

section
open Go.RowKit Lv
def Row (w : World) (A : Option Addr) (zs : List Int) : Prop := ∀ i, i < zs.length → ∃ b off, A = some ⟨b, off, none⟩ ∧ b < w.heap.size ∧ w.cell? ⟨b, off + i, none⟩ = some (.int .i64 (zs.getD i 0))
theorem Row.kept {w w' : World} {A : Option Addr} {zs : List Int} (h : Row w A zs) (k : Kept w w') : Row w' A zs := fun i hi => by
  obtain ⟨b, off, rfl, hb, hc⟩ := h i hi; exact ⟨b, off, rfl, Nat.lt_of_lt_of_le hb k.size, (k.cell (p := ⟨b, off + i, none⟩) hb).trans hc⟩
theorem Row.box {w : World} {g : Nat} {t : TypeId} {cs : Array Value} (h : Box w g t cs) {zs : List Int} (hz : ∀ i, i < zs.length → cs[i]? = some (.int .i64 (zs.getD i 0))) : Row w (some ⟨g, 0, none⟩) zs := fun i hi =>
  ⟨g, 0, rfl, h.inside, by rw [Nat.zero_add, h.cell i]; exact hz i hi⟩
def ep (zs : List Int) : Array Value := #[.int .u64 (aF (up zs)), .int .u64 (aF (dC zs)), .int .u64 (aK (up zs)), .int .u64 (aK (dC zs))]
theorem oP (zs : List Int) : ep (zs.take 0) = #[.int .u64 0, .int .u64 0, .int .u64 0, .int .u64 0] := rfl
theorem sL {l : List Int} {a : Int} (h : All64 (l ++ [a])) (hl : l.length ≤ 9223372036854775807) (c : 0 ≤ a) :
    #[.int .u64 (aF (up l) + (aK (up l) + Lv.abs a) / 18446744073709551616), .int .u64 (aF (dC l)), .int .u64 ((aK (up l) + Lv.abs a) % 18446744073709551616), .int .u64 (aK (dC l))] = ep (l ++ [a]) := by
  have b := ey l (fun x hx => h x (by simp [hx])); have ha := eB (h a (by simp)); rw [Du b.1 (by omega) ha.1 ha.2, Dv]; unfold ep; rw [oD, jy, if_neg (by omega), if_neg (by omega), Int.add_zero]; rw [show Lv.abs a = a by unfold Lv.abs; rw [if_neg (by omega)]]
theorem oQ {l : List Int} {a : Int} (h : All64 (l ++ [a])) (hl : l.length ≤ 9223372036854775807) (c : a < 0) :
    #[.int .u64 (aF (up l)), .int .u64 (aF (dC l) + (aK (dC l) + Lv.abs a) / 18446744073709551616), .int .u64 (aK (up l)), .int .u64 ((aK (dC l) + Lv.abs a) % 18446744073709551616)] = ep (l ++ [a]) := by
  have b := ey l (fun x hx => h x (by simp [hx])); have ha := eB (h a (by simp)); rw [Du b.2.2.1 (by omega) ha.1 ha.2, Dv]; unfold ep; rw [oD, jy, if_pos c, if_pos c, Int.add_zero]; rw [show Lv.abs a = -a by unfold Lv.abs; rw [if_pos c]]
theorem EM (l : List Int) (a : Int) (g : Nat) (w : World) (h : All64 (l ++ [a])) (hl : l.length ≤ 9223372036854775807) (hb : Box w g 194 (ep l)) :
    Calls Tryz.prog 177 #[.pointer (some ⟨g, 0, none⟩), .int .i64 a, .bool false] w fun e w' => e = .returned (.tuple #[]) ∧ Only g w w' ∧ Box w' g 194 (ep (l ++ [a])) := by
  have b := ey l (fun x hx => h x (by simp [hx])); have ha := h a (by simp)
  by_cases c : 0 ≤ a
  · refine (GI _ _ _ _ a g w ha hb (aQ _) (aO _) c (by have := uc b.1 (by omega); omega)).mono ?_
    rintro e w' ⟨he, ho, hb'⟩; rw [sL h hl c] at hb'; exact ⟨he, ho, hb'⟩
  · refine (GJ _ _ _ _ a g w ha hb (aQ _) (aO _) (by omega) (by have := uc b.2.2.1 (by omega); omega)).mono ?_
    rintro e w' ⟨he, ho, hb'⟩; rw [oQ h hl (by omega)] at hb'; exact ⟨he, ho, hb'⟩
theorem qG (A : Option Addr) (cap : Nat) (zs : List Int) (w : World) (hr : Row w A zs) (h64 : All64 zs) (hlen : zs.length ≤ 9223372036854775807) :
    Calls Tryz.prog 155 #[.slice A zs.length cap] w fun e w' => e = .returned (.pointer (some ⟨w.heap.size, 0, none⟩)) ∧ Kept w w' ∧ Box w' w.heap.size 194 (ep zs) := by
  go_enter Tryz.func155, Tryz.ntmps155; go_wp2_with fail
  go_loopw [10] (fun i wr => ∃ k : Nat, k ≤ zs.length ∧ i = .int .i64 k ∧ Kept w wr ∧ Box wr w.heap.size 194 (ep (zs.take k))) (fun i _ => zs.length - (intOf i).toNat)
  case atStart => exact ⟨0, by omega, rfl, kpt, by rw [oP]; exact bxd⟩
  case round =>
    obtain ⟨k, hk, rfl, hkept, hbox⟩ := hrel
    by_cases hlt : k < zs.length
    · obtain ⟨b, off, rfl, hb, hc⟩ := hr k hlt
      have hc' : wr.cell? ⟨b, off + k, none⟩ = some (.int .i64 (zs.getD k 0)) := (hkept.cell (p := ⟨b, off + k, none⟩) hb).trans hc; have ts := qr zs k hlt; have HA : All64 (zs.take k ++ [zs.getD k 0]) := by rw [← ts]; exact h64.take _
      have HL : (zs.take k).length ≤ 9223372036854775807 := by have := List.length_take_le k zs; omega
      have AD := Lib.hid (fun g w hb => EM (zs.take k) (zs.getD k 0) g w HA HL hb); have TS := Lib.hid ts; have H64 := Lib.hid h64; have HR := Lib.hid hr; clear ts HA HL hc h64 hr; generalize zs.getD k 0 = a at *; go_wp2_with fail; refine (AD.out _ _ hbox).mono ?_; rintro e w1 ⟨rfl, ho, hb1⟩; go_wp2_with fail
      go_roundw
      case rel => exact ⟨k + 1, by omega, by go_num, ho.kept hkept (Nat.le_refl _), by rw [TS.out]; exact hb1⟩
      case measure => simp [intOf]; omega
    · obtain rfl : k = zs.length := by omega
      rw [List.take_length] at hbox; go_wp2_with fail; go_ret; exact ⟨rfl, hkept, hbox⟩
theorem zj (zs : List Int) (g : Nat) (w : World) (h64 : All64 zs) (hlen : zs.length ≤ 9223372036854775807) (hb : Box w g 194 (ep zs)) :
    Calls Tryz.prog 156 #[.pointer (some ⟨g, 0, none⟩)] w fun e w' => e = .returned (.tuple #[.int .u64 (aF (Lv.abs (aW zs))), .int .u64 (aK (Lv.abs (aW zs))), .bool (Lv.neg (aW zs))]) ∧ ∃ n, w' = w.drewN n := by
  have b := ey zs h64; have e1 : wd (aF (up zs)) (aK (up zs)) = up zs := cV b.1 (by omega); have e2 : wd (aF (dC zs)) (aK (dC zs)) = dC zs := cV b.2.2.1 (by omega); have H := EL _ _ _ _ g w hb (aQ _) (aQ _) (aO _) (aO _); rw [e1, e2, sA] at H; exact H
theorem ga (zs : List Int) (h64 : All64 zs) (hlen : zs.length ≤ 9223372036854775807) : 0 ≤ Lv.abs (aW zs) ∧ Lv.abs (aW zs) < 170141183460469231731687303715884105728 := by
  have b := ey zs h64; rw [← sA]; exact vS b.1 (by omega) b.2.2.1 (by omega)
theorem wu (zs : List Int) (w : World) (h64 : All64 zs) (hlen : zs.length ≤ 9223372036854775807) :
    Calls Tryz.prog 154 #[.int .u64 (aF (Lv.abs (aW zs))), .int .u64 (aK (Lv.abs (aW zs))), .bool (Lv.neg (aW zs))] w fun e w' => e = .returned (.tuple #[.int .i64 (lZ zs).1, .bool (lZ zs).2]) ∧ w = w' := by
  have b := ga zs h64 hlen; have H := dh (aF (Lv.abs (aW zs))) (aK (Lv.abs (aW zs))) (Lv.neg (aW zs)) w (aQ _) (aO _); have e : aF (Lv.abs (aW zs)) * 18446744073709551616 + aK (Lv.abs (aW zs)) = Lv.abs (aW zs) := cV b.1 (by omega); rw [e, nl] at H; exact H
theorem EN (A : Option Addr) (cap : Nat) (zs : List Int) (w : World) (hr : Row w A zs) (h64 : All64 zs) (hlen : zs.length ≤ 9223372036854775807) :
    Calls Tryz.prog 132 #[.slice A zs.length cap] w fun e w' => e = .returned (.tuple #[.int .i64 (lZ zs).1, .bool (lZ zs).2]) ∧ Kept w w' := by
  have T := Lib.hid (qG A cap zs w hr h64 hlen); have L := Lib.hid (fun g w => zj zs g w h64 hlen); have S := Lib.hid (fun w => wu zs w h64 hlen); clear hr h64; go_enter Tryz.func132, Tryz.ntmps132; go_wp2_with fail; refine T.out.mono ?_; rintro e w1 ⟨rfl, hk, hb⟩; go_wp2_with fail; refine (L.out _ _ hb).mono ?_; rintro e w' ⟨rfl, n, rfl⟩; go_wp2_with fail; refine (S.out _).mono ?_; rintro e w' ⟨rfl, rfl⟩; go_wp2_with fail; go_ret2; exact ⟨rfl, Kept.trans hk (Kept.of_drewN n)⟩
end

section
open Go.RowKit Lv
def OwnI (w : World) (base : Nat) (v : Value) (l : List Int) : Prop := w.ownsRow base 2 1 v l.length (l.map (Value.int .i64))
theorem OwnI.nil (w : World) (base : Nat) : OwnI w base (.slice none 0 0) [] := World.ownsRow_nil w base _ 1
theorem OwnI.kept {w w' : World} {base : Nat} {v : Value} {l : List Int} (h : OwnI w base v l) (k : Kept w w') : OwnI w' base v l := by
  obtain ⟨h1, h2⟩ := h; refine ⟨h1, ?_⟩; rcases h2 with h2 | ⟨g, cap, cur, hv, hg, hh, r⟩
  · exact Or.inl h2
  · have hlt : g < w.heap.size := (Array.getElem?_eq_some_iff.1 hh).1
    exact Or.inr ⟨g, cap, cur, hv, hg, (k.block g hlt).trans hh, r⟩
theorem OwnI.alloc {w : World} {base : Nat} {v : Value} {l : List Int} (h : OwnI w base v l) (o : Obj) : OwnI (w.alloc o) base v l := h.kept ((Kept.refl w).alloc o)
theorem OwnI.drew {w : World} {base : Nat} {v : Value} {l : List Int} (h : OwnI w base v l) : OwnI w.drew base v l := h.kept ((Kept.refl w).drew)
theorem OwnI.grown {a w w' : World} {base : Nat} {v : Value} {l : List Int} (h : OwnI w base v l) (hb : a.heap.size ≤ base) (k : Kept a w) (g : w.grownBy w' v.ownBlock) : Kept a w' :=
  Below.grown k g k.size (fun x hx => Nat.le_trans hb (World.ownsRow.lt h x hx).1)
theorem oS : ∃ i, Tryz.prog.info? 2 = some i ∧ i.zero = some (.int .i64 0) ∧ i.size = 1 ∧ i.bytes = 8 := by
  have h : (Tryz.prog.info? 2).map (fun i => (i.zero, i.size, i.bytes)) = some (some (.int .i64 0), 1, 8) := by kernel_rfl
  cases hi : Tryz.prog.info? 2 with
  | none => rw [hi] at h; cases h
  | some i =>
    rw [hi] at h
    simp at h
    exact ⟨i, rfl, h.1, h.2.1, h.2.2⟩
theorem OwnI.row {w : World} {base : Nat} {v : Value} {l : List Int} (h : OwnI w base v l) : ∃ A cap, v = .slice A l.length cap ∧ Row w A l := by
  rcases h.2 with ⟨rfl, h0⟩ | ⟨g, cap, cur, rfl, _, hh, h4, h5, h6, h7⟩
  · have : l = [] := List.eq_nil_of_length_eq_zero h0
    subst this; exact ⟨none, 0, rfl, fun i hi => by simp at hi⟩
  · have hcells := World.ownsRow.cells h (g := g) rfl
    refine ⟨some ⟨g, 0, none⟩, cap, rfl, fun i hi => ⟨g, 0, rfl, (Array.getElem?_eq_some_iff.1 hh).1, ?_⟩⟩; have hc := hcells i (.int .i64 (l.getD i 0)) (by simp [hi]); rw [Go.WideShapes.add_plain] at hc; exact hc
theorem Row.take {w : World} {A : Option Addr} {l : List Int} (h : Row w A l) (k : Nat) : Row w A (l.take k) := fun i hi => by
  rw [List.length_take] at hi; obtain ⟨b, off, e, hb, hc⟩ := h i (by omega); refine ⟨b, off, e, hb, ?_⟩; rw [hc]
  simp [List.getD, List.getElem?_take, show i < k by omega]
theorem Row.drop {w : World} {b off : Nat} {l : List Int} (h : Row w (some ⟨b, off, none⟩) l) (k : Nat) : Row w (some ⟨b, off + k, none⟩) (l.drop k) := fun i hi => by
  rw [List.length_drop] at hi; obtain ⟨b', off', e, hb, hc⟩ := h (k + i) (by omega)
  cases e
  refine ⟨b, off + k, rfl, hb, ?_⟩; rw [Nat.add_assoc, hc]
  simp [List.getD, List.getElem?_drop]
end

section
end

section
open Go.RowKit Lv
theorem uD (A : Option Addr) (cap : Nat) (zs : List Int) (w : World) (hr : Row w A zs) (h64 : All64 zs) (hlen : zs.length ≤ 9223372036854775807) :
    Calls Tryz.prog 134 #[.slice A zs.length cap] w fun e w' => e = .returned (.tuple #[.int .i64 (bM zs).1, .bool (bM zs).2]) ∧ Kept w w' := by
  have T := Lib.hid (qG A cap zs w hr h64 hlen); have L := Lib.hid (fun g w => zj zs g w h64 hlen); have b := ga zs h64 hlen; have N := fun w => mp (aF (Lv.abs (aW zs))) (aK (Lv.abs (aW zs))) zs.length w (aQ _) (aO _) ⟨by omega, by omega⟩; have e : aF (Lv.abs (aW zs)) * 18446744073709551616 + aK (Lv.abs (aW zs)) = Lv.abs (aW zs) := cV b.1 (by omega); rw [e] at N; have b1 := b.1; clear e b
  by_cases c : (zs.length : Int) ≠ 0 ∧ Lv.abs (aW zs) / zs.length ≤ 9223372036854775807
  · have E : Ba (Lv.abs (aW zs)) zs.length = (rnd (Lv.abs (aW zs)) zs.length, true) := if_pos c
    rw [E] at N; have q0 : 0 ≤ Lv.abs (aW zs) / zs.length := Int.ediv_nonneg b1 (by omega); have rb := fD (Lv.abs (aW zs)) zs.length; have S := fun w => dh 0 (rnd (Lv.abs (aW zs)) zs.length) (Lv.neg (aW zs)) w ⟨by omega, by omega⟩ ⟨by omega, by omega⟩
    have D : bM zs = fit (sg (Lv.neg (aW zs)) (0 * 18446744073709551616 + rnd (Lv.abs (aW zs)) zs.length)) := by
      unfold bM; rw [if_neg (by intro h; subst h; simp at c), Int.zero_mul, Int.zero_add]
    rw [← D] at S; have HS := Lib.hid S; have HN := Lib.hid N; clear S N D q0 rb c E hr h64 b1; generalize rnd (Lv.abs (aW zs)) zs.length = q at *; generalize bM zs = r at *; generalize aF (Lv.abs (aW zs)) = x1 at *; generalize aK (Lv.abs (aW zs)) = x0 at *; generalize Lv.neg (aW zs) = ng at *; go_enter Tryz.func134, Tryz.ntmps134; go_wp2_with fail; refine T.out.mono ?_; rintro e w1 ⟨rfl, hk, hb⟩; go_wp2_with fail; refine (L.out _ _ hb).mono ?_; rintro e w' ⟨rfl, n, rfl⟩; go_wp2_with fail; refine (HN.out _).mono ?_; rintro e w' ⟨rfl, n2, rfl⟩; go_wp2_with fail; refine (HS.out _).mono ?_; rintro e w' ⟨rfl, rfl⟩; go_wp2_with fail; go_ret2; exact ⟨rfl, kpt⟩
  · have E : Ba (Lv.abs (aW zs)) zs.length = (0, false) := if_neg c
    rw [E] at N
    have D : bM zs = (0, false) := by
      unfold bM
      by_cases h : zs = []
      · rw [if_pos h]
      · rw [if_neg h]
        have hl : 0 < zs.length := List.length_pos_iff.2 h; have rb := fD (Lv.abs (aW zs)) zs.length; refine dB ?_
        cases Lv.neg (aW zs) <;> simp only [sg] <;> simp <;> omega
    rw [D]; have HN := Lib.hid N; clear N D c E hr h64 b1; generalize aF (Lv.abs (aW zs)) = x1 at *; generalize aK (Lv.abs (aW zs)) = x0 at *; generalize Lv.neg (aW zs) = ng at *; go_enter Tryz.func134, Tryz.ntmps134; go_wp2_with fail; refine T.out.mono ?_; rintro e w1 ⟨rfl, hk, hb⟩; go_wp2_with fail; refine (L.out _ _ hb).mono ?_; rintro e w' ⟨rfl, n, rfl⟩; go_wp2_with fail; refine (HN.out _).mono ?_; rintro e w' ⟨rfl, n2, rfl⟩; go_wp2_with fail; go_ret2; exact ⟨rfl, kpt⟩
end

namespace Lv
open Go
abbrev F6 (l : List Int) : Prop := l.Pairwise (· ≤ ·)
theorem gL (l : List Int) : (ar l).Perm l := List.mergeSort_perm l _
theorem sM (l : List Int) : F6 (ar l) := by
  have := List.pairwise_mergeSort (le := fun a b : Int => decide (a ≤ b)) (fun a b c h1 h2 => by simp only [decide_eq_true_eq] at *; omega) (fun a b => by simp only [Bool.or_eq_true, decide_eq_true_eq]; omega) l; exact this.imp (fun h => by simpa using h)
theorem zk {l m : List Int} (p : l.Perm m) (h : F6 l) (g : F6 m) : l = m := p.eq_of_pairwise (le := (· ≤ ·)) (fun a b _ _ h1 h2 => Int.le_antisymm h1 h2) h g
theorem sN {l m : List Int} (p : l.Perm m) (g : F6 m) : ar l = m := zk ((gL l).trans p) (sM l) g
theorem aq (l : List Int) : (ar l).length = l.length := (gL l).length_eq
theorem B7 : ar [] = [] := by unfold ar; simp
theorem sO {l : List Int} {x : Int} {k : Nat} (h1 : ∀ y ∈ (ar l).take k, y ≤ x) (h2 : ∀ y ∈ (ar l).drop k, x ≤ y) : (ar l).take k ++ x :: (ar l).drop k = ar (l ++ [x]) := by
  refine (sN ?_ ?_).symm
  · have p1 : (l ++ [x]).Perm (x :: l) := by
      have := List.perm_append_comm (l₁ := l) (l₂ := [x]); exact this
    have p2 : (x :: l).Perm (x :: ar l) := (gL l).symm.cons x
    have p3 : (x :: ar l).Perm ((ar l).take k ++ x :: (ar l).drop k) := by
      have e : x :: ar l = x :: ((ar l).take k ++ (ar l).drop k) := by rw [List.take_append_drop]
      rw [e]; exact List.perm_middle.symm
    exact p1.trans (p2.trans p3)
  · have s := sM l
    have e : ar l = (ar l).take k ++ (ar l).drop k := (List.take_append_drop _ _).symm; rw [e] at s; obtain ⟨s1, s2, s3⟩ := List.pairwise_append.1 s; refine List.pairwise_append.2 ⟨by simpa using s1, List.pairwise_cons.2 ⟨h2, by simpa using s2⟩, fun a ha b hb => ?_⟩; rcases List.mem_cons.1 hb with rfl | hb
    · exact h1 a ha
    · exact s3 a (by simpa using ha) b (by simpa using hb)
/-! the least and the greatest -/
def gM (l : List Int) : Int := l.tail.foldl min (l.headD 0)
def gO (l : List Int) : Int := l.tail.foldl max (l.headD 0)
theorem kQ : ∀ (l : List Int) (a : Int), l.foldl min a ≤ a ∧ (∀ b ∈ l, l.foldl min a ≤ b) ∧ (l.foldl min a = a ∨ l.foldl min a ∈ l)
  | [], a => ⟨Int.le_refl _, fun _ h => (by cases h), Or.inl rfl⟩
  | b :: l, a => by
    obtain ⟨h1, h2, h3⟩ := kQ l (min a b); rw [List.foldl_cons]; refine ⟨Int.le_trans h1 (Int.min_le_left _ _), fun c hc => ?_, ?_⟩
    · rcases List.mem_cons.1 hc with rfl | hc
      · exact Int.le_trans h1 (Int.min_le_right _ _)
      · exact h2 c hc
    · rcases h3 with h3 | h3
      · rw [h3]
        rcases (show min a b = a ∨ min a b = b by omega) with e | e
        · exact Or.inl e
        · exact Or.inr (by rw [e]; exact List.mem_cons_self)
      · exact Or.inr (List.mem_cons_of_mem _ h3)
theorem kR : ∀ (l : List Int) (a : Int), a ≤ l.foldl max a ∧ (∀ b ∈ l, b ≤ l.foldl max a) ∧ (l.foldl max a = a ∨ l.foldl max a ∈ l)
  | [], a => ⟨Int.le_refl _, fun _ h => (by cases h), Or.inl rfl⟩
  | b :: l, a => by
    obtain ⟨h1, h2, h3⟩ := kR l (max a b); rw [List.foldl_cons]; refine ⟨Int.le_trans (Int.le_max_left _ _) h1, fun c hc => ?_, ?_⟩
    · rcases List.mem_cons.1 hc with rfl | hc
      · exact Int.le_trans (Int.le_max_right _ _) h1
      · exact h2 c hc
    · rcases h3 with h3 | h3
      · rw [h3]
        rcases (show max a b = a ∨ max a b = b by omega) with e | e
        · exact Or.inl e
        · exact Or.inr (by rw [e]; exact List.mem_cons_self)
      · exact Or.inr (List.mem_cons_of_mem _ h3)
theorem wA {l : List Int} (h : l ≠ []) : gM l ∈ l ∧ ∀ b ∈ l, gM l ≤ b := by
  cases l with
  | nil => exact absurd rfl h
  | cons a l =>
    obtain ⟨h1, h2, h3⟩ := kQ l a; show l.foldl min a ∈ a :: l ∧ ∀ b ∈ a :: l, l.foldl min a ≤ b; refine ⟨?_, fun b hb => ?_⟩
    · rcases h3 with h3 | h3
      · rw [h3]; exact List.mem_cons_self
      · exact List.mem_cons_of_mem _ h3
    · rcases List.mem_cons.1 hb with rfl | hb
      · exact h1
      · exact h2 b hb
theorem wB {l : List Int} (h : l ≠ []) : gO l ∈ l ∧ ∀ b ∈ l, b ≤ gO l := by
  cases l with
  | nil => exact absurd rfl h
  | cons a l =>
    obtain ⟨h1, h2, h3⟩ := kR l a; show l.foldl max a ∈ a :: l ∧ ∀ b ∈ a :: l, b ≤ l.foldl max a; refine ⟨?_, fun b hb => ?_⟩
    · rcases h3 with h3 | h3
      · rw [h3]; exact List.mem_cons_self
      · exact List.mem_cons_of_mem _ h3
    · rcases List.mem_cons.1 hb with rfl | hb
      · exact h1
      · exact h2 b hb
theorem qH (l : List Int) (k : Nat) (h : k < l.length) : l.reverse.getD k 0 = l.getD (l.length - 1 - k) 0 := by
  have h2 : l.length - 1 - k < l.length := by omega
  simp [List.getD, List.getElem?_reverse h]
end Lv
