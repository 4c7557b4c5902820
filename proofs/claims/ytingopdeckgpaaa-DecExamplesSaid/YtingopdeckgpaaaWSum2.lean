/- Sums of layer 1: the exact sum's size and sign. -/
import Derived.Test.YtingopdeckgpaaaWSum1
namespace Go.Proofs.Ytingopdeckgpaaa
set_option linter.unusedVariables false
set_option linter.unusedSimpArgs false
open Go.RowKit Lv

theorem run_sub_is (x y b d k : Int) (h : u64 x) (h' : u64 y) (b0 : 0 ≤ b) (b1 : b ≤ 1) (hd : u64 d) (k0 : 0 ≤ k) (k1 : k ≤ 1) (he : d = x - y - b + k * 18446744073709551616) (w : World) :
    (callFunc 68 #[.int .u64 x, .int .u64 y, .int .u64 b]).run Try.prog w = .ok (.value (.tuple #[.int .u64 d, .int .u64 k])) w := by
  rw [run_sub x y b h h' b0 b1]
  obtain ⟨h1, h2⟩ := h; obtain ⟨h3, h4⟩ := h'; obtain ⟨h5, h6⟩ := hd
  have e1 : (x - y - b) % 18446744073709551616 = d := by omega
  have e2 : (if x < y + b then (1 : Int) else 0) = k := by split <;> omega
  rw [e1, e2]

theorem ret_iib' {a b c d : Int} {x y : Bool} (h : a = b) (g : c = d) (i : x = y) : Ending.returned (.tuple #[.int .u64 a, .int .u64 c, .bool x]) = .returned (.tuple #[.int .u64 b, .int .u64 d, .bool y]) := by rw [h, g, i]

set_option maxHeartbeats 1000000 in
theorem all_A (h0 h1 l0 l1 : Int) (g : Nat) (w : World) (hb : Box w g 76 #[.int .u64 h0, .int .u64 h1, .int .u64 l0, .int .u64 l1]) (u0 : u64 h0) (u1 : u64 h1) (v0 : u64 l0) (v1 : u64 l1) (c1 : l1 ≤ l0) (c2 : h1 ≤ h0) :
    Calls Try.prog 50 #[.pointer (some ⟨g, 0, none⟩)] w fun e w' => e = .returned (.tuple #[.int .u64 (hi64 (Lv.abs (wd h0 l0 - wd h1 l1))), .int .u64 (lo64 (Lv.abs (wd h0 l0 - wd h1 l1))), .bool (Lv.neg (wd h0 l0 - wd h1 l1))]) ∧ ∃ n, w' = w.drewN n := by
  have b0 : w.cell? ⟨g, 0, none⟩ = some (.int .u64 h0) := hb.cell 0
  have b1 : w.cell? ⟨g, 1, none⟩ = some (.int .u64 h1) := hb.cell 1
  have b2 : w.cell? ⟨g, 2, none⟩ = some (.int .u64 l0) := hb.cell 2
  have b3 : w.cell? ⟨g, 3, none⟩ = some (.int .u64 l1) := hb.cell 3
  clear hb
  have U0 := u0; have U1 := u1; have V0 := v0; have V1 := v1
  obtain ⟨U0, U0'⟩ := U0; obtain ⟨U1, U1'⟩ := U1; obtain ⟨V0, V0'⟩ := V0; obtain ⟨V1, V1'⟩ := V1
  obtain ⟨lo, hlo⟩ : ∃ lo, lo = l0 - l1 := ⟨_, rfl⟩
  obtain ⟨hi, hhi⟩ : ∃ hi, hi = h0 - h1 := ⟨_, rfl⟩
  have s1 := run_sub_is l0 l1 0 lo 0 v0 v1 (by omega) (by omega) ⟨by omega, by omega⟩ (by omega) (by omega) (by omega)
  have s2 := run_sub_is h0 h1 0 hi 0 u0 u1 (by omega) (by omega) ⟨by omega, by omega⟩ (by omega) (by omega) (by omega)
  have e : 0 ≤ wd h0 l0 - wd h1 l1 := by unfold wd; omega
  have E1 : hi = hi64 (Lv.abs (wd h0 l0 - wd h1 l1)) := by unfold Lv.abs hi64 wd at *; rw [if_neg (by omega)]; omega
  have E2 : lo = lo64 (Lv.abs (wd h0 l0 - wd h1 l1)) := by unfold Lv.abs lo64 wd at *; rw [if_neg (by omega)]; omega
  have E3 : false = Lv.neg (wd h0 l0 - wd h1 l1) := (decide_eq_false (by omega)).symm
  have HE1 := Lib.hid E1; have HE2 := Lib.hid E2; have HE3 := Lib.hid E3
  clear c1 c2 E1 E2 E3 e u0 u1 v0 v1 hlo hhi
  go_enter Try.func50, Try.ntmps50
  go_wp2_with fail
  go_quiet (fail)
  go_wp2_with fail
  go_quiet (fail)
  go_wp2_with fail
  go_ret3
  exact ⟨ret_iib' HE1.out HE2.out HE3.out, _, rfl⟩

set_option maxHeartbeats 1000000 in
theorem all_B0 (h0 h1 l0 l1 : Int) (g : Nat) (w : World) (hb : Box w g 76 #[.int .u64 h0, .int .u64 h1, .int .u64 l0, .int .u64 l1]) (u0 : u64 h0) (u1 : u64 h1) (v0 : u64 l0) (v1 : u64 l1) (c1 : l1 = l0) (c2 : h0 < h1) :
    Calls Try.prog 50 #[.pointer (some ⟨g, 0, none⟩)] w fun e w' => e = .returned (.tuple #[.int .u64 (hi64 (Lv.abs (wd h0 l0 - wd h1 l1))), .int .u64 (lo64 (Lv.abs (wd h0 l0 - wd h1 l1))), .bool (Lv.neg (wd h0 l0 - wd h1 l1))]) ∧ ∃ n, w' = w.drewN n := by
  have b0 : w.cell? ⟨g, 0, none⟩ = some (.int .u64 h0) := hb.cell 0
  have b1 : w.cell? ⟨g, 1, none⟩ = some (.int .u64 h1) := hb.cell 1
  have b2 : w.cell? ⟨g, 2, none⟩ = some (.int .u64 l0) := hb.cell 2
  have b3 : w.cell? ⟨g, 3, none⟩ = some (.int .u64 l1) := hb.cell 3
  clear hb
  have U0 := u0; have U1 := u1; have V0 := v0; have V1 := v1
  obtain ⟨U0, U0'⟩ := U0; obtain ⟨U1, U1'⟩ := U1; obtain ⟨V0, V0'⟩ := V0; obtain ⟨V1, V1'⟩ := V1
  obtain ⟨lo, hlo⟩ : ∃ lo, lo = l0 - l1 := ⟨_, rfl⟩
  obtain ⟨hi, hhi⟩ : ∃ hi, hi = h0 - h1 + 18446744073709551616 := ⟨_, rfl⟩
  have s1 := run_sub_is l0 l1 0 lo 0 v0 v1 (by omega) (by omega) ⟨by omega, by omega⟩ (by omega) (by omega) (by omega)
  have s2 := run_sub_is h0 h1 0 hi 1 u0 u1 (by omega) (by omega) ⟨by omega, by omega⟩ (by omega) (by omega) (by omega)
  obtain ⟨lo2, hlo2⟩ : ∃ lo2, lo2 = 0 := ⟨_, rfl⟩
  obtain ⟨hi2, hhi2⟩ : ∃ hi2, hi2 = h1 - h0 := ⟨_, rfl⟩
  have s3 := run_sub_is 0 lo 0 lo2 0 ⟨by omega, by omega⟩ ⟨by omega, by omega⟩ (by omega) (by omega) ⟨by omega, by omega⟩ (by omega) (by omega) (by omega)
  have s4 := run_sub_is 0 hi 0 hi2 1 ⟨by omega, by omega⟩ ⟨by omega, by omega⟩ (by omega) (by omega) ⟨by omega, by omega⟩ (by omega) (by omega) (by omega)
  have e : wd h0 l0 - wd h1 l1 < 0 := by unfold wd; omega
  have E1 : hi2 = hi64 (Lv.abs (wd h0 l0 - wd h1 l1)) := by unfold Lv.abs hi64 wd at *; rw [if_pos (by omega)]; omega
  have E2 : lo2 = lo64 (Lv.abs (wd h0 l0 - wd h1 l1)) := by unfold Lv.abs lo64 wd at *; rw [if_pos (by omega)]; omega
  have E3 : true = Lv.neg (wd h0 l0 - wd h1 l1) := (decide_eq_true (by omega)).symm
  have HE1 := Lib.hid E1; have HE2 := Lib.hid E2; have HE3 := Lib.hid E3
  clear c1 c2 E1 E2 E3 e u0 u1 v0 v1 hlo hhi hlo2 hhi2
  go_enter Try.func50, Try.ntmps50
  go_wp2_with fail
  go_quiet (fail)
  go_wp2_with fail
  go_quiet (fail)
  go_wp2_with fail
  go_ret3
  exact ⟨ret_iib' HE1.out HE2.out HE3.out, _, rfl⟩

set_option maxHeartbeats 1000000 in
theorem all_B1 (h0 h1 l0 l1 : Int) (g : Nat) (w : World) (hb : Box w g 76 #[.int .u64 h0, .int .u64 h1, .int .u64 l0, .int .u64 l1]) (u0 : u64 h0) (u1 : u64 h1) (v0 : u64 l0) (v1 : u64 l1) (c1 : l1 < l0) (c2 : h0 < h1) :
    Calls Try.prog 50 #[.pointer (some ⟨g, 0, none⟩)] w fun e w' => e = .returned (.tuple #[.int .u64 (hi64 (Lv.abs (wd h0 l0 - wd h1 l1))), .int .u64 (lo64 (Lv.abs (wd h0 l0 - wd h1 l1))), .bool (Lv.neg (wd h0 l0 - wd h1 l1))]) ∧ ∃ n, w' = w.drewN n := by
  have b0 : w.cell? ⟨g, 0, none⟩ = some (.int .u64 h0) := hb.cell 0
  have b1 : w.cell? ⟨g, 1, none⟩ = some (.int .u64 h1) := hb.cell 1
  have b2 : w.cell? ⟨g, 2, none⟩ = some (.int .u64 l0) := hb.cell 2
  have b3 : w.cell? ⟨g, 3, none⟩ = some (.int .u64 l1) := hb.cell 3
  clear hb
  have U0 := u0; have U1 := u1; have V0 := v0; have V1 := v1
  obtain ⟨U0, U0'⟩ := U0; obtain ⟨U1, U1'⟩ := U1; obtain ⟨V0, V0'⟩ := V0; obtain ⟨V1, V1'⟩ := V1
  obtain ⟨lo, hlo⟩ : ∃ lo, lo = l0 - l1 := ⟨_, rfl⟩
  obtain ⟨hi, hhi⟩ : ∃ hi, hi = h0 - h1 + 18446744073709551616 := ⟨_, rfl⟩
  have s1 := run_sub_is l0 l1 0 lo 0 v0 v1 (by omega) (by omega) ⟨by omega, by omega⟩ (by omega) (by omega) (by omega)
  have s2 := run_sub_is h0 h1 0 hi 1 u0 u1 (by omega) (by omega) ⟨by omega, by omega⟩ (by omega) (by omega) (by omega)
  obtain ⟨lo2, hlo2⟩ : ∃ lo2, lo2 = l1 - l0 + 18446744073709551616 := ⟨_, rfl⟩
  obtain ⟨hi2, hhi2⟩ : ∃ hi2, hi2 = h1 - h0 - 1 := ⟨_, rfl⟩
  have s3 := run_sub_is 0 lo 0 lo2 1 ⟨by omega, by omega⟩ ⟨by omega, by omega⟩ (by omega) (by omega) ⟨by omega, by omega⟩ (by omega) (by omega) (by omega)
  have s4 := run_sub_is 0 hi 1 hi2 1 ⟨by omega, by omega⟩ ⟨by omega, by omega⟩ (by omega) (by omega) ⟨by omega, by omega⟩ (by omega) (by omega) (by omega)
  have e : wd h0 l0 - wd h1 l1 < 0 := by unfold wd; omega
  have E1 : hi2 = hi64 (Lv.abs (wd h0 l0 - wd h1 l1)) := by unfold Lv.abs hi64 wd at *; rw [if_pos (by omega)]; omega
  have E2 : lo2 = lo64 (Lv.abs (wd h0 l0 - wd h1 l1)) := by unfold Lv.abs lo64 wd at *; rw [if_pos (by omega)]; omega
  have E3 : true = Lv.neg (wd h0 l0 - wd h1 l1) := (decide_eq_true (by omega)).symm
  have HE1 := Lib.hid E1; have HE2 := Lib.hid E2; have HE3 := Lib.hid E3
  clear c1 c2 E1 E2 E3 e u0 u1 v0 v1 hlo hhi hlo2 hhi2
  go_enter Try.func50, Try.ntmps50
  go_wp2_with fail
  go_quiet (fail)
  go_wp2_with fail
  go_quiet (fail)
  go_wp2_with fail
  go_ret3
  exact ⟨ret_iib' HE1.out HE2.out HE3.out, _, rfl⟩

set_option maxHeartbeats 1000000 in
theorem all_C (h0 h1 l0 l1 : Int) (g : Nat) (w : World) (hb : Box w g 76 #[.int .u64 h0, .int .u64 h1, .int .u64 l0, .int .u64 l1]) (u0 : u64 h0) (u1 : u64 h1) (v0 : u64 l0) (v1 : u64 l1) (c1 : l0 < l1) (c2 : h1 < h0) :
    Calls Try.prog 50 #[.pointer (some ⟨g, 0, none⟩)] w fun e w' => e = .returned (.tuple #[.int .u64 (hi64 (Lv.abs (wd h0 l0 - wd h1 l1))), .int .u64 (lo64 (Lv.abs (wd h0 l0 - wd h1 l1))), .bool (Lv.neg (wd h0 l0 - wd h1 l1))]) ∧ ∃ n, w' = w.drewN n := by
  have b0 : w.cell? ⟨g, 0, none⟩ = some (.int .u64 h0) := hb.cell 0
  have b1 : w.cell? ⟨g, 1, none⟩ = some (.int .u64 h1) := hb.cell 1
  have b2 : w.cell? ⟨g, 2, none⟩ = some (.int .u64 l0) := hb.cell 2
  have b3 : w.cell? ⟨g, 3, none⟩ = some (.int .u64 l1) := hb.cell 3
  clear hb
  have U0 := u0; have U1 := u1; have V0 := v0; have V1 := v1
  obtain ⟨U0, U0'⟩ := U0; obtain ⟨U1, U1'⟩ := U1; obtain ⟨V0, V0'⟩ := V0; obtain ⟨V1, V1'⟩ := V1
  obtain ⟨lo, hlo⟩ : ∃ lo, lo = l0 - l1 + 18446744073709551616 := ⟨_, rfl⟩
  obtain ⟨hi, hhi⟩ : ∃ hi, hi = h0 - h1 - 1 := ⟨_, rfl⟩
  have s1 := run_sub_is l0 l1 0 lo 1 v0 v1 (by omega) (by omega) ⟨by omega, by omega⟩ (by omega) (by omega) (by omega)
  have s2 := run_sub_is h0 h1 1 hi 0 u0 u1 (by omega) (by omega) ⟨by omega, by omega⟩ (by omega) (by omega) (by omega)
  have e : 0 ≤ wd h0 l0 - wd h1 l1 := by unfold wd; omega
  have E1 : hi = hi64 (Lv.abs (wd h0 l0 - wd h1 l1)) := by unfold Lv.abs hi64 wd at *; rw [if_neg (by omega)]; omega
  have E2 : lo = lo64 (Lv.abs (wd h0 l0 - wd h1 l1)) := by unfold Lv.abs lo64 wd at *; rw [if_neg (by omega)]; omega
  have E3 : false = Lv.neg (wd h0 l0 - wd h1 l1) := (decide_eq_false (by omega)).symm
  have HE1 := Lib.hid E1; have HE2 := Lib.hid E2; have HE3 := Lib.hid E3
  clear c1 c2 E1 E2 E3 e u0 u1 v0 v1 hlo hhi
  go_enter Try.func50, Try.ntmps50
  go_wp2_with fail
  go_quiet (fail)
  go_wp2_with fail
  go_quiet (fail)
  go_wp2_with fail
  go_ret3
  exact ⟨ret_iib' HE1.out HE2.out HE3.out, _, rfl⟩

set_option maxHeartbeats 1000000 in
theorem all_D (h0 h1 l0 l1 : Int) (g : Nat) (w : World) (hb : Box w g 76 #[.int .u64 h0, .int .u64 h1, .int .u64 l0, .int .u64 l1]) (u0 : u64 h0) (u1 : u64 h1) (v0 : u64 l0) (v1 : u64 l1) (c1 : l0 < l1) (c2 : h0 ≤ h1) :
    Calls Try.prog 50 #[.pointer (some ⟨g, 0, none⟩)] w fun e w' => e = .returned (.tuple #[.int .u64 (hi64 (Lv.abs (wd h0 l0 - wd h1 l1))), .int .u64 (lo64 (Lv.abs (wd h0 l0 - wd h1 l1))), .bool (Lv.neg (wd h0 l0 - wd h1 l1))]) ∧ ∃ n, w' = w.drewN n := by
  have b0 : w.cell? ⟨g, 0, none⟩ = some (.int .u64 h0) := hb.cell 0
  have b1 : w.cell? ⟨g, 1, none⟩ = some (.int .u64 h1) := hb.cell 1
  have b2 : w.cell? ⟨g, 2, none⟩ = some (.int .u64 l0) := hb.cell 2
  have b3 : w.cell? ⟨g, 3, none⟩ = some (.int .u64 l1) := hb.cell 3
  clear hb
  have U0 := u0; have U1 := u1; have V0 := v0; have V1 := v1
  obtain ⟨U0, U0'⟩ := U0; obtain ⟨U1, U1'⟩ := U1; obtain ⟨V0, V0'⟩ := V0; obtain ⟨V1, V1'⟩ := V1
  obtain ⟨lo, hlo⟩ : ∃ lo, lo = l0 - l1 + 18446744073709551616 := ⟨_, rfl⟩
  obtain ⟨hi, hhi⟩ : ∃ hi, hi = h0 - h1 - 1 + 18446744073709551616 := ⟨_, rfl⟩
  have s1 := run_sub_is l0 l1 0 lo 1 v0 v1 (by omega) (by omega) ⟨by omega, by omega⟩ (by omega) (by omega) (by omega)
  have s2 := run_sub_is h0 h1 1 hi 1 u0 u1 (by omega) (by omega) ⟨by omega, by omega⟩ (by omega) (by omega) (by omega)
  obtain ⟨lo2, hlo2⟩ : ∃ lo2, lo2 = l1 - l0 := ⟨_, rfl⟩
  obtain ⟨hi2, hhi2⟩ : ∃ hi2, hi2 = h1 - h0 := ⟨_, rfl⟩
  have s3 := run_sub_is 0 lo 0 lo2 1 ⟨by omega, by omega⟩ ⟨by omega, by omega⟩ (by omega) (by omega) ⟨by omega, by omega⟩ (by omega) (by omega) (by omega)
  have s4 := run_sub_is 0 hi 1 hi2 1 ⟨by omega, by omega⟩ ⟨by omega, by omega⟩ (by omega) (by omega) ⟨by omega, by omega⟩ (by omega) (by omega) (by omega)
  have e : wd h0 l0 - wd h1 l1 < 0 := by unfold wd; omega
  have E1 : hi2 = hi64 (Lv.abs (wd h0 l0 - wd h1 l1)) := by unfold Lv.abs hi64 wd at *; rw [if_pos (by omega)]; omega
  have E2 : lo2 = lo64 (Lv.abs (wd h0 l0 - wd h1 l1)) := by unfold Lv.abs lo64 wd at *; rw [if_pos (by omega)]; omega
  have E3 : true = Lv.neg (wd h0 l0 - wd h1 l1) := (decide_eq_true (by omega)).symm
  have HE1 := Lib.hid E1; have HE2 := Lib.hid E2; have HE3 := Lib.hid E3
  clear c1 c2 E1 E2 E3 e u0 u1 v0 v1 hlo hhi hlo2 hhi2
  go_enter Try.func50, Try.ntmps50
  go_wp2_with fail
  go_quiet (fail)
  go_wp2_with fail
  go_quiet (fail)
  go_wp2_with fail
  go_ret3
  exact ⟨ret_iib' HE1.out HE2.out HE3.out, _, rfl⟩

theorem all_any (h0 h1 l0 l1 : Int) (g : Nat) (w : World) (hb : Box w g 76 #[.int .u64 h0, .int .u64 h1, .int .u64 l0, .int .u64 l1]) (u0 : u64 h0) (u1 : u64 h1) (v0 : u64 l0) (v1 : u64 l1) :
    Calls Try.prog 50 #[.pointer (some ⟨g, 0, none⟩)] w fun e w' => e = .returned (.tuple #[.int .u64 (hi64 (Lv.abs (wd h0 l0 - wd h1 l1))), .int .u64 (lo64 (Lv.abs (wd h0 l0 - wd h1 l1))), .bool (Lv.neg (wd h0 l0 - wd h1 l1))]) ∧ ∃ n, w' = w.drewN n := by
  by_cases c1 : l0 < l1
  · by_cases c2 : h1 < h0
    · exact all_C h0 h1 l0 l1 g w hb u0 u1 v0 v1 c1 c2
    · exact all_D h0 h1 l0 l1 g w hb u0 u1 v0 v1 c1 (by omega)
  · by_cases c2 : h1 ≤ h0
    · exact all_A h0 h1 l0 l1 g w hb u0 u1 v0 v1 (by omega) c2
    · by_cases c3 : l1 = l0
      · exact all_B0 h0 h1 l0 l1 g w hb u0 u1 v0 v1 c3 (by omega)
      · exact all_B1 h0 h1 l0 l1 g w hb u0 u1 v0 v1 (by omega) (by omega)
end Go.Proofs.Ytingopdeckgpaaa
