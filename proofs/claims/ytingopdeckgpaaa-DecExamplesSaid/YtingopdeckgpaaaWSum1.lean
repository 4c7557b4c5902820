/- Sums of layer 1: carries, and the struct sum. -/
import Derived.Test.YtingopdeckgpaaaWRef2
import Derived.Laws.Externs
import Derived.Deep.QuietTactic
import Derived.BigQuiet
namespace Go.Proofs.Ytingopdeckgpaaa
set_option linter.unusedVariables false
set_option linter.unusedSimpArgs false
open Go.RowKit Lv

def addEntry : Array Value → Sem Value := fun args => do
  let (x, y, c) ← Extern.MathBitsCarry.three "Add64" args
  pure (Extern.MathBitsCarry.pair ((x + y + c) % Extern.MathBitsCarry.m64) ((x + y + c) / Extern.MathBitsCarry.m64))
def subEntry : Array Value → Sem Value := fun args => do
  let (x, y, b) ← Extern.MathBitsCarry.three "Sub64" args
  pure (Extern.MathBitsCarry.pair ((x + Extern.MathBitsCarry.m64 - y - b) % Extern.MathBitsCarry.m64) (if x < y + b then 1 else 0))
theorem run_sub_nat (x y b : Nat) (hb : b ≤ 1) (w : World) :
    (subEntry #[.int .u64 x, .int .u64 y, .int .u64 b]).run Try.prog w =
      .ok (.tuple #[.int .u64 (((x + 18446744073709551616 - y - b) % 18446744073709551616 : Nat) : Int), .int .u64 ((if x < y + b then 1 else 0 : Nat) : Int)]) w := by
  have : b = 0 ∨ b = 1 := by omega
  rcases this with rfl | rfl <;> rfl
theorem run_add (x y c : Int) (h : u64 x) (h' : u64 y) (c0 : 0 ≤ c) (c1 : c ≤ 1) (w : World) :
    (callFunc 67 #[.int .u64 x, .int .u64 y, .int .u64 c]).run Try.prog w = .ok (.value (.tuple #[.int .u64 ((x + y + c) % 18446744073709551616), .int .u64 ((x + y + c) / 18446744073709551616)])) w := by
  rw [run_callFunc_extern Try.func67 (by kernel_rfl) (by kernel_rfl) (by kernel_rfl) (e := add64Entry) (by kernel_rfl), run_add64 x y c h.1 h'.1 c0 c1]
  rfl
theorem run_sub (x y b : Int) (h : u64 x) (h' : u64 y) (b0 : 0 ≤ b) (b1 : b ≤ 1) (w : World) :
    (callFunc 68 #[.int .u64 x, .int .u64 y, .int .u64 b]).run Try.prog w = .ok (.value (.tuple #[.int .u64 ((x - y - b) % 18446744073709551616), .int .u64 (if x < y + b then 1 else 0)])) w := by
  obtain ⟨x, rfl⟩ := Int.eq_ofNat_of_zero_le h.1
  obtain ⟨y, rfl⟩ := Int.eq_ofNat_of_zero_le h'.1
  obtain ⟨b, rfl⟩ := Int.eq_ofNat_of_zero_le b0
  rw [run_callFunc_extern Try.func68 (by kernel_rfl) (by kernel_rfl) (by kernel_rfl) (e := subEntry) (by kernel_rfl), run_sub_nat x y b (by omega)]
  have h2 := h'.2
  have e1 : (((x + 18446744073709551616 - y - b) % 18446744073709551616 : Nat) : Int) = ((x : Int) - y - b) % 18446744073709551616 := by omega
  have e2 : ((if x < y + b then 1 else 0 : Nat) : Int) = if (x : Int) < y + b then 1 else 0 := by
    by_cases c : x < y + b
    · rw [if_pos c, if_pos (by omega)]; rfl
    · rw [if_neg c, if_neg (by omega)]; rfl
  rw [e1, e2]
  rfl
/-- what add leaves: one side has grown by the number's size -/
def SumCells (h0 h1 l0 l1 : Int) : Array Value := #[.int .u64 h0, .int .u64 h1, .int .u64 l0, .int .u64 l1]

set_option maxHeartbeats 400000 in
theorem add_ff (h0 h1 l0 l1 a : Int) (g : Nat) (w : World) (ha : i64 a) (hb : Box w g 76 #[.int .u64 h0, .int .u64 h1, .int .u64 l0, .int .u64 l1]) (uh : u64 h0) (ul : u64 l0) (c : 0 ≤ a) (hc : h0 < 18446744073709551615) :
    Calls Try.prog 48 #[.pointer (some ⟨g, 0, none⟩), .int .i64 a, .bool false] w fun e w' => e = .returned (.tuple #[]) ∧ Only g w w' ∧
      Box w' g 76 #[.int .u64 (h0 + (l0 + Lv.abs a) / 18446744073709551616), .int .u64 h1, .int .u64 ((l0 + Lv.abs a) % 18446744073709551616), .int .u64 l1] := by
  have hA := run_add l0 (Lv.abs a) 0 ul (abs_u64 ha) (by omega) (by omega)
  rw [show l0 + Lv.abs a + 0 = l0 + Lv.abs a by omega] at hA
  have hs := fun w => size_any a w ha
  have b0 : w.cell? ⟨g, 0, none⟩ = some (.int .u64 h0) := hb.cell 0
  have b1 : w.cell? ⟨g, 1, none⟩ = some (.int .u64 h1) := hb.cell 1
  have b2 : w.cell? ⟨g, 2, none⟩ = some (.int .u64 l0) := hb.cell 2
  have b3 : w.cell? ⟨g, 3, none⟩ = some (.int .u64 l1) := hb.cell 3
  have f0 := hb.loose 0
  have f1 := hb.loose 1
  have f2 := hb.loose 2
  have f3 := hb.loose 3
  have HB := Lib.hid hb
  clear hb
  go_enter Try.func48, Try.ntmps48
  go_wp2_with fail
  go_quiet ((go_at_call 56; first | exact quiet_same (hs _) | exact quiet_same_drewN (hs _)))
  have au := abs_u64 ha
  obtain ⟨au1, au2⟩ := au
  obtain ⟨uh1, uh2⟩ := uh
  obtain ⟨ul1, ul2⟩ := ul
  have k0 : 0 ≤ (l0 + Lv.abs a) / 18446744073709551616 := by omega
  have k1 : (l0 + Lv.abs a) / 18446744073709551616 ≤ 1 := by omega
  go_wp2_with fail
  go_region
  go_end0
  have hb := HB.out
  exact ⟨rfl, by repeat (first | with_reducible exact Only.refl _ _ | with_reducible apply Only.drew | with_reducible apply Only.drewN | with_reducible apply Only.setCell), (by repeat (first | with_reducible assumption | (with_reducible refine Box.newAt ?_ _ _; (simp; done)) | with_reducible apply Box.drew | with_reducible apply Box.drewN | (with_reducible refine Box.alloc ?_ _) | (with_reducible apply Box.s20) | (with_reducible apply Box.s21) | (with_reducible apply Box.s1) | (with_reducible apply Box.s40) | (with_reducible apply Box.s41) | (with_reducible apply Box.s42) | (with_reducible apply Box.s43) | (with_reducible refine Box.farX ?_ ?_ _; focus (first | (simp; done) | (simp; omega)))))⟩

set_option maxHeartbeats 400000 in
theorem add_ft (h0 h1 l0 l1 a : Int) (g : Nat) (w : World) (ha : i64 a) (hb : Box w g 76 #[.int .u64 h0, .int .u64 h1, .int .u64 l0, .int .u64 l1]) (uh : u64 h1) (ul : u64 l1) (c : a < 0) (hc : h1 < 18446744073709551615) :
    Calls Try.prog 48 #[.pointer (some ⟨g, 0, none⟩), .int .i64 a, .bool false] w fun e w' => e = .returned (.tuple #[]) ∧ Only g w w' ∧
      Box w' g 76 #[.int .u64 h0, .int .u64 (h1 + (l1 + Lv.abs a) / 18446744073709551616), .int .u64 l0, .int .u64 ((l1 + Lv.abs a) % 18446744073709551616)] := by
  have hA := run_add l1 (Lv.abs a) 0 ul (abs_u64 ha) (by omega) (by omega)
  rw [show l1 + Lv.abs a + 0 = l1 + Lv.abs a by omega] at hA
  have hs := fun w => size_any a w ha
  have b0 : w.cell? ⟨g, 0, none⟩ = some (.int .u64 h0) := hb.cell 0
  have b1 : w.cell? ⟨g, 1, none⟩ = some (.int .u64 h1) := hb.cell 1
  have b2 : w.cell? ⟨g, 2, none⟩ = some (.int .u64 l0) := hb.cell 2
  have b3 : w.cell? ⟨g, 3, none⟩ = some (.int .u64 l1) := hb.cell 3
  have f0 := hb.loose 0
  have f1 := hb.loose 1
  have f2 := hb.loose 2
  have f3 := hb.loose 3
  have HB := Lib.hid hb
  clear hb
  go_enter Try.func48, Try.ntmps48
  go_wp2_with fail
  go_quiet ((go_at_call 56; first | exact quiet_same (hs _) | exact quiet_same_drewN (hs _)))
  have au := abs_u64 ha
  obtain ⟨au1, au2⟩ := au
  obtain ⟨uh1, uh2⟩ := uh
  obtain ⟨ul1, ul2⟩ := ul
  have k0 : 0 ≤ (l1 + Lv.abs a) / 18446744073709551616 := by omega
  have k1 : (l1 + Lv.abs a) / 18446744073709551616 ≤ 1 := by omega
  go_wp2_with fail
  go_region
  go_end0
  have hb := HB.out
  exact ⟨rfl, by repeat (first | with_reducible exact Only.refl _ _ | with_reducible apply Only.drew | with_reducible apply Only.drewN | with_reducible apply Only.setCell), (by repeat (first | with_reducible assumption | (with_reducible refine Box.newAt ?_ _ _; (simp; done)) | with_reducible apply Box.drew | with_reducible apply Box.drewN | (with_reducible refine Box.alloc ?_ _) | (with_reducible apply Box.s20) | (with_reducible apply Box.s21) | (with_reducible apply Box.s1) | (with_reducible apply Box.s40) | (with_reducible apply Box.s41) | (with_reducible apply Box.s42) | (with_reducible apply Box.s43) | (with_reducible refine Box.farX ?_ ?_ _; focus (first | (simp; done) | (simp; omega)))))⟩

set_option maxHeartbeats 400000 in
theorem add_tf (h0 h1 l0 l1 a : Int) (g : Nat) (w : World) (ha : i64 a) (hb : Box w g 76 #[.int .u64 h0, .int .u64 h1, .int .u64 l0, .int .u64 l1]) (uh : u64 h1) (ul : u64 l1) (c : 0 ≤ a) (hc : h1 < 18446744073709551615) :
    Calls Try.prog 48 #[.pointer (some ⟨g, 0, none⟩), .int .i64 a, .bool true] w fun e w' => e = .returned (.tuple #[]) ∧ Only g w w' ∧
      Box w' g 76 #[.int .u64 h0, .int .u64 (h1 + (l1 + Lv.abs a) / 18446744073709551616), .int .u64 l0, .int .u64 ((l1 + Lv.abs a) % 18446744073709551616)] := by
  have hA := run_add l1 (Lv.abs a) 0 ul (abs_u64 ha) (by omega) (by omega)
  rw [show l1 + Lv.abs a + 0 = l1 + Lv.abs a by omega] at hA
  have hs := fun w => size_any a w ha
  have b0 : w.cell? ⟨g, 0, none⟩ = some (.int .u64 h0) := hb.cell 0
  have b1 : w.cell? ⟨g, 1, none⟩ = some (.int .u64 h1) := hb.cell 1
  have b2 : w.cell? ⟨g, 2, none⟩ = some (.int .u64 l0) := hb.cell 2
  have b3 : w.cell? ⟨g, 3, none⟩ = some (.int .u64 l1) := hb.cell 3
  have f0 := hb.loose 0
  have f1 := hb.loose 1
  have f2 := hb.loose 2
  have f3 := hb.loose 3
  have c' : decide (a < 0) = false := decide_eq_false (by omega)
  have HB := Lib.hid hb
  clear hb
  go_enter Try.func48, Try.ntmps48
  go_wp2_with fail
  go_quiet ((go_at_call 56; first | exact quiet_same (hs _) | exact quiet_same_drewN (hs _)))
  have au := abs_u64 ha
  obtain ⟨au1, au2⟩ := au
  obtain ⟨uh1, uh2⟩ := uh
  obtain ⟨ul1, ul2⟩ := ul
  have k0 : 0 ≤ (l1 + Lv.abs a) / 18446744073709551616 := by omega
  have k1 : (l1 + Lv.abs a) / 18446744073709551616 ≤ 1 := by omega
  go_wp2_with fail
  go_region
  go_end0
  have hb := HB.out
  exact ⟨rfl, by repeat (first | with_reducible exact Only.refl _ _ | with_reducible apply Only.drew | with_reducible apply Only.drewN | with_reducible apply Only.setCell), (by repeat (first | with_reducible assumption | (with_reducible refine Box.newAt ?_ _ _; (simp; done)) | with_reducible apply Box.drew | with_reducible apply Box.drewN | (with_reducible refine Box.alloc ?_ _) | (with_reducible apply Box.s20) | (with_reducible apply Box.s21) | (with_reducible apply Box.s1) | (with_reducible apply Box.s40) | (with_reducible apply Box.s41) | (with_reducible apply Box.s42) | (with_reducible apply Box.s43) | (with_reducible refine Box.farX ?_ ?_ _; focus (first | (simp; done) | (simp; omega)))))⟩

set_option maxHeartbeats 400000 in
theorem add_tt (h0 h1 l0 l1 a : Int) (g : Nat) (w : World) (ha : i64 a) (hb : Box w g 76 #[.int .u64 h0, .int .u64 h1, .int .u64 l0, .int .u64 l1]) (uh : u64 h0) (ul : u64 l0) (c : a < 0) (hc : h0 < 18446744073709551615) :
    Calls Try.prog 48 #[.pointer (some ⟨g, 0, none⟩), .int .i64 a, .bool true] w fun e w' => e = .returned (.tuple #[]) ∧ Only g w w' ∧
      Box w' g 76 #[.int .u64 (h0 + (l0 + Lv.abs a) / 18446744073709551616), .int .u64 h1, .int .u64 ((l0 + Lv.abs a) % 18446744073709551616), .int .u64 l1] := by
  have hA := run_add l0 (Lv.abs a) 0 ul (abs_u64 ha) (by omega) (by omega)
  rw [show l0 + Lv.abs a + 0 = l0 + Lv.abs a by omega] at hA
  have hs := fun w => size_any a w ha
  have b0 : w.cell? ⟨g, 0, none⟩ = some (.int .u64 h0) := hb.cell 0
  have b1 : w.cell? ⟨g, 1, none⟩ = some (.int .u64 h1) := hb.cell 1
  have b2 : w.cell? ⟨g, 2, none⟩ = some (.int .u64 l0) := hb.cell 2
  have b3 : w.cell? ⟨g, 3, none⟩ = some (.int .u64 l1) := hb.cell 3
  have f0 := hb.loose 0
  have f1 := hb.loose 1
  have f2 := hb.loose 2
  have f3 := hb.loose 3
  have HB := Lib.hid hb
  clear hb
  go_enter Try.func48, Try.ntmps48
  go_wp2_with fail
  go_quiet ((go_at_call 56; first | exact quiet_same (hs _) | exact quiet_same_drewN (hs _)))
  have au := abs_u64 ha
  obtain ⟨au1, au2⟩ := au
  obtain ⟨uh1, uh2⟩ := uh
  obtain ⟨ul1, ul2⟩ := ul
  have k0 : 0 ≤ (l0 + Lv.abs a) / 18446744073709551616 := by omega
  have k1 : (l0 + Lv.abs a) / 18446744073709551616 ≤ 1 := by omega
  go_wp2_with fail
  go_region
  go_end0
  have hb := HB.out
  exact ⟨rfl, by repeat (first | with_reducible exact Only.refl _ _ | with_reducible apply Only.drew | with_reducible apply Only.drewN | with_reducible apply Only.setCell), (by repeat (first | with_reducible assumption | (with_reducible refine Box.newAt ?_ _ _; (simp; done)) | with_reducible apply Box.drew | with_reducible apply Box.drewN | (with_reducible refine Box.alloc ?_ _) | (with_reducible apply Box.s20) | (with_reducible apply Box.s21) | (with_reducible apply Box.s1) | (with_reducible apply Box.s40) | (with_reducible apply Box.s41) | (with_reducible apply Box.s42) | (with_reducible apply Box.s43) | (with_reducible refine Box.farX ?_ ?_ _; focus (first | (simp; done) | (simp; omega)))))⟩

end Go.Proofs.Ytingopdeckgpaaa
