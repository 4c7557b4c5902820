/- Values of all kinds, as a row. -/
import Derived.Test.YtipkjpcedfokhaaDoorGFew
import Derived.Test.YtipkjpcedfokhaaDoorGLogic6
namespace Go.Proofs.YtipkjpcedfokhaaDoor
set_option linter.unusedVariables false
set_option linter.unusedSimpArgs false
open Go.RowKit Lv

theorem OwnV.made (w : World) (l : List Vl) (hl : l.length ≤ maxLen) : OwnV (w.alloc (.cells (flatV l).toArray 35)) w.heap.size (.slice (some ⟨w.heap.size, 0, none⟩) l.length l.length) l := by
  refine ⟨flatV_length l, Or.inr ⟨w.heap.size, l.length, (flatV l).toArray, rfl, Nat.le_refl _, heap_alloc_new w _, Nat.le_refl _, hl, ?_, ?_⟩⟩
  · rw [List.size_toArray, flatV_length]
  · rw [List.take_of_length_le (by rw [flatV_length]; exact Nat.le_refl _)]
/-- a new row of n values, whatever they are -/
def SomeRow (n : Nat) (w : World) (e : Ending) (w' : World) : Prop := ∃ l, l.length = n ∧ (∀ v ∈ l, Wide v) ∧ NewRow w l e w'
def vals12 : List Vl := [⟨0, 0, []⟩, ⟨2, 0, []⟩, ⟨2, 1, []⟩, ⟨3, 0, []⟩, ⟨3, 0, [51]⟩, ⟨3, 0, [32, 45, 50, 46, 53, 32]⟩, ⟨3, 0, [120]⟩, ⟨3, 0, [84, 82, 85, 69]⟩, ⟨2, 2, []⟩, ⟨5, 0, []⟩, ⟨4, 7, []⟩, ⟨1, -9223372036854775808, []⟩]
theorem wide_of {v : Vl} (h1 : v.k ≤ 255) (h2 : -9223372036854775808 ≤ v.n ∧ v.n ≤ 9223372036854775807) (h3 : v.t.length ≤ 300) : Wide v := ⟨h1, h2, Nat.le_trans h3 (by decide)⟩
theorem vals12_wide : ∀ v ∈ vals12, Wide v := fun v hv => by
  have : (vals12.all fun v => decide (v.k ≤ 255 ∧ (-9223372036854775808 ≤ v.n ∧ v.n ≤ 9223372036854775807) ∧ v.t.length ≤ 300)) = true := by decide
  have := List.all_eq_true.1 this v hv
  rw [decide_eq_true_eq] at this
  exact wide_of this.1 this.2.1 this.2.2
abbrev nums17 : Value := .agg #[.int .i64 0, .int .i64 1, .int .i64 (-1), .int .i64 4999, .int .i64 5000, .int .i64 10000, .int .i64 (-10000), .int .i64 15000, .int .i64 (-15000), .int .i64 20000, .int .i64 25000, .int .i64 30000, .int .i64 123456789, .int .i64 4611686018427387904, .int .i64 (-4611686018427387904), .int .i64 9223372036854775807, .int .i64 (-9223372036854775807)]
theorem num17 (k : Nat) (h : k < 17) : ∃ z : Int, (-9223372036854775808 ≤ z ∧ z ≤ 9223372036854775807) ∧ ∀ w, (Instr.index 85 nums17 (.int .i64 k)).run Tryd.prog w = .ok (.int .i64 z) w := by
  match k, h with
  | 0, _ => exact ⟨0, by omega, fun w => by kernel_rfl⟩
  | 1, _ => exact ⟨1, by omega, fun w => by kernel_rfl⟩
  | 2, _ => exact ⟨-1, by omega, fun w => by kernel_rfl⟩
  | 3, _ => exact ⟨4999, by omega, fun w => by kernel_rfl⟩
  | 4, _ => exact ⟨5000, by omega, fun w => by kernel_rfl⟩
  | 5, _ => exact ⟨10000, by omega, fun w => by kernel_rfl⟩
  | 6, _ => exact ⟨-10000, by omega, fun w => by kernel_rfl⟩
  | 7, _ => exact ⟨15000, by omega, fun w => by kernel_rfl⟩
  | 8, _ => exact ⟨-15000, by omega, fun w => by kernel_rfl⟩
  | 9, _ => exact ⟨20000, by omega, fun w => by kernel_rfl⟩
  | 10, _ => exact ⟨25000, by omega, fun w => by kernel_rfl⟩
  | 11, _ => exact ⟨30000, by omega, fun w => by kernel_rfl⟩
  | 12, _ => exact ⟨123456789, by omega, fun w => by kernel_rfl⟩
  | 13, _ => exact ⟨4611686018427387904, by omega, fun w => by kernel_rfl⟩
  | 14, _ => exact ⟨-4611686018427387904, by omega, fun w => by kernel_rfl⟩
  | 15, _ => exact ⟨9223372036854775807, by omega, fun w => by kernel_rfl⟩
  | 16, _ => exact ⟨-9223372036854775807, by omega, fun w => by kernel_rfl⟩
  | k + 17, h => exact absurd h (by omega)

set_option maxHeartbeats 4000000 in
set_option maxRecDepth 100000 in
theorem values_any (w : World) : Calls Tryd.prog 48 #[] w (SomeRow 35 w) := by
  have o0 := OwnV.made w vals12 (by decide)
  have O0 : Hid (OwnV (w.alloc (.cells (flatV vals12).toArray 35)) w.heap.size (.slice (some ⟨w.heap.size, 0, none⟩) 12 12) vals12) := Lib.hid o0
  clear o0
  go_enter Tryd.func48, Tryd.ntmps48
  go_wp2_with fail
  go_loopw [1, 2] (fun s i wr => ∃ (c : Nat) (l : List Vl), c ≤ 6 ∧ i = .int .i64 ((c : Int) + 1) ∧ l.length = 12 + c ∧ (∀ v ∈ l, Wide v) ∧ OwnV wr w.heap.size s l ∧ Kept w wr) (fun _ i _ => (7 - intOf i).toNat)
  case atStart => exact ⟨0, vals12, by omega, rfl, rfl, vals12_wide, O0.out, (Kept.refl w).alloc _⟩
  case round =>
    obtain ⟨c, l, hc, rfl, hl, hw, own, kw⟩ := hrel
    have OWN := Lib.hid own
    have HL := Lib.hid hl
    have HW := Lib.hid hw
    have KW := Lib.hid kw
    clear own hl hw kw
    by_cases h6 : c < 6
    · have kz := (Kept.refl wr).alloc (.cells #[.int .u8 4, .int .i64 ((c : Int) + 1), .string ⟨#[]⟩] 35)
      have ho := Lib.hid (OWN.out.kept kz)
      have KZ := Lib.hid (KW.out.trans kz)
      have rz : RowV (wr.alloc (.cells #[.int .u8 4, .int .i64 ((c : Int) + 1), .string ⟨#[]⟩] 35)) (some ⟨wr.heap.size, 0, none⟩) [⟨4, (c : Int) + 1, []⟩] := RowV.box (t := 35) (Box.new _ _ _) rfl
      have RZ := Lib.hid rz
      have sz := KW.out.size
      have LT : Hid (l.length + 1 ≤ 1000000) := Lib.hid (by rw [HL.out]; omega)
      clear kz rz
      go_wp2_with (refine append_vals rfl _ _ rfl w.heap.size _ _ [⟨4, (c : Int) + 1, []⟩] rfl ho.out _ _ rfl RZ.out (by simp only [List.length_singleton]; exact LT.out) (by simp; omega) ?_; intro v1 w5 o1 gr)
      have k5 := ho.out.grown (a := w) (Nat.le_refl _) KZ.out gr
      go_roundw
      case rel => exact ⟨c + 1, _, by omega, by go_num, by rw [List.length_append, HL.out]; rfl, fun v hv => by
        rcases List.mem_append.1 hv with hv | hv
        · exact HW.out v hv
        · rw [List.mem_singleton] at hv; subst hv; exact wide_of (by simp only; omega) (by simp only; omega) (by simp), o1, k5⟩
      case measure => (simp [intOf]; try omega)
    · obtain rfl : c = 6 := by omega
      clear h6 hc
      rw [show (((6 : Nat) : Int) + 1) = 7 from rfl]
      go_wp2_with fail
      go_loopw [1, 28] (fun s i wr => ∃ (k : Nat) (l : List Vl), k ≤ 17 ∧ i = .int .i64 k ∧ l.length = 18 + k ∧ (∀ v ∈ l, Wide v) ∧ OwnV wr w.heap.size s l ∧ Kept w wr) (fun _ i _ => (17 - intOf i).toNat)
      case atStart => exact ⟨0, l, by omega, rfl, HL.out, HW.out, OWN.out, KW.out⟩
      case round =>
        clear OWN HL HW KW
        obtain ⟨k, l, hk, rfl, hl, hw, own, kw⟩ := hrel
        have OWN := Lib.hid own
        have HL := Lib.hid hl
        have HW := Lib.hid hw
        have KW := Lib.hid kw
        clear own hl hw kw
        by_cases h17 : k < 17
        · obtain ⟨z, zb, ix⟩ := num17 k h17
          have kz := (Kept.refl wr).alloc (.cells #[.int .u8 1, .int .i64 z, .string ⟨#[]⟩] 35)
          have ho := Lib.hid (OWN.out.kept kz)
          have KZ := Lib.hid (KW.out.trans kz)
          have rz : RowV (wr.alloc (.cells #[.int .u8 1, .int .i64 z, .string ⟨#[]⟩] 35)) (some ⟨wr.heap.size, 0, none⟩) [⟨1, z, []⟩] := RowV.box (t := 35) (Box.new _ _ _) rfl
          have RZ := Lib.hid rz
          have sz := KW.out.size
          have LT : Hid (l.length + 1 ≤ 1000000) := Lib.hid (by rw [HL.out]; omega)
          have ZB := Lib.hid zb
          clear kz rz zb
          go_wp2_with (refine append_vals rfl _ _ rfl w.heap.size _ _ [⟨1, z, []⟩] rfl ho.out _ _ rfl RZ.out (by simp only [List.length_singleton]; exact LT.out) (by simp; omega) ?_; intro v1 w5 o1 gr)
          have k5 := ho.out.grown (a := w) (Nat.le_refl _) KZ.out gr
          go_roundw
          case rel => exact ⟨k + 1, _, by omega, by go_num, by rw [List.length_append, HL.out]; rfl, fun v hv => by
            rcases List.mem_append.1 hv with hv | hv
            · exact HW.out v hv
            · rw [List.mem_singleton] at hv; subst hv; exact wide_of (by simp only; omega) ZB.out (by simp), o1, k5⟩
          case measure => (simp [intOf]; try omega)
        · obtain rfl : k = 17 := by omega
          obtain ⟨A, cap, rfl⟩ := OWN.out.form
          go_wp2_with fail
          go_ret
          exact ⟨l, HL.out, HW.out, _, rfl, OWN.out, KW.out⟩
end Go.Proofs.YtipkjpcedfokhaaDoor
