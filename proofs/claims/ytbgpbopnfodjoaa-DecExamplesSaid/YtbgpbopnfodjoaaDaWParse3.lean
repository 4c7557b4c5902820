/- Layer 1: Parse where there is a value (printed by wip/mkparse.py). -/
import Derived.Test.YtbgpbopnfodjoaaDaMixAA
namespace Go.Proofs.Ytbgpbopnfodjoaa
set_option linter.unusedVariables false
set_option linter.unusedSimpArgs false
open Go.RowKit Lv
set_option maxHeartbeats 800000 in
set_option maxRecDepth 100000 in
theorem parse_w_neg (m : List UInt8) (n : Nat) (w : World) (hs : m.length ≤ 2000) (hn : nd m = n) (t1 : m.take n = m) (t2 : m.drop n = []) (n0 : 0 < n) (L : List UInt8) (yl : m ++ [48, 48, 48, 48] = L) (hl : L.length = n + 4) (hm : m.length = n) (A : ∀ c ∈ L, isD c = true) (E : Hid (Lv.read true m = if (val L : Int) ≤ 9223372036854775807 then (sg true (val L : Int), 0) else (0, 3))) :
    Calls Try.prog 17 #[.string ⟨(45 :: m).toArray⟩] w fun e w' => e = .returned (.tuple #[.int .i64 (Lv.read true m).1, .int .i64 (Lv.read true m).2]) ∧ Kept w w' := by
  have X := ba_extract; have Z := ba_size; have Y := ba_append; have D := fun w => digits_any ⟨m.toArray⟩ w (by rw [ba_size]; omega); rw [show nd (ByteArray.mk m.toArray).data.toList = n from hn] at D; have HD := Lib.hid D; have HN := Lib.hid hn; clear D hn; have lp : (0 : Int) < ((45 :: m).length : Int) := by simp
  have b0 : (((ByteArray.mk (45 :: m).toArray)[0]'(by rw [ba_size]; simp)).toNat : Int) = 45 := rfl; have n1 : n ≤ m.length := by have := nd_le m; rw [HN.out] at this; exact this
  have nz : ((n : Int) == 0) = false := by rw [beq_eq_false_iff_ne]; omega
  have AD := all_digits A; clear A; go_enter Try.func17, Try.ntmps17; go_wp2_with fail; refine (HD.out _).mono ?_; rintro e w' ⟨rfl, rfl⟩; go_wp2_with fail
  go_region
  have CV := conv_bytes; go_wp2_with fail; have HC := Lib.hid (bytes_cells w.drew L); have HK : Kept w (Lib.bytesWorld w.drew 5 ⟨L.toArray⟩) := Kept.trans ((Kept.refl w).drew) (bytes_kept _ _ _); generalize Lib.bytesWorld w.drew 5 ⟨L.toArray⟩ = wb at *; clear CV
  go_loop [9, 10, 67] (fun x y i => ∃ (k : Nat) (v : Int), k ≤ L.length ∧ i = .int .i64 k ∧ x = .int .u64 v ∧ 0 ≤ v ∧ v ≤ 18446744073709551615 ∧ y = .bool (decide (9223372036854775807 < val (L.take k))) ∧ (val (L.take k) ≤ 9223372036854775807 → v = val (L.take k))) (fun _ _ i => L.length - (intOf i).toNat)
  case atStart => exact ⟨0, 0, by omega, rfl, rfl, by omega, by omega, by simp [val], by simp [val]⟩
  case round =>
    obtain ⟨k, v, hk, rfl, rfl, v0, v1, rfl, hv⟩ := hrel; have HV := Lib.hid hv; clear hv
    by_cases c : k < L.length
    · have cell := HC.out k c
      have ad := AD.out k c; obtain ⟨a1, a2⟩ := ad; have vt := val_take c; obtain ⟨d, hd⟩ : ∃ d : Nat, d = L[k].toNat := ⟨_, rfl⟩; rw [← hd] at cell a1 a2 vt; clear hd; have VT := Lib.hid vt; have wo : (wb.cell? ⟨w.heap.size, k, none⟩) = some (.int .u8 d) := cell
      by_cases g : 9223372036854775807 < val (L.take k)
      · have G : Hid (9223372036854775807 < val (L.take (k + 1))) := by show _ < _; omega
        rw [decide_eq_true g]; clear g vt cell
        by_cases vb : 922337203685477580 < v
        · go_wp2_with fail
          go_round
          case rel => exact ⟨k + 1, _, by omega, by go_num, rfl, by (first | exact wrap_u64_0 _ | omega), by (first | exact wrap_u64_1 _ | omega), by rw [decide_eq_true G.out], fun h => absurd h (by have := G.out; omega)⟩
          case measure => simp [intOf]; omega
        · go_wp2_with fail
          go_round
          case rel => exact ⟨k + 1, _, by omega, by go_num, rfl, by (first | exact wrap_u64_0 _ | omega), by (first | exact wrap_u64_1 _ | omega), by rw [decide_eq_true G.out], fun h => absurd h (by have := G.out; omega)⟩
          case measure => simp [intOf]; omega
      · obtain rfl : v = (val (L.take k) : Int) := HV.out (by omega)
        rw [decide_eq_false g]; clear cell; generalize val (L.take k) = V at *
        by_cases vb : 922337203685477580 < V
        · have G : Hid (9223372036854775807 < val (L.take (k + 1))) := by show _ < _; omega
          clear vt; go_wp2_with fail
          go_round
          case rel => exact ⟨k + 1, _, by omega, by go_num, rfl, by (first | exact wrap_u64_0 _ | omega), by (first | exact wrap_u64_1 _ | omega), by rw [decide_eq_true G.out], fun h => absurd h (by have := G.out; omega)⟩
          case measure => simp [intOf]; omega
        · have G1 : Hid (val (L.take (k + 1)) = 10 * V + (d - 48)) := vt
          clear vt
          by_cases vc : 9223372036854775807 < 10 * V + (d - 48)
          · go_wp2_with fail
            go_round
            case rel => exact ⟨k + 1, ((10 * V + (d - 48) : Nat) : Int), by omega, by go_num, by congr 1; omega, by omega, by omega, by rw [G1.out, decide_eq_true vc]; first | rfl | exact congrArg Value.bool (decide_eq_true (by omega)), fun _ => by rw [G1.out]⟩
            case measure => simp [intOf]; omega
          · go_wp2_with fail
            go_round
            case rel => exact ⟨k + 1, ((10 * V + (d - 48) : Nat) : Int), by omega, by go_num, by congr 1; omega, by omega, by omega, by rw [G1.out, decide_eq_false vc]; first | rfl | exact congrArg Value.bool (decide_eq_false (by omega)), fun _ => by rw [G1.out]⟩
            case measure => simp [intOf]; omega
    · obtain rfl : k = L.length := by omega
      rw [List.take_length] at HV; rw [List.take_length]
      by_cases g : 9223372036854775807 < val L
      · have E2 : Hid (Lv.read true m = (0, 3)) := by rw [E.out, if_neg (by omega)]; rfl
        rw [decide_eq_true g]; clear g; go_wp2_with fail; go_ret2; exact ⟨ret_ii (by rw [E2.out]) (by rw [E2.out]), kpt⟩
      · obtain rfl : v = (val L : Int) := HV.out (by omega)
        rw [decide_eq_false g]
        by_cases g2 : (val L : Int) ≤ 9223372036854775807
        · have E2 : Hid (Lv.read true m = (sg true ((val L : Int)), 0)) := by rw [E.out, if_pos (by omega)]; rfl
          have Sg := fun w => signed_any 0 ((val L : Int)) true w ⟨by omega, by omega⟩ ⟨by omega, by omega⟩; rw [Int.zero_mul, Int.zero_add, fit_in (by unfold sg; split <;> omega) (by unfold sg; split <;> omega)] at Sg; have HS := Lib.hid Sg; clear Sg; have v00 : (0 : Int) ≤ (val L : Int) := by omega
          have v01 : (val L : Int) ≤ 9223372036854775807 := by omega
          generalize (val L : Int) = V at *; go_wp2_with fail; refine (HS.out _).mono ?_; rintro e w' ⟨rfl, rfl⟩; go_wp2_with fail; go_ret2; exact ⟨ret_ii (by rw [E2.out]) (by rw [E2.out]), kpt⟩
        · omega
set_option maxHeartbeats 800000 in
set_option maxRecDepth 100000 in
theorem parse_w_pos (m : List UInt8) (n : Nat) (w : World) (hs : m.length ≤ 2000) (hn : nd m = n) (t1 : m.take n = m) (t2 : m.drop n = []) (hb : ∀ h, ((((ByteArray.mk m.toArray)[0]'h).toNat : Int) == 45) = false) (hl0 : 0 < m.length) (n0 : 0 < n) (L : List UInt8) (yl : m ++ [48, 48, 48, 48] = L) (hl : L.length = n + 4) (hm : m.length = n) (A : ∀ c ∈ L, isD c = true) (E : Hid (Lv.read false m = if (val L : Int) ≤ 9223372036854775807 then (sg false (val L : Int), 0) else (0, 3))) :
    Calls Try.prog 17 #[.string ⟨m.toArray⟩] w fun e w' => e = .returned (.tuple #[.int .i64 (Lv.read false m).1, .int .i64 (Lv.read false m).2]) ∧ Kept w w' := by
  have X := ba_extract; have Z := ba_size; have Y := ba_append; have D := fun w => digits_any ⟨m.toArray⟩ w (by rw [ba_size]; omega); rw [show nd (ByteArray.mk m.toArray).data.toList = n from hn] at D; have HD := Lib.hid D; have HN := Lib.hid hn; clear D hn; have lp : (0 : Int) < (m.length : Int) := by omega
  have b0 := fun h => hb h; have n1 : n ≤ m.length := by have := nd_le m; rw [HN.out] at this; exact this
  have nz : ((n : Int) == 0) = false := by rw [beq_eq_false_iff_ne]; omega
  have AD := all_digits A; clear A; go_enter Try.func17, Try.ntmps17; go_wp2_with fail; refine (HD.out _).mono ?_; rintro e w' ⟨rfl, rfl⟩; go_wp2_with fail
  go_region
  have CV := conv_bytes; go_wp2_with fail; have HC := Lib.hid (bytes_cells w.drew L); have HK : Kept w (Lib.bytesWorld w.drew 5 ⟨L.toArray⟩) := Kept.trans ((Kept.refl w).drew) (bytes_kept _ _ _); generalize Lib.bytesWorld w.drew 5 ⟨L.toArray⟩ = wb at *; clear CV
  go_loop [9, 10, 67] (fun x y i => ∃ (k : Nat) (v : Int), k ≤ L.length ∧ i = .int .i64 k ∧ x = .int .u64 v ∧ 0 ≤ v ∧ v ≤ 18446744073709551615 ∧ y = .bool (decide (9223372036854775807 < val (L.take k))) ∧ (val (L.take k) ≤ 9223372036854775807 → v = val (L.take k))) (fun _ _ i => L.length - (intOf i).toNat)
  case atStart => exact ⟨0, 0, by omega, rfl, rfl, by omega, by omega, by simp [val], by simp [val]⟩
  case round =>
    obtain ⟨k, v, hk, rfl, rfl, v0, v1, rfl, hv⟩ := hrel; have HV := Lib.hid hv; clear hv
    by_cases c : k < L.length
    · have cell := HC.out k c
      have ad := AD.out k c; obtain ⟨a1, a2⟩ := ad; have vt := val_take c; obtain ⟨d, hd⟩ : ∃ d : Nat, d = L[k].toNat := ⟨_, rfl⟩; rw [← hd] at cell a1 a2 vt; clear hd; have VT := Lib.hid vt; have wo : (wb.cell? ⟨w.heap.size, k, none⟩) = some (.int .u8 d) := cell
      by_cases g : 9223372036854775807 < val (L.take k)
      · have G : Hid (9223372036854775807 < val (L.take (k + 1))) := by show _ < _; omega
        rw [decide_eq_true g]; clear g vt cell
        by_cases vb : 922337203685477580 < v
        · go_wp2_with fail
          go_round
          case rel => exact ⟨k + 1, _, by omega, by go_num, rfl, by (first | exact wrap_u64_0 _ | omega), by (first | exact wrap_u64_1 _ | omega), by rw [decide_eq_true G.out], fun h => absurd h (by have := G.out; omega)⟩
          case measure => simp [intOf]; omega
        · go_wp2_with fail
          go_round
          case rel => exact ⟨k + 1, _, by omega, by go_num, rfl, by (first | exact wrap_u64_0 _ | omega), by (first | exact wrap_u64_1 _ | omega), by rw [decide_eq_true G.out], fun h => absurd h (by have := G.out; omega)⟩
          case measure => simp [intOf]; omega
      · obtain rfl : v = (val (L.take k) : Int) := HV.out (by omega)
        rw [decide_eq_false g]; clear cell; generalize val (L.take k) = V at *
        by_cases vb : 922337203685477580 < V
        · have G : Hid (9223372036854775807 < val (L.take (k + 1))) := by show _ < _; omega
          clear vt; go_wp2_with fail
          go_round
          case rel => exact ⟨k + 1, _, by omega, by go_num, rfl, by (first | exact wrap_u64_0 _ | omega), by (first | exact wrap_u64_1 _ | omega), by rw [decide_eq_true G.out], fun h => absurd h (by have := G.out; omega)⟩
          case measure => simp [intOf]; omega
        · have G1 : Hid (val (L.take (k + 1)) = 10 * V + (d - 48)) := vt
          clear vt
          by_cases vc : 9223372036854775807 < 10 * V + (d - 48)
          · go_wp2_with fail
            go_round
            case rel => exact ⟨k + 1, ((10 * V + (d - 48) : Nat) : Int), by omega, by go_num, by congr 1; omega, by omega, by omega, by rw [G1.out, decide_eq_true vc]; first | rfl | exact congrArg Value.bool (decide_eq_true (by omega)), fun _ => by rw [G1.out]⟩
            case measure => simp [intOf]; omega
          · go_wp2_with fail
            go_round
            case rel => exact ⟨k + 1, ((10 * V + (d - 48) : Nat) : Int), by omega, by go_num, by congr 1; omega, by omega, by omega, by rw [G1.out, decide_eq_false vc]; first | rfl | exact congrArg Value.bool (decide_eq_false (by omega)), fun _ => by rw [G1.out]⟩
            case measure => simp [intOf]; omega
    · obtain rfl : k = L.length := by omega
      rw [List.take_length] at HV; rw [List.take_length]
      by_cases g : 9223372036854775807 < val L
      · have E2 : Hid (Lv.read false m = (0, 3)) := by rw [E.out, if_neg (by omega)]; rfl
        rw [decide_eq_true g]; clear g; go_wp2_with fail; go_ret2; exact ⟨ret_ii (by rw [E2.out]) (by rw [E2.out]), kpt⟩
      · obtain rfl : v = (val L : Int) := HV.out (by omega)
        rw [decide_eq_false g]
        by_cases g2 : (val L : Int) ≤ 9223372036854775807
        · have E2 : Hid (Lv.read false m = (sg false ((val L : Int)), 0)) := by rw [E.out, if_pos (by omega)]; rfl
          have Sg := fun w => signed_any 0 ((val L : Int)) false w ⟨by omega, by omega⟩ ⟨by omega, by omega⟩; rw [Int.zero_mul, Int.zero_add, fit_in (by unfold sg; split <;> omega) (by unfold sg; split <;> omega)] at Sg; have HS := Lib.hid Sg; clear Sg; have v00 : (0 : Int) ≤ (val L : Int) := by omega
          have v01 : (val L : Int) ≤ 9223372036854775807 := by omega
          generalize (val L : Int) = V at *; go_wp2_with fail; refine (HS.out _).mono ?_; rintro e w' ⟨rfl, rfl⟩; go_wp2_with fail; go_ret2; exact ⟨ret_ii (by rw [E2.out]) (by rw [E2.out]), kpt⟩
        · omega
set_option maxHeartbeats 800000 in
set_option maxRecDepth 100000 in
theorem parse_v0_neg (m wh r : List UInt8) (c : UInt8) (n : Nat) (w : World) (hs : m.length ≤ 2000) (hn : nd m = n) (t1 : m.take n = wh) (t2 : m.drop n = c :: r) (n0 : 0 < n) (hr : 0 < r.length) (hc : c = 46) (hd : nd r = r.length) (q p4 L : List UInt8) (yq : r ++ [48, 48, 48, 48, 48] = q) (lq : q.length = r.length + 5) (yp : q.take 4 = p4) (yl : wh ++ p4 = L) (hl : L.length = n + 4) (lw : wh.length = n) (lp4 : p4.length = 4) (f : Nat) (q4 : ∀ h, (((ByteArray.mk q.toArray)[4]'h).toNat : Int) = f) (f5 : f < 53) (A : ∀ c ∈ L, isD c = true) (E : Hid (Lv.read true m = if (val L : Int) ≤ 9223372036854775807 then (sg true ((val L : Int)), 0) else (0, 3))) :
    Calls Try.prog 17 #[.string ⟨(45 :: m).toArray⟩] w fun e w' => e = .returned (.tuple #[.int .i64 (Lv.read true m).1, .int .i64 (Lv.read true m).2]) ∧ Kept w w' := by
  have X := ba_extract; have Z := ba_size; have Y := ba_append; have D := fun w => digits_any ⟨m.toArray⟩ w (by rw [ba_size]; omega); rw [show nd (ByteArray.mk m.toArray).data.toList = n from hn] at D; have HD := Lib.hid D; have HN := Lib.hid hn; clear D hn; have lp : (0 : Int) < ((45 :: m).length : Int) := by simp
  have b0 : (((ByteArray.mk (45 :: m).toArray)[0]'(by rw [ba_size]; simp)).toNat : Int) = 45 := rfl; have n1 : n ≤ m.length := by have := nd_le m; rw [HN.out] at this; exact this
  have nz : ((n : Int) == 0) = false := by rw [beq_eq_false_iff_ne]; omega
  have c0 : ((((ByteArray.mk (c :: r).toArray)[0]'(by rw [ba_size]; simp)).toNat : Int) == 46) = true := by rw [hc]; rfl
  have rl : r.length ≤ 2000 := by have := congrArg List.length t2; simp at this; omega
  have D2 := fun w => digits_any ⟨r.toArray⟩ w (by rw [ba_size]; omega); rw [show nd (ByteArray.mk r.toArray).data.toList = r.length from hd] at D2; have HD2 := Lib.hid D2; clear hc hd D2; have AD := all_digits A; clear A; go_enter Try.func17, Try.ntmps17; go_wp2_with fail; refine (HD.out _).mono ?_; rintro e w' ⟨rfl, rfl⟩; go_wp2_with fail
  go_region
  go_wp2_with fail; refine (HD2.out _).mono ?_; rintro e w' ⟨rfl, rfl⟩; have CV := conv_bytes; go_wp2_with fail; have HC := Lib.hid (bytes_cells w.drew L); have HK : Kept w (Lib.bytesWorld w.drew 5 ⟨L.toArray⟩) := Kept.trans ((Kept.refl w).drew) (bytes_kept _ _ _); generalize Lib.bytesWorld w.drew 5 ⟨L.toArray⟩ = wb at *; clear CV
  go_loop [9, 10, 67] (fun x y i => ∃ (k : Nat) (v : Int), k ≤ L.length ∧ i = .int .i64 k ∧ x = .int .u64 v ∧ 0 ≤ v ∧ v ≤ 18446744073709551615 ∧ y = .bool (decide (9223372036854775807 < val (L.take k))) ∧ (val (L.take k) ≤ 9223372036854775807 → v = val (L.take k))) (fun _ _ i => L.length - (intOf i).toNat)
  case atStart => exact ⟨0, 0, by omega, rfl, rfl, by omega, by omega, by simp [val], by simp [val]⟩
  case round =>
    obtain ⟨k, v, hk, rfl, rfl, v0, v1, rfl, hv⟩ := hrel; have HV := Lib.hid hv; clear hv
    by_cases c : k < L.length
    · have cell := HC.out k c
      have ad := AD.out k c; obtain ⟨a1, a2⟩ := ad; have vt := val_take c; obtain ⟨d, hd⟩ : ∃ d : Nat, d = L[k].toNat := ⟨_, rfl⟩; rw [← hd] at cell a1 a2 vt; clear hd; have VT := Lib.hid vt; have wo : (wb.cell? ⟨w.heap.size, k, none⟩) = some (.int .u8 d) := cell
      by_cases g : 9223372036854775807 < val (L.take k)
      · have G : Hid (9223372036854775807 < val (L.take (k + 1))) := by show _ < _; omega
        rw [decide_eq_true g]; clear g vt cell
        by_cases vb : 922337203685477580 < v
        · go_wp2_with fail
          go_round
          case rel => exact ⟨k + 1, _, by omega, by go_num, rfl, by (first | exact wrap_u64_0 _ | omega), by (first | exact wrap_u64_1 _ | omega), by rw [decide_eq_true G.out], fun h => absurd h (by have := G.out; omega)⟩
          case measure => simp [intOf]; omega
        · go_wp2_with fail
          go_round
          case rel => exact ⟨k + 1, _, by omega, by go_num, rfl, by (first | exact wrap_u64_0 _ | omega), by (first | exact wrap_u64_1 _ | omega), by rw [decide_eq_true G.out], fun h => absurd h (by have := G.out; omega)⟩
          case measure => simp [intOf]; omega
      · obtain rfl : v = (val (L.take k) : Int) := HV.out (by omega)
        rw [decide_eq_false g]; clear cell; generalize val (L.take k) = V at *
        by_cases vb : 922337203685477580 < V
        · have G : Hid (9223372036854775807 < val (L.take (k + 1))) := by show _ < _; omega
          clear vt; go_wp2_with fail
          go_round
          case rel => exact ⟨k + 1, _, by omega, by go_num, rfl, by (first | exact wrap_u64_0 _ | omega), by (first | exact wrap_u64_1 _ | omega), by rw [decide_eq_true G.out], fun h => absurd h (by have := G.out; omega)⟩
          case measure => simp [intOf]; omega
        · have G1 : Hid (val (L.take (k + 1)) = 10 * V + (d - 48)) := vt
          clear vt
          by_cases vc : 9223372036854775807 < 10 * V + (d - 48)
          · go_wp2_with fail
            go_round
            case rel => exact ⟨k + 1, ((10 * V + (d - 48) : Nat) : Int), by omega, by go_num, by congr 1; omega, by omega, by omega, by rw [G1.out, decide_eq_true vc]; first | rfl | exact congrArg Value.bool (decide_eq_true (by omega)), fun _ => by rw [G1.out]⟩
            case measure => simp [intOf]; omega
          · go_wp2_with fail
            go_round
            case rel => exact ⟨k + 1, ((10 * V + (d - 48) : Nat) : Int), by omega, by go_num, by congr 1; omega, by omega, by omega, by rw [G1.out, decide_eq_false vc]; first | rfl | exact congrArg Value.bool (decide_eq_false (by omega)), fun _ => by rw [G1.out]⟩
            case measure => simp [intOf]; omega
    · obtain rfl : k = L.length := by omega
      rw [List.take_length] at HV; rw [List.take_length]
      by_cases g : 9223372036854775807 < val L
      · have E2 : Hid (Lv.read true m = (0, 3)) := by rw [E.out, if_neg (by omega)]; rfl
        rw [decide_eq_true g]; clear g; go_wp2_with fail; go_ret2; exact ⟨ret_ii (by rw [E2.out]) (by rw [E2.out]), kpt⟩
      · obtain rfl : v = (val L : Int) := HV.out (by omega)
        rw [decide_eq_false g]
        by_cases g2 : (val L : Int) ≤ 9223372036854775807
        · have E2 : Hid (Lv.read true m = (sg true ((val L : Int)), 0)) := by rw [E.out, if_pos (by omega)]; rfl
          have Sg := fun w => signed_any 0 ((val L : Int)) true w ⟨by omega, by omega⟩ ⟨by omega, by omega⟩; rw [Int.zero_mul, Int.zero_add, fit_in (by unfold sg; split <;> omega) (by unfold sg; split <;> omega)] at Sg; have HS := Lib.hid Sg; clear Sg; have v00 : (0 : Int) ≤ (val L : Int) := by omega
          have v01 : (val L : Int) ≤ 9223372036854775807 := by omega
          generalize (val L : Int) = V at *; go_wp2_with fail; refine (HS.out _).mono ?_; rintro e w' ⟨rfl, rfl⟩; go_wp2_with fail; go_ret2; exact ⟨ret_ii (by rw [E2.out]) (by rw [E2.out]), kpt⟩
        · omega
set_option maxHeartbeats 800000 in
set_option maxRecDepth 100000 in
theorem parse_v1_neg (m wh r : List UInt8) (c : UInt8) (n : Nat) (w : World) (hs : m.length ≤ 2000) (hn : nd m = n) (t1 : m.take n = wh) (t2 : m.drop n = c :: r) (n0 : 0 < n) (hr : 0 < r.length) (hc : c = 46) (hd : nd r = r.length) (q p4 L : List UInt8) (yq : r ++ [48, 48, 48, 48, 48] = q) (lq : q.length = r.length + 5) (yp : q.take 4 = p4) (yl : wh ++ p4 = L) (hl : L.length = n + 4) (lw : wh.length = n) (lp4 : p4.length = 4) (f : Nat) (q4 : ∀ h, (((ByteArray.mk q.toArray)[4]'h).toNat : Int) = f) (f5 : 53 ≤ f) (A : ∀ c ∈ L, isD c = true) (E : Hid (Lv.read true m = if (val L : Int) + 1 ≤ 9223372036854775807 then (sg true ((val L : Int) + 1), 0) else (0, 3))) :
    Calls Try.prog 17 #[.string ⟨(45 :: m).toArray⟩] w fun e w' => e = .returned (.tuple #[.int .i64 (Lv.read true m).1, .int .i64 (Lv.read true m).2]) ∧ Kept w w' := by
  have X := ba_extract; have Z := ba_size; have Y := ba_append; have D := fun w => digits_any ⟨m.toArray⟩ w (by rw [ba_size]; omega); rw [show nd (ByteArray.mk m.toArray).data.toList = n from hn] at D; have HD := Lib.hid D; have HN := Lib.hid hn; clear D hn; have lp : (0 : Int) < ((45 :: m).length : Int) := by simp
  have b0 : (((ByteArray.mk (45 :: m).toArray)[0]'(by rw [ba_size]; simp)).toNat : Int) = 45 := rfl; have n1 : n ≤ m.length := by have := nd_le m; rw [HN.out] at this; exact this
  have nz : ((n : Int) == 0) = false := by rw [beq_eq_false_iff_ne]; omega
  have c0 : ((((ByteArray.mk (c :: r).toArray)[0]'(by rw [ba_size]; simp)).toNat : Int) == 46) = true := by rw [hc]; rfl
  have rl : r.length ≤ 2000 := by have := congrArg List.length t2; simp at this; omega
  have D2 := fun w => digits_any ⟨r.toArray⟩ w (by rw [ba_size]; omega); rw [show nd (ByteArray.mk r.toArray).data.toList = r.length from hd] at D2; have HD2 := Lib.hid D2; clear hc hd D2; have AD := all_digits A; clear A; go_enter Try.func17, Try.ntmps17; go_wp2_with fail; refine (HD.out _).mono ?_; rintro e w' ⟨rfl, rfl⟩; go_wp2_with fail
  go_region
  go_wp2_with fail; refine (HD2.out _).mono ?_; rintro e w' ⟨rfl, rfl⟩; have CV := conv_bytes; go_wp2_with fail; have HC := Lib.hid (bytes_cells w.drew L); have HK : Kept w (Lib.bytesWorld w.drew 5 ⟨L.toArray⟩) := Kept.trans ((Kept.refl w).drew) (bytes_kept _ _ _); generalize Lib.bytesWorld w.drew 5 ⟨L.toArray⟩ = wb at *; clear CV
  go_loop [9, 10, 67] (fun x y i => ∃ (k : Nat) (v : Int), k ≤ L.length ∧ i = .int .i64 k ∧ x = .int .u64 v ∧ 0 ≤ v ∧ v ≤ 18446744073709551615 ∧ y = .bool (decide (9223372036854775807 < val (L.take k))) ∧ (val (L.take k) ≤ 9223372036854775807 → v = val (L.take k))) (fun _ _ i => L.length - (intOf i).toNat)
  case atStart => exact ⟨0, 0, by omega, rfl, rfl, by omega, by omega, by simp [val], by simp [val]⟩
  case round =>
    obtain ⟨k, v, hk, rfl, rfl, v0, v1, rfl, hv⟩ := hrel; have HV := Lib.hid hv; clear hv
    by_cases c : k < L.length
    · have cell := HC.out k c
      have ad := AD.out k c; obtain ⟨a1, a2⟩ := ad; have vt := val_take c; obtain ⟨d, hd⟩ : ∃ d : Nat, d = L[k].toNat := ⟨_, rfl⟩; rw [← hd] at cell a1 a2 vt; clear hd; have VT := Lib.hid vt; have wo : (wb.cell? ⟨w.heap.size, k, none⟩) = some (.int .u8 d) := cell
      by_cases g : 9223372036854775807 < val (L.take k)
      · have G : Hid (9223372036854775807 < val (L.take (k + 1))) := by show _ < _; omega
        rw [decide_eq_true g]; clear g vt cell
        by_cases vb : 922337203685477580 < v
        · go_wp2_with fail
          go_round
          case rel => exact ⟨k + 1, _, by omega, by go_num, rfl, by (first | exact wrap_u64_0 _ | omega), by (first | exact wrap_u64_1 _ | omega), by rw [decide_eq_true G.out], fun h => absurd h (by have := G.out; omega)⟩
          case measure => simp [intOf]; omega
        · go_wp2_with fail
          go_round
          case rel => exact ⟨k + 1, _, by omega, by go_num, rfl, by (first | exact wrap_u64_0 _ | omega), by (first | exact wrap_u64_1 _ | omega), by rw [decide_eq_true G.out], fun h => absurd h (by have := G.out; omega)⟩
          case measure => simp [intOf]; omega
      · obtain rfl : v = (val (L.take k) : Int) := HV.out (by omega)
        rw [decide_eq_false g]; clear cell; generalize val (L.take k) = V at *
        by_cases vb : 922337203685477580 < V
        · have G : Hid (9223372036854775807 < val (L.take (k + 1))) := by show _ < _; omega
          clear vt; go_wp2_with fail
          go_round
          case rel => exact ⟨k + 1, _, by omega, by go_num, rfl, by (first | exact wrap_u64_0 _ | omega), by (first | exact wrap_u64_1 _ | omega), by rw [decide_eq_true G.out], fun h => absurd h (by have := G.out; omega)⟩
          case measure => simp [intOf]; omega
        · have G1 : Hid (val (L.take (k + 1)) = 10 * V + (d - 48)) := vt
          clear vt
          by_cases vc : 9223372036854775807 < 10 * V + (d - 48)
          · go_wp2_with fail
            go_round
            case rel => exact ⟨k + 1, ((10 * V + (d - 48) : Nat) : Int), by omega, by go_num, by congr 1; omega, by omega, by omega, by rw [G1.out, decide_eq_true vc]; first | rfl | exact congrArg Value.bool (decide_eq_true (by omega)), fun _ => by rw [G1.out]⟩
            case measure => simp [intOf]; omega
          · go_wp2_with fail
            go_round
            case rel => exact ⟨k + 1, ((10 * V + (d - 48) : Nat) : Int), by omega, by go_num, by congr 1; omega, by omega, by omega, by rw [G1.out, decide_eq_false vc]; first | rfl | exact congrArg Value.bool (decide_eq_false (by omega)), fun _ => by rw [G1.out]⟩
            case measure => simp [intOf]; omega
    · obtain rfl : k = L.length := by omega
      rw [List.take_length] at HV; rw [List.take_length]
      by_cases g : 9223372036854775807 < val L
      · have E2 : Hid (Lv.read true m = (0, 3)) := by rw [E.out, if_neg (by omega)]; rfl
        rw [decide_eq_true g]; clear g; go_wp2_with fail; go_ret2; exact ⟨ret_ii (by rw [E2.out]) (by rw [E2.out]), kpt⟩
      · obtain rfl : v = (val L : Int) := HV.out (by omega)
        rw [decide_eq_false g]
        by_cases g2 : (val L : Int) + 1 ≤ 9223372036854775807
        · have E2 : Hid (Lv.read true m = (sg true ((val L : Int) + 1), 0)) := by rw [E.out, if_pos (by omega)]; rfl
          have Sg := fun w => signed_any 0 ((val L : Int) + 1) true w ⟨by omega, by omega⟩ ⟨by omega, by omega⟩; rw [Int.zero_mul, Int.zero_add, fit_in (by unfold sg; split <;> omega) (by unfold sg; split <;> omega)] at Sg; have HS := Lib.hid Sg; clear Sg; have v00 : (0 : Int) ≤ (val L : Int) := by omega
          have v01 : (val L : Int) ≤ 9223372036854775807 := by omega
          generalize (val L : Int) = V at *; go_wp2_with fail; refine (HS.out _).mono ?_; rintro e w' ⟨rfl, rfl⟩; go_wp2_with fail; go_ret2; exact ⟨ret_ii (by rw [E2.out]) (by rw [E2.out]), kpt⟩
        · have E2 : Hid (Lv.read true m = (0, 3)) := by rw [E.out, if_neg (by omega)]; rfl
          have v00 : (0 : Int) ≤ (val L : Int) := by omega
          have v01 : (val L : Int) ≤ 9223372036854775807 := by omega
          generalize (val L : Int) = V at *; go_wp2_with fail; go_ret2; exact ⟨ret_ii (by rw [E2.out]) (by rw [E2.out]), kpt⟩
set_option maxHeartbeats 800000 in
set_option maxRecDepth 100000 in
theorem parse_v0_pos (m wh r : List UInt8) (c : UInt8) (n : Nat) (w : World) (hs : m.length ≤ 2000) (hn : nd m = n) (t1 : m.take n = wh) (t2 : m.drop n = c :: r) (hb : ∀ h, ((((ByteArray.mk m.toArray)[0]'h).toNat : Int) == 45) = false) (hl0 : 0 < m.length) (n0 : 0 < n) (hr : 0 < r.length) (hc : c = 46) (hd : nd r = r.length) (q p4 L : List UInt8) (yq : r ++ [48, 48, 48, 48, 48] = q) (lq : q.length = r.length + 5) (yp : q.take 4 = p4) (yl : wh ++ p4 = L) (hl : L.length = n + 4) (lw : wh.length = n) (lp4 : p4.length = 4) (f : Nat) (q4 : ∀ h, (((ByteArray.mk q.toArray)[4]'h).toNat : Int) = f) (f5 : f < 53) (A : ∀ c ∈ L, isD c = true) (E : Hid (Lv.read false m = if (val L : Int) ≤ 9223372036854775807 then (sg false ((val L : Int)), 0) else (0, 3))) :
    Calls Try.prog 17 #[.string ⟨m.toArray⟩] w fun e w' => e = .returned (.tuple #[.int .i64 (Lv.read false m).1, .int .i64 (Lv.read false m).2]) ∧ Kept w w' := by
  have X := ba_extract; have Z := ba_size; have Y := ba_append; have D := fun w => digits_any ⟨m.toArray⟩ w (by rw [ba_size]; omega); rw [show nd (ByteArray.mk m.toArray).data.toList = n from hn] at D; have HD := Lib.hid D; have HN := Lib.hid hn; clear D hn; have lp : (0 : Int) < (m.length : Int) := by omega
  have b0 := fun h => hb h; have n1 : n ≤ m.length := by have := nd_le m; rw [HN.out] at this; exact this
  have nz : ((n : Int) == 0) = false := by rw [beq_eq_false_iff_ne]; omega
  have c0 : ((((ByteArray.mk (c :: r).toArray)[0]'(by rw [ba_size]; simp)).toNat : Int) == 46) = true := by rw [hc]; rfl
  have rl : r.length ≤ 2000 := by have := congrArg List.length t2; simp at this; omega
  have D2 := fun w => digits_any ⟨r.toArray⟩ w (by rw [ba_size]; omega); rw [show nd (ByteArray.mk r.toArray).data.toList = r.length from hd] at D2; have HD2 := Lib.hid D2; clear hc hd D2; have AD := all_digits A; clear A; go_enter Try.func17, Try.ntmps17; go_wp2_with fail; refine (HD.out _).mono ?_; rintro e w' ⟨rfl, rfl⟩; go_wp2_with fail
  go_region
  go_wp2_with fail; refine (HD2.out _).mono ?_; rintro e w' ⟨rfl, rfl⟩; have CV := conv_bytes; go_wp2_with fail; have HC := Lib.hid (bytes_cells w.drew L); have HK : Kept w (Lib.bytesWorld w.drew 5 ⟨L.toArray⟩) := Kept.trans ((Kept.refl w).drew) (bytes_kept _ _ _); generalize Lib.bytesWorld w.drew 5 ⟨L.toArray⟩ = wb at *; clear CV
  go_loop [9, 10, 67] (fun x y i => ∃ (k : Nat) (v : Int), k ≤ L.length ∧ i = .int .i64 k ∧ x = .int .u64 v ∧ 0 ≤ v ∧ v ≤ 18446744073709551615 ∧ y = .bool (decide (9223372036854775807 < val (L.take k))) ∧ (val (L.take k) ≤ 9223372036854775807 → v = val (L.take k))) (fun _ _ i => L.length - (intOf i).toNat)
  case atStart => exact ⟨0, 0, by omega, rfl, rfl, by omega, by omega, by simp [val], by simp [val]⟩
  case round =>
    obtain ⟨k, v, hk, rfl, rfl, v0, v1, rfl, hv⟩ := hrel; have HV := Lib.hid hv; clear hv
    by_cases c : k < L.length
    · have cell := HC.out k c
      have ad := AD.out k c; obtain ⟨a1, a2⟩ := ad; have vt := val_take c; obtain ⟨d, hd⟩ : ∃ d : Nat, d = L[k].toNat := ⟨_, rfl⟩; rw [← hd] at cell a1 a2 vt; clear hd; have VT := Lib.hid vt; have wo : (wb.cell? ⟨w.heap.size, k, none⟩) = some (.int .u8 d) := cell
      by_cases g : 9223372036854775807 < val (L.take k)
      · have G : Hid (9223372036854775807 < val (L.take (k + 1))) := by show _ < _; omega
        rw [decide_eq_true g]; clear g vt cell
        by_cases vb : 922337203685477580 < v
        · go_wp2_with fail
          go_round
          case rel => exact ⟨k + 1, _, by omega, by go_num, rfl, by (first | exact wrap_u64_0 _ | omega), by (first | exact wrap_u64_1 _ | omega), by rw [decide_eq_true G.out], fun h => absurd h (by have := G.out; omega)⟩
          case measure => simp [intOf]; omega
        · go_wp2_with fail
          go_round
          case rel => exact ⟨k + 1, _, by omega, by go_num, rfl, by (first | exact wrap_u64_0 _ | omega), by (first | exact wrap_u64_1 _ | omega), by rw [decide_eq_true G.out], fun h => absurd h (by have := G.out; omega)⟩
          case measure => simp [intOf]; omega
      · obtain rfl : v = (val (L.take k) : Int) := HV.out (by omega)
        rw [decide_eq_false g]; clear cell; generalize val (L.take k) = V at *
        by_cases vb : 922337203685477580 < V
        · have G : Hid (9223372036854775807 < val (L.take (k + 1))) := by show _ < _; omega
          clear vt; go_wp2_with fail
          go_round
          case rel => exact ⟨k + 1, _, by omega, by go_num, rfl, by (first | exact wrap_u64_0 _ | omega), by (first | exact wrap_u64_1 _ | omega), by rw [decide_eq_true G.out], fun h => absurd h (by have := G.out; omega)⟩
          case measure => simp [intOf]; omega
        · have G1 : Hid (val (L.take (k + 1)) = 10 * V + (d - 48)) := vt
          clear vt
          by_cases vc : 9223372036854775807 < 10 * V + (d - 48)
          · go_wp2_with fail
            go_round
            case rel => exact ⟨k + 1, ((10 * V + (d - 48) : Nat) : Int), by omega, by go_num, by congr 1; omega, by omega, by omega, by rw [G1.out, decide_eq_true vc]; first | rfl | exact congrArg Value.bool (decide_eq_true (by omega)), fun _ => by rw [G1.out]⟩
            case measure => simp [intOf]; omega
          · go_wp2_with fail
            go_round
            case rel => exact ⟨k + 1, ((10 * V + (d - 48) : Nat) : Int), by omega, by go_num, by congr 1; omega, by omega, by omega, by rw [G1.out, decide_eq_false vc]; first | rfl | exact congrArg Value.bool (decide_eq_false (by omega)), fun _ => by rw [G1.out]⟩
            case measure => simp [intOf]; omega
    · obtain rfl : k = L.length := by omega
      rw [List.take_length] at HV; rw [List.take_length]
      by_cases g : 9223372036854775807 < val L
      · have E2 : Hid (Lv.read false m = (0, 3)) := by rw [E.out, if_neg (by omega)]; rfl
        rw [decide_eq_true g]; clear g; go_wp2_with fail; go_ret2; exact ⟨ret_ii (by rw [E2.out]) (by rw [E2.out]), kpt⟩
      · obtain rfl : v = (val L : Int) := HV.out (by omega)
        rw [decide_eq_false g]
        by_cases g2 : (val L : Int) ≤ 9223372036854775807
        · have E2 : Hid (Lv.read false m = (sg false ((val L : Int)), 0)) := by rw [E.out, if_pos (by omega)]; rfl
          have Sg := fun w => signed_any 0 ((val L : Int)) false w ⟨by omega, by omega⟩ ⟨by omega, by omega⟩; rw [Int.zero_mul, Int.zero_add, fit_in (by unfold sg; split <;> omega) (by unfold sg; split <;> omega)] at Sg; have HS := Lib.hid Sg; clear Sg; have v00 : (0 : Int) ≤ (val L : Int) := by omega
          have v01 : (val L : Int) ≤ 9223372036854775807 := by omega
          generalize (val L : Int) = V at *; go_wp2_with fail; refine (HS.out _).mono ?_; rintro e w' ⟨rfl, rfl⟩; go_wp2_with fail; go_ret2; exact ⟨ret_ii (by rw [E2.out]) (by rw [E2.out]), kpt⟩
        · omega
set_option maxHeartbeats 800000 in
set_option maxRecDepth 100000 in
theorem parse_v1_pos (m wh r : List UInt8) (c : UInt8) (n : Nat) (w : World) (hs : m.length ≤ 2000) (hn : nd m = n) (t1 : m.take n = wh) (t2 : m.drop n = c :: r) (hb : ∀ h, ((((ByteArray.mk m.toArray)[0]'h).toNat : Int) == 45) = false) (hl0 : 0 < m.length) (n0 : 0 < n) (hr : 0 < r.length) (hc : c = 46) (hd : nd r = r.length) (q p4 L : List UInt8) (yq : r ++ [48, 48, 48, 48, 48] = q) (lq : q.length = r.length + 5) (yp : q.take 4 = p4) (yl : wh ++ p4 = L) (hl : L.length = n + 4) (lw : wh.length = n) (lp4 : p4.length = 4) (f : Nat) (q4 : ∀ h, (((ByteArray.mk q.toArray)[4]'h).toNat : Int) = f) (f5 : 53 ≤ f) (A : ∀ c ∈ L, isD c = true) (E : Hid (Lv.read false m = if (val L : Int) + 1 ≤ 9223372036854775807 then (sg false ((val L : Int) + 1), 0) else (0, 3))) :
    Calls Try.prog 17 #[.string ⟨m.toArray⟩] w fun e w' => e = .returned (.tuple #[.int .i64 (Lv.read false m).1, .int .i64 (Lv.read false m).2]) ∧ Kept w w' := by
  have X := ba_extract; have Z := ba_size; have Y := ba_append; have D := fun w => digits_any ⟨m.toArray⟩ w (by rw [ba_size]; omega); rw [show nd (ByteArray.mk m.toArray).data.toList = n from hn] at D; have HD := Lib.hid D; have HN := Lib.hid hn; clear D hn; have lp : (0 : Int) < (m.length : Int) := by omega
  have b0 := fun h => hb h; have n1 : n ≤ m.length := by have := nd_le m; rw [HN.out] at this; exact this
  have nz : ((n : Int) == 0) = false := by rw [beq_eq_false_iff_ne]; omega
  have c0 : ((((ByteArray.mk (c :: r).toArray)[0]'(by rw [ba_size]; simp)).toNat : Int) == 46) = true := by rw [hc]; rfl
  have rl : r.length ≤ 2000 := by have := congrArg List.length t2; simp at this; omega
  have D2 := fun w => digits_any ⟨r.toArray⟩ w (by rw [ba_size]; omega); rw [show nd (ByteArray.mk r.toArray).data.toList = r.length from hd] at D2; have HD2 := Lib.hid D2; clear hc hd D2; have AD := all_digits A; clear A; go_enter Try.func17, Try.ntmps17; go_wp2_with fail; refine (HD.out _).mono ?_; rintro e w' ⟨rfl, rfl⟩; go_wp2_with fail
  go_region
  go_wp2_with fail; refine (HD2.out _).mono ?_; rintro e w' ⟨rfl, rfl⟩; have CV := conv_bytes; go_wp2_with fail; have HC := Lib.hid (bytes_cells w.drew L); have HK : Kept w (Lib.bytesWorld w.drew 5 ⟨L.toArray⟩) := Kept.trans ((Kept.refl w).drew) (bytes_kept _ _ _); generalize Lib.bytesWorld w.drew 5 ⟨L.toArray⟩ = wb at *; clear CV
  go_loop [9, 10, 67] (fun x y i => ∃ (k : Nat) (v : Int), k ≤ L.length ∧ i = .int .i64 k ∧ x = .int .u64 v ∧ 0 ≤ v ∧ v ≤ 18446744073709551615 ∧ y = .bool (decide (9223372036854775807 < val (L.take k))) ∧ (val (L.take k) ≤ 9223372036854775807 → v = val (L.take k))) (fun _ _ i => L.length - (intOf i).toNat)
  case atStart => exact ⟨0, 0, by omega, rfl, rfl, by omega, by omega, by simp [val], by simp [val]⟩
  case round =>
    obtain ⟨k, v, hk, rfl, rfl, v0, v1, rfl, hv⟩ := hrel; have HV := Lib.hid hv; clear hv
    by_cases c : k < L.length
    · have cell := HC.out k c
      have ad := AD.out k c; obtain ⟨a1, a2⟩ := ad; have vt := val_take c; obtain ⟨d, hd⟩ : ∃ d : Nat, d = L[k].toNat := ⟨_, rfl⟩; rw [← hd] at cell a1 a2 vt; clear hd; have VT := Lib.hid vt; have wo : (wb.cell? ⟨w.heap.size, k, none⟩) = some (.int .u8 d) := cell
      by_cases g : 9223372036854775807 < val (L.take k)
      · have G : Hid (9223372036854775807 < val (L.take (k + 1))) := by show _ < _; omega
        rw [decide_eq_true g]; clear g vt cell
        by_cases vb : 922337203685477580 < v
        · go_wp2_with fail
          go_round
          case rel => exact ⟨k + 1, _, by omega, by go_num, rfl, by (first | exact wrap_u64_0 _ | omega), by (first | exact wrap_u64_1 _ | omega), by rw [decide_eq_true G.out], fun h => absurd h (by have := G.out; omega)⟩
          case measure => simp [intOf]; omega
        · go_wp2_with fail
          go_round
          case rel => exact ⟨k + 1, _, by omega, by go_num, rfl, by (first | exact wrap_u64_0 _ | omega), by (first | exact wrap_u64_1 _ | omega), by rw [decide_eq_true G.out], fun h => absurd h (by have := G.out; omega)⟩
          case measure => simp [intOf]; omega
      · obtain rfl : v = (val (L.take k) : Int) := HV.out (by omega)
        rw [decide_eq_false g]; clear cell; generalize val (L.take k) = V at *
        by_cases vb : 922337203685477580 < V
        · have G : Hid (9223372036854775807 < val (L.take (k + 1))) := by show _ < _; omega
          clear vt; go_wp2_with fail
          go_round
          case rel => exact ⟨k + 1, _, by omega, by go_num, rfl, by (first | exact wrap_u64_0 _ | omega), by (first | exact wrap_u64_1 _ | omega), by rw [decide_eq_true G.out], fun h => absurd h (by have := G.out; omega)⟩
          case measure => simp [intOf]; omega
        · have G1 : Hid (val (L.take (k + 1)) = 10 * V + (d - 48)) := vt
          clear vt
          by_cases vc : 9223372036854775807 < 10 * V + (d - 48)
          · go_wp2_with fail
            go_round
            case rel => exact ⟨k + 1, ((10 * V + (d - 48) : Nat) : Int), by omega, by go_num, by congr 1; omega, by omega, by omega, by rw [G1.out, decide_eq_true vc]; first | rfl | exact congrArg Value.bool (decide_eq_true (by omega)), fun _ => by rw [G1.out]⟩
            case measure => simp [intOf]; omega
          · go_wp2_with fail
            go_round
            case rel => exact ⟨k + 1, ((10 * V + (d - 48) : Nat) : Int), by omega, by go_num, by congr 1; omega, by omega, by omega, by rw [G1.out, decide_eq_false vc]; first | rfl | exact congrArg Value.bool (decide_eq_false (by omega)), fun _ => by rw [G1.out]⟩
            case measure => simp [intOf]; omega
    · obtain rfl : k = L.length := by omega
      rw [List.take_length] at HV; rw [List.take_length]
      by_cases g : 9223372036854775807 < val L
      · have E2 : Hid (Lv.read false m = (0, 3)) := by rw [E.out, if_neg (by omega)]; rfl
        rw [decide_eq_true g]; clear g; go_wp2_with fail; go_ret2; exact ⟨ret_ii (by rw [E2.out]) (by rw [E2.out]), kpt⟩
      · obtain rfl : v = (val L : Int) := HV.out (by omega)
        rw [decide_eq_false g]
        by_cases g2 : (val L : Int) + 1 ≤ 9223372036854775807
        · have E2 : Hid (Lv.read false m = (sg false ((val L : Int) + 1), 0)) := by rw [E.out, if_pos (by omega)]; rfl
          have Sg := fun w => signed_any 0 ((val L : Int) + 1) false w ⟨by omega, by omega⟩ ⟨by omega, by omega⟩; rw [Int.zero_mul, Int.zero_add, fit_in (by unfold sg; split <;> omega) (by unfold sg; split <;> omega)] at Sg; have HS := Lib.hid Sg; clear Sg; have v00 : (0 : Int) ≤ (val L : Int) := by omega
          have v01 : (val L : Int) ≤ 9223372036854775807 := by omega
          generalize (val L : Int) = V at *; go_wp2_with fail; refine (HS.out _).mono ?_; rintro e w' ⟨rfl, rfl⟩; go_wp2_with fail; go_ret2; exact ⟨ret_ii (by rw [E2.out]) (by rw [E2.out]), kpt⟩
        · have E2 : Hid (Lv.read false m = (0, 3)) := by rw [E.out, if_neg (by omega)]; rfl
          have v00 : (0 : Int) ≤ (val L : Int) := by omega
          have v01 : (val L : Int) ≤ 9223372036854775807 := by omega
          generalize (val L : Int) = V at *; go_wp2_with fail; go_ret2; exact ⟨ret_ii (by rw [E2.out]) (by rw [E2.out]), kpt⟩
end Go.Proofs.Ytbgpbopnfodjoaa
