/- Layer 1: Parse on each kind of text (printed by wip/mkparse.py). -/
import Derived.Test.YtingopdeckgpaaaWParse
namespace Go.Proofs.Ytingopdeckgpaaa
set_option linter.unusedVariables false
set_option linter.unusedSimpArgs false
open Go.RowKit Lv

theorem frac_one (c : UInt8) : frac [c] = none := if_neg (fun h => h.2.1 rfl)
theorem frac_no {c : UInt8} {r : List UInt8} (h : c ≠ 46) : frac (c :: r) = none := if_neg (fun x => h x.1)
theorem frac_bad {c : UInt8} {r : List UInt8} (h : nd r ≠ r.length) : frac (c :: r) = none := if_neg (fun x => h x.2.2)
theorem frac_some {r : List UInt8} (h0 : 0 < r.length) (h : nd r = r.length) : frac (46 :: r) = some r := if_pos ⟨rfl, by intro e; subst e; simp at h0, h⟩

set_option maxHeartbeats 800000 in
set_option maxRecDepth 100000 in
theorem parse_a0_neg (m wh r : List UInt8) (c : UInt8) (n : Nat) (w : World) (hs : m.length ≤ 2000) (hn : nd m = n) (t1 : m.take n = wh) (t2 : m.drop n = [c]) (n0 : Hid (n = 0)) :
    Calls Try.prog 42 #[.string ⟨(45 :: m).toArray⟩] w fun e w' => e = .returned (.tuple #[.int .i64 (Lv.read true m).1, .int .i64 (Lv.read true m).2]) ∧ Kept w w' := by
  have X := ba_extract
  have Z := ba_size
  have Y := ba_append
  have D := fun w => digits_any ⟨m.toArray⟩ w (by rw [ba_size]; omega)
  rw [show nd (ByteArray.mk m.toArray).data.toList = n from hn] at D
  have HD := Lib.hid D
  have HN := Lib.hid hn
  clear D hn
  have lp : (0 : Int) < ((45 :: m).length : Int) := by simp
  have b0 : (((ByteArray.mk (45 :: m).toArray)[0]'(by rw [ba_size]; simp)).toNat : Int) = 45 := rfl
  have n1 : n ≤ m.length := by have := nd_le m; rw [HN.out] at this; exact this
  have nz : ((n : Int) == 0) = true := by rw [n0.out]; rfl
  have E : Hid (Lv.read true m = (0, 4)) := by
    show _ = _
    unfold Lv.read
    rw [HN.out]
    rw [if_pos n0.out]
  go_enter Try.func42, Try.ntmps42
  go_wp2_with fail
  refine (HD.out _).mono ?_
  rintro e w' ⟨rfl, rfl⟩
  go_wp2_with fail
  go_region
  go_wp2_with fail
  go_ret2
  exact ⟨ret_ii (by rw [E.out]) (by rw [E.out]), (by repeat (first | with_reducible exact Kept.refl _ | with_reducible apply Kept.drew | with_reducible apply Kept.drewN | with_reducible apply Kept.alloc | (with_reducible refine Kept.setCellX ?_ ?_ _; focus (first | (simp; done) | (simp; omega))) | (with_reducible refine Kept.trans ?_ (by assumption))))⟩

set_option maxHeartbeats 800000 in
set_option maxRecDepth 100000 in
theorem parse_b0_neg (m wh r : List UInt8) (c : UInt8) (n : Nat) (w : World) (hs : m.length ≤ 2000) (hn : nd m = n) (t1 : m.take n = wh) (t2 : m.drop n = c :: r) (n0 : Hid (n = 0)) (hr : 0 < r.length) (hc : c ≠ 46) :
    Calls Try.prog 42 #[.string ⟨(45 :: m).toArray⟩] w fun e w' => e = .returned (.tuple #[.int .i64 (Lv.read true m).1, .int .i64 (Lv.read true m).2]) ∧ Kept w w' := by
  have X := ba_extract
  have Z := ba_size
  have Y := ba_append
  have D := fun w => digits_any ⟨m.toArray⟩ w (by rw [ba_size]; omega)
  rw [show nd (ByteArray.mk m.toArray).data.toList = n from hn] at D
  have HD := Lib.hid D
  have HN := Lib.hid hn
  clear D hn
  have lp : (0 : Int) < ((45 :: m).length : Int) := by simp
  have b0 : (((ByteArray.mk (45 :: m).toArray)[0]'(by rw [ba_size]; simp)).toNat : Int) = 45 := rfl
  have n1 : n ≤ m.length := by have := nd_le m; rw [HN.out] at this; exact this
  have nz : ((n : Int) == 0) = true := by rw [n0.out]; rfl
  have c0 : ((((ByteArray.mk (c :: r).toArray)[0]'(by rw [ba_size]; simp)).toNat : Int) == 46) = false := by rw [beq_eq_false_iff_ne]; intro h; apply hc; apply UInt8.toNat_inj.1; show c.toNat = 46; exact Int.ofNat_inj.1 h
  have E : Hid (Lv.read true m = (0, 4)) := by
    show _ = _
    unfold Lv.read
    rw [HN.out]
    rw [if_pos n0.out]
  clear hc
  go_enter Try.func42, Try.ntmps42
  go_wp2_with fail
  refine (HD.out _).mono ?_
  rintro e w' ⟨rfl, rfl⟩
  go_wp2_with fail
  go_region
  go_wp2_with fail
  go_ret2
  exact ⟨ret_ii (by rw [E.out]) (by rw [E.out]), (by repeat (first | with_reducible exact Kept.refl _ | with_reducible apply Kept.drew | with_reducible apply Kept.drewN | with_reducible apply Kept.alloc | (with_reducible refine Kept.setCellX ?_ ?_ _; focus (first | (simp; done) | (simp; omega))) | (with_reducible refine Kept.trans ?_ (by assumption))))⟩

set_option maxHeartbeats 800000 in
set_option maxRecDepth 100000 in
theorem parse_c0_neg (m wh r : List UInt8) (c : UInt8) (n : Nat) (w : World) (hs : m.length ≤ 2000) (hn : nd m = n) (t1 : m.take n = wh) (t2 : m.drop n = c :: r) (n0 : Hid (n = 0)) (hr : 0 < r.length) (hc : c = 46) (hd : nd r ≠ r.length) :
    Calls Try.prog 42 #[.string ⟨(45 :: m).toArray⟩] w fun e w' => e = .returned (.tuple #[.int .i64 (Lv.read true m).1, .int .i64 (Lv.read true m).2]) ∧ Kept w w' := by
  have X := ba_extract
  have Z := ba_size
  have Y := ba_append
  have D := fun w => digits_any ⟨m.toArray⟩ w (by rw [ba_size]; omega)
  rw [show nd (ByteArray.mk m.toArray).data.toList = n from hn] at D
  have HD := Lib.hid D
  have HN := Lib.hid hn
  clear D hn
  have lp : (0 : Int) < ((45 :: m).length : Int) := by simp
  have b0 : (((ByteArray.mk (45 :: m).toArray)[0]'(by rw [ba_size]; simp)).toNat : Int) = 45 := rfl
  have n1 : n ≤ m.length := by have := nd_le m; rw [HN.out] at this; exact this
  have nz : ((n : Int) == 0) = true := by rw [n0.out]; rfl
  have c0 : ((((ByteArray.mk (c :: r).toArray)[0]'(by rw [ba_size]; simp)).toNat : Int) == 46) = true := by rw [hc]; rfl
  have E : Hid (Lv.read true m = (0, 4)) := by
    show _ = _
    unfold Lv.read
    rw [HN.out]
    rw [if_pos n0.out]
  have rl : r.length ≤ 2000 := by have := congrArg List.length t2; simp at this; omega
  have D2 := fun w => digits_any ⟨r.toArray⟩ w (by rw [ba_size]; omega)
  rw [show nd (ByteArray.mk r.toArray).data.toList = nd r from rfl] at D2
  have HD2 := Lib.hid D2
  have de : ((nd r : Int) == (r.length : Int)) = false := by rw [beq_eq_false_iff_ne]; omega
  clear hc hd D2
  generalize nd r = k at *
  go_enter Try.func42, Try.ntmps42
  go_wp2_with fail
  refine (HD.out _).mono ?_
  rintro e w' ⟨rfl, rfl⟩
  go_wp2_with fail
  go_region
  go_wp2_with fail
  refine (HD2.out _).mono ?_
  rintro e w' ⟨rfl, rfl⟩
  go_wp2_with fail
  go_ret2
  exact ⟨ret_ii (by rw [E.out]) (by rw [E.out]), (by repeat (first | with_reducible exact Kept.refl _ | with_reducible apply Kept.drew | with_reducible apply Kept.drewN | with_reducible apply Kept.alloc | (with_reducible refine Kept.setCellX ?_ ?_ _; focus (first | (simp; done) | (simp; omega))) | (with_reducible refine Kept.trans ?_ (by assumption))))⟩

set_option maxHeartbeats 800000 in
set_option maxRecDepth 100000 in
theorem parse_a1_neg (m wh r : List UInt8) (c : UInt8) (n : Nat) (w : World) (hs : m.length ≤ 2000) (hn : nd m = n) (t1 : m.take n = wh) (t2 : m.drop n = [c]) (n0 : 0 < n) :
    Calls Try.prog 42 #[.string ⟨(45 :: m).toArray⟩] w fun e w' => e = .returned (.tuple #[.int .i64 (Lv.read true m).1, .int .i64 (Lv.read true m).2]) ∧ Kept w w' := by
  have X := ba_extract
  have Z := ba_size
  have Y := ba_append
  have D := fun w => digits_any ⟨m.toArray⟩ w (by rw [ba_size]; omega)
  rw [show nd (ByteArray.mk m.toArray).data.toList = n from hn] at D
  have HD := Lib.hid D
  have HN := Lib.hid hn
  clear D hn
  have lp : (0 : Int) < ((45 :: m).length : Int) := by simp
  have b0 : (((ByteArray.mk (45 :: m).toArray)[0]'(by rw [ba_size]; simp)).toNat : Int) = 45 := rfl
  have n1 : n ≤ m.length := by have := nd_le m; rw [HN.out] at this; exact this
  have nz : ((n : Int) == 0) = false := by rw [beq_eq_false_iff_ne]; omega
  have E : Hid (Lv.read true m = (0, 4)) := by
    show _ = _
    unfold Lv.read
    rw [HN.out]
    rw [if_neg (by omega), t2, frac_one]
  go_enter Try.func42, Try.ntmps42
  go_wp2_with fail
  refine (HD.out _).mono ?_
  rintro e w' ⟨rfl, rfl⟩
  go_wp2_with fail
  go_region
  go_wp2_with fail
  go_ret2
  exact ⟨ret_ii (by rw [E.out]) (by rw [E.out]), (by repeat (first | with_reducible exact Kept.refl _ | with_reducible apply Kept.drew | with_reducible apply Kept.drewN | with_reducible apply Kept.alloc | (with_reducible refine Kept.setCellX ?_ ?_ _; focus (first | (simp; done) | (simp; omega))) | (with_reducible refine Kept.trans ?_ (by assumption))))⟩

set_option maxHeartbeats 800000 in
set_option maxRecDepth 100000 in
theorem parse_b1_neg (m wh r : List UInt8) (c : UInt8) (n : Nat) (w : World) (hs : m.length ≤ 2000) (hn : nd m = n) (t1 : m.take n = wh) (t2 : m.drop n = c :: r) (n0 : 0 < n) (hr : 0 < r.length) (hc : c ≠ 46) :
    Calls Try.prog 42 #[.string ⟨(45 :: m).toArray⟩] w fun e w' => e = .returned (.tuple #[.int .i64 (Lv.read true m).1, .int .i64 (Lv.read true m).2]) ∧ Kept w w' := by
  have X := ba_extract
  have Z := ba_size
  have Y := ba_append
  have D := fun w => digits_any ⟨m.toArray⟩ w (by rw [ba_size]; omega)
  rw [show nd (ByteArray.mk m.toArray).data.toList = n from hn] at D
  have HD := Lib.hid D
  have HN := Lib.hid hn
  clear D hn
  have lp : (0 : Int) < ((45 :: m).length : Int) := by simp
  have b0 : (((ByteArray.mk (45 :: m).toArray)[0]'(by rw [ba_size]; simp)).toNat : Int) = 45 := rfl
  have n1 : n ≤ m.length := by have := nd_le m; rw [HN.out] at this; exact this
  have nz : ((n : Int) == 0) = false := by rw [beq_eq_false_iff_ne]; omega
  have c0 : ((((ByteArray.mk (c :: r).toArray)[0]'(by rw [ba_size]; simp)).toNat : Int) == 46) = false := by rw [beq_eq_false_iff_ne]; intro h; apply hc; apply UInt8.toNat_inj.1; show c.toNat = 46; exact Int.ofNat_inj.1 h
  have E : Hid (Lv.read true m = (0, 4)) := by
    show _ = _
    unfold Lv.read
    rw [HN.out]
    rw [if_neg (by omega), t2, frac_no hc]
  clear hc
  go_enter Try.func42, Try.ntmps42
  go_wp2_with fail
  refine (HD.out _).mono ?_
  rintro e w' ⟨rfl, rfl⟩
  go_wp2_with fail
  go_region
  go_wp2_with fail
  go_ret2
  exact ⟨ret_ii (by rw [E.out]) (by rw [E.out]), (by repeat (first | with_reducible exact Kept.refl _ | with_reducible apply Kept.drew | with_reducible apply Kept.drewN | with_reducible apply Kept.alloc | (with_reducible refine Kept.setCellX ?_ ?_ _; focus (first | (simp; done) | (simp; omega))) | (with_reducible refine Kept.trans ?_ (by assumption))))⟩

set_option maxHeartbeats 800000 in
set_option maxRecDepth 100000 in
theorem parse_c1_neg (m wh r : List UInt8) (c : UInt8) (n : Nat) (w : World) (hs : m.length ≤ 2000) (hn : nd m = n) (t1 : m.take n = wh) (t2 : m.drop n = c :: r) (n0 : 0 < n) (hr : 0 < r.length) (hc : c = 46) (hd : nd r ≠ r.length) :
    Calls Try.prog 42 #[.string ⟨(45 :: m).toArray⟩] w fun e w' => e = .returned (.tuple #[.int .i64 (Lv.read true m).1, .int .i64 (Lv.read true m).2]) ∧ Kept w w' := by
  have X := ba_extract
  have Z := ba_size
  have Y := ba_append
  have D := fun w => digits_any ⟨m.toArray⟩ w (by rw [ba_size]; omega)
  rw [show nd (ByteArray.mk m.toArray).data.toList = n from hn] at D
  have HD := Lib.hid D
  have HN := Lib.hid hn
  clear D hn
  have lp : (0 : Int) < ((45 :: m).length : Int) := by simp
  have b0 : (((ByteArray.mk (45 :: m).toArray)[0]'(by rw [ba_size]; simp)).toNat : Int) = 45 := rfl
  have n1 : n ≤ m.length := by have := nd_le m; rw [HN.out] at this; exact this
  have nz : ((n : Int) == 0) = false := by rw [beq_eq_false_iff_ne]; omega
  have c0 : ((((ByteArray.mk (c :: r).toArray)[0]'(by rw [ba_size]; simp)).toNat : Int) == 46) = true := by rw [hc]; rfl
  have E : Hid (Lv.read true m = (0, 4)) := by
    show _ = _
    unfold Lv.read
    rw [HN.out]
    rw [if_neg (by omega), t2, frac_bad hd]
  have rl : r.length ≤ 2000 := by have := congrArg List.length t2; simp at this; omega
  have D2 := fun w => digits_any ⟨r.toArray⟩ w (by rw [ba_size]; omega)
  rw [show nd (ByteArray.mk r.toArray).data.toList = nd r from rfl] at D2
  have HD2 := Lib.hid D2
  have de : ((nd r : Int) == (r.length : Int)) = false := by rw [beq_eq_false_iff_ne]; omega
  clear hc hd D2
  generalize nd r = k at *
  go_enter Try.func42, Try.ntmps42
  go_wp2_with fail
  refine (HD.out _).mono ?_
  rintro e w' ⟨rfl, rfl⟩
  go_wp2_with fail
  go_region
  go_wp2_with fail
  refine (HD2.out _).mono ?_
  rintro e w' ⟨rfl, rfl⟩
  go_wp2_with fail
  go_ret2
  exact ⟨ret_ii (by rw [E.out]) (by rw [E.out]), (by repeat (first | with_reducible exact Kept.refl _ | with_reducible apply Kept.drew | with_reducible apply Kept.drewN | with_reducible apply Kept.alloc | (with_reducible refine Kept.setCellX ?_ ?_ _; focus (first | (simp; done) | (simp; omega))) | (with_reducible refine Kept.trans ?_ (by assumption))))⟩

set_option maxHeartbeats 800000 in
set_option maxRecDepth 100000 in
theorem parse_d_neg (m wh r : List UInt8) (c : UInt8) (n : Nat) (w : World) (hs : m.length ≤ 2000) (hn : nd m = n) (t1 : m.take n = wh) (t2 : m.drop n = c :: r) (n0 : Hid (n = 0)) (hr : 0 < r.length) (hc : c = 46) (hd : nd r = r.length) :
    Calls Try.prog 42 #[.string ⟨(45 :: m).toArray⟩] w fun e w' => e = .returned (.tuple #[.int .i64 (Lv.read true m).1, .int .i64 (Lv.read true m).2]) ∧ Kept w w' := by
  have X := ba_extract
  have Z := ba_size
  have Y := ba_append
  have D := fun w => digits_any ⟨m.toArray⟩ w (by rw [ba_size]; omega)
  rw [show nd (ByteArray.mk m.toArray).data.toList = n from hn] at D
  have HD := Lib.hid D
  have HN := Lib.hid hn
  clear D hn
  have lp : (0 : Int) < ((45 :: m).length : Int) := by simp
  have b0 : (((ByteArray.mk (45 :: m).toArray)[0]'(by rw [ba_size]; simp)).toNat : Int) = 45 := rfl
  have n1 : n ≤ m.length := by have := nd_le m; rw [HN.out] at this; exact this
  have nz : ((n : Int) == 0) = true := by rw [n0.out]; rfl
  have c0 : ((((ByteArray.mk (c :: r).toArray)[0]'(by rw [ba_size]; simp)).toNat : Int) == 46) = true := by rw [hc]; rfl
  have E : Hid (Lv.read true m = (0, 4)) := by
    show _ = _
    unfold Lv.read
    rw [HN.out]
    rw [if_pos n0.out]
  have rl : r.length ≤ 2000 := by have := congrArg List.length t2; simp at this; omega
  have D2 := fun w => digits_any ⟨r.toArray⟩ w (by rw [ba_size]; omega)
  rw [show nd (ByteArray.mk r.toArray).data.toList = r.length from hd] at D2
  have HD2 := Lib.hid D2
  clear hc hd D2
  go_enter Try.func42, Try.ntmps42
  go_wp2_with fail
  refine (HD.out _).mono ?_
  rintro e w' ⟨rfl, rfl⟩
  go_wp2_with fail
  go_region
  go_wp2_with fail
  refine (HD2.out _).mono ?_
  rintro e w' ⟨rfl, rfl⟩
  go_wp2_with fail
  go_ret2
  exact ⟨ret_ii (by rw [E.out]) (by rw [E.out]), (by repeat (first | with_reducible exact Kept.refl _ | with_reducible apply Kept.drew | with_reducible apply Kept.drewN | with_reducible apply Kept.alloc | (with_reducible refine Kept.setCellX ?_ ?_ _; focus (first | (simp; done) | (simp; omega))) | (with_reducible refine Kept.trans ?_ (by assumption))))⟩

set_option maxHeartbeats 800000 in
set_option maxRecDepth 100000 in
theorem parse_a0_pos (m wh r : List UInt8) (c : UInt8) (n : Nat) (w : World) (hs : m.length ≤ 2000) (hn : nd m = n) (t1 : m.take n = wh) (t2 : m.drop n = [c]) (hb : ∀ h, ((((ByteArray.mk m.toArray)[0]'h).toNat : Int) == 45) = false) (hl0 : 0 < m.length) (n0 : Hid (n = 0)) :
    Calls Try.prog 42 #[.string ⟨m.toArray⟩] w fun e w' => e = .returned (.tuple #[.int .i64 (Lv.read false m).1, .int .i64 (Lv.read false m).2]) ∧ Kept w w' := by
  have X := ba_extract
  have Z := ba_size
  have Y := ba_append
  have D := fun w => digits_any ⟨m.toArray⟩ w (by rw [ba_size]; omega)
  rw [show nd (ByteArray.mk m.toArray).data.toList = n from hn] at D
  have HD := Lib.hid D
  have HN := Lib.hid hn
  clear D hn
  have lp : (0 : Int) < (m.length : Int) := by omega
  have b0 := fun h => hb h
  have n1 : n ≤ m.length := by have := nd_le m; rw [HN.out] at this; exact this
  have nz : ((n : Int) == 0) = true := by rw [n0.out]; rfl
  have E : Hid (Lv.read false m = (0, 4)) := by
    show _ = _
    unfold Lv.read
    rw [HN.out]
    rw [if_pos n0.out]
  go_enter Try.func42, Try.ntmps42
  go_wp2_with fail
  refine (HD.out _).mono ?_
  rintro e w' ⟨rfl, rfl⟩
  go_wp2_with fail
  go_region
  go_wp2_with fail
  go_ret2
  exact ⟨ret_ii (by rw [E.out]) (by rw [E.out]), (by repeat (first | with_reducible exact Kept.refl _ | with_reducible apply Kept.drew | with_reducible apply Kept.drewN | with_reducible apply Kept.alloc | (with_reducible refine Kept.setCellX ?_ ?_ _; focus (first | (simp; done) | (simp; omega))) | (with_reducible refine Kept.trans ?_ (by assumption))))⟩

set_option maxHeartbeats 800000 in
set_option maxRecDepth 100000 in
theorem parse_b0_pos (m wh r : List UInt8) (c : UInt8) (n : Nat) (w : World) (hs : m.length ≤ 2000) (hn : nd m = n) (t1 : m.take n = wh) (t2 : m.drop n = c :: r) (hb : ∀ h, ((((ByteArray.mk m.toArray)[0]'h).toNat : Int) == 45) = false) (hl0 : 0 < m.length) (n0 : Hid (n = 0)) (hr : 0 < r.length) (hc : c ≠ 46) :
    Calls Try.prog 42 #[.string ⟨m.toArray⟩] w fun e w' => e = .returned (.tuple #[.int .i64 (Lv.read false m).1, .int .i64 (Lv.read false m).2]) ∧ Kept w w' := by
  have X := ba_extract
  have Z := ba_size
  have Y := ba_append
  have D := fun w => digits_any ⟨m.toArray⟩ w (by rw [ba_size]; omega)
  rw [show nd (ByteArray.mk m.toArray).data.toList = n from hn] at D
  have HD := Lib.hid D
  have HN := Lib.hid hn
  clear D hn
  have lp : (0 : Int) < (m.length : Int) := by omega
  have b0 := fun h => hb h
  have n1 : n ≤ m.length := by have := nd_le m; rw [HN.out] at this; exact this
  have nz : ((n : Int) == 0) = true := by rw [n0.out]; rfl
  have c0 : ((((ByteArray.mk (c :: r).toArray)[0]'(by rw [ba_size]; simp)).toNat : Int) == 46) = false := by rw [beq_eq_false_iff_ne]; intro h; apply hc; apply UInt8.toNat_inj.1; show c.toNat = 46; exact Int.ofNat_inj.1 h
  have E : Hid (Lv.read false m = (0, 4)) := by
    show _ = _
    unfold Lv.read
    rw [HN.out]
    rw [if_pos n0.out]
  clear hc
  go_enter Try.func42, Try.ntmps42
  go_wp2_with fail
  refine (HD.out _).mono ?_
  rintro e w' ⟨rfl, rfl⟩
  go_wp2_with fail
  go_region
  go_wp2_with fail
  go_ret2
  exact ⟨ret_ii (by rw [E.out]) (by rw [E.out]), (by repeat (first | with_reducible exact Kept.refl _ | with_reducible apply Kept.drew | with_reducible apply Kept.drewN | with_reducible apply Kept.alloc | (with_reducible refine Kept.setCellX ?_ ?_ _; focus (first | (simp; done) | (simp; omega))) | (with_reducible refine Kept.trans ?_ (by assumption))))⟩

set_option maxHeartbeats 800000 in
set_option maxRecDepth 100000 in
theorem parse_c0_pos (m wh r : List UInt8) (c : UInt8) (n : Nat) (w : World) (hs : m.length ≤ 2000) (hn : nd m = n) (t1 : m.take n = wh) (t2 : m.drop n = c :: r) (hb : ∀ h, ((((ByteArray.mk m.toArray)[0]'h).toNat : Int) == 45) = false) (hl0 : 0 < m.length) (n0 : Hid (n = 0)) (hr : 0 < r.length) (hc : c = 46) (hd : nd r ≠ r.length) :
    Calls Try.prog 42 #[.string ⟨m.toArray⟩] w fun e w' => e = .returned (.tuple #[.int .i64 (Lv.read false m).1, .int .i64 (Lv.read false m).2]) ∧ Kept w w' := by
  have X := ba_extract
  have Z := ba_size
  have Y := ba_append
  have D := fun w => digits_any ⟨m.toArray⟩ w (by rw [ba_size]; omega)
  rw [show nd (ByteArray.mk m.toArray).data.toList = n from hn] at D
  have HD := Lib.hid D
  have HN := Lib.hid hn
  clear D hn
  have lp : (0 : Int) < (m.length : Int) := by omega
  have b0 := fun h => hb h
  have n1 : n ≤ m.length := by have := nd_le m; rw [HN.out] at this; exact this
  have nz : ((n : Int) == 0) = true := by rw [n0.out]; rfl
  have c0 : ((((ByteArray.mk (c :: r).toArray)[0]'(by rw [ba_size]; simp)).toNat : Int) == 46) = true := by rw [hc]; rfl
  have E : Hid (Lv.read false m = (0, 4)) := by
    show _ = _
    unfold Lv.read
    rw [HN.out]
    rw [if_pos n0.out]
  have rl : r.length ≤ 2000 := by have := congrArg List.length t2; simp at this; omega
  have D2 := fun w => digits_any ⟨r.toArray⟩ w (by rw [ba_size]; omega)
  rw [show nd (ByteArray.mk r.toArray).data.toList = nd r from rfl] at D2
  have HD2 := Lib.hid D2
  have de : ((nd r : Int) == (r.length : Int)) = false := by rw [beq_eq_false_iff_ne]; omega
  clear hc hd D2
  generalize nd r = k at *
  go_enter Try.func42, Try.ntmps42
  go_wp2_with fail
  refine (HD.out _).mono ?_
  rintro e w' ⟨rfl, rfl⟩
  go_wp2_with fail
  go_region
  go_wp2_with fail
  refine (HD2.out _).mono ?_
  rintro e w' ⟨rfl, rfl⟩
  go_wp2_with fail
  go_ret2
  exact ⟨ret_ii (by rw [E.out]) (by rw [E.out]), (by repeat (first | with_reducible exact Kept.refl _ | with_reducible apply Kept.drew | with_reducible apply Kept.drewN | with_reducible apply Kept.alloc | (with_reducible refine Kept.setCellX ?_ ?_ _; focus (first | (simp; done) | (simp; omega))) | (with_reducible refine Kept.trans ?_ (by assumption))))⟩

set_option maxHeartbeats 800000 in
set_option maxRecDepth 100000 in
theorem parse_a1_pos (m wh r : List UInt8) (c : UInt8) (n : Nat) (w : World) (hs : m.length ≤ 2000) (hn : nd m = n) (t1 : m.take n = wh) (t2 : m.drop n = [c]) (hb : ∀ h, ((((ByteArray.mk m.toArray)[0]'h).toNat : Int) == 45) = false) (hl0 : 0 < m.length) (n0 : 0 < n) :
    Calls Try.prog 42 #[.string ⟨m.toArray⟩] w fun e w' => e = .returned (.tuple #[.int .i64 (Lv.read false m).1, .int .i64 (Lv.read false m).2]) ∧ Kept w w' := by
  have X := ba_extract
  have Z := ba_size
  have Y := ba_append
  have D := fun w => digits_any ⟨m.toArray⟩ w (by rw [ba_size]; omega)
  rw [show nd (ByteArray.mk m.toArray).data.toList = n from hn] at D
  have HD := Lib.hid D
  have HN := Lib.hid hn
  clear D hn
  have lp : (0 : Int) < (m.length : Int) := by omega
  have b0 := fun h => hb h
  have n1 : n ≤ m.length := by have := nd_le m; rw [HN.out] at this; exact this
  have nz : ((n : Int) == 0) = false := by rw [beq_eq_false_iff_ne]; omega
  have E : Hid (Lv.read false m = (0, 4)) := by
    show _ = _
    unfold Lv.read
    rw [HN.out]
    rw [if_neg (by omega), t2, frac_one]
  go_enter Try.func42, Try.ntmps42
  go_wp2_with fail
  refine (HD.out _).mono ?_
  rintro e w' ⟨rfl, rfl⟩
  go_wp2_with fail
  go_region
  go_wp2_with fail
  go_ret2
  exact ⟨ret_ii (by rw [E.out]) (by rw [E.out]), (by repeat (first | with_reducible exact Kept.refl _ | with_reducible apply Kept.drew | with_reducible apply Kept.drewN | with_reducible apply Kept.alloc | (with_reducible refine Kept.setCellX ?_ ?_ _; focus (first | (simp; done) | (simp; omega))) | (with_reducible refine Kept.trans ?_ (by assumption))))⟩

set_option maxHeartbeats 800000 in
set_option maxRecDepth 100000 in
theorem parse_b1_pos (m wh r : List UInt8) (c : UInt8) (n : Nat) (w : World) (hs : m.length ≤ 2000) (hn : nd m = n) (t1 : m.take n = wh) (t2 : m.drop n = c :: r) (hb : ∀ h, ((((ByteArray.mk m.toArray)[0]'h).toNat : Int) == 45) = false) (hl0 : 0 < m.length) (n0 : 0 < n) (hr : 0 < r.length) (hc : c ≠ 46) :
    Calls Try.prog 42 #[.string ⟨m.toArray⟩] w fun e w' => e = .returned (.tuple #[.int .i64 (Lv.read false m).1, .int .i64 (Lv.read false m).2]) ∧ Kept w w' := by
  have X := ba_extract
  have Z := ba_size
  have Y := ba_append
  have D := fun w => digits_any ⟨m.toArray⟩ w (by rw [ba_size]; omega)
  rw [show nd (ByteArray.mk m.toArray).data.toList = n from hn] at D
  have HD := Lib.hid D
  have HN := Lib.hid hn
  clear D hn
  have lp : (0 : Int) < (m.length : Int) := by omega
  have b0 := fun h => hb h
  have n1 : n ≤ m.length := by have := nd_le m; rw [HN.out] at this; exact this
  have nz : ((n : Int) == 0) = false := by rw [beq_eq_false_iff_ne]; omega
  have c0 : ((((ByteArray.mk (c :: r).toArray)[0]'(by rw [ba_size]; simp)).toNat : Int) == 46) = false := by rw [beq_eq_false_iff_ne]; intro h; apply hc; apply UInt8.toNat_inj.1; show c.toNat = 46; exact Int.ofNat_inj.1 h
  have E : Hid (Lv.read false m = (0, 4)) := by
    show _ = _
    unfold Lv.read
    rw [HN.out]
    rw [if_neg (by omega), t2, frac_no hc]
  clear hc
  go_enter Try.func42, Try.ntmps42
  go_wp2_with fail
  refine (HD.out _).mono ?_
  rintro e w' ⟨rfl, rfl⟩
  go_wp2_with fail
  go_region
  go_wp2_with fail
  go_ret2
  exact ⟨ret_ii (by rw [E.out]) (by rw [E.out]), (by repeat (first | with_reducible exact Kept.refl _ | with_reducible apply Kept.drew | with_reducible apply Kept.drewN | with_reducible apply Kept.alloc | (with_reducible refine Kept.setCellX ?_ ?_ _; focus (first | (simp; done) | (simp; omega))) | (with_reducible refine Kept.trans ?_ (by assumption))))⟩

set_option maxHeartbeats 800000 in
set_option maxRecDepth 100000 in
theorem parse_c1_pos (m wh r : List UInt8) (c : UInt8) (n : Nat) (w : World) (hs : m.length ≤ 2000) (hn : nd m = n) (t1 : m.take n = wh) (t2 : m.drop n = c :: r) (hb : ∀ h, ((((ByteArray.mk m.toArray)[0]'h).toNat : Int) == 45) = false) (hl0 : 0 < m.length) (n0 : 0 < n) (hr : 0 < r.length) (hc : c = 46) (hd : nd r ≠ r.length) :
    Calls Try.prog 42 #[.string ⟨m.toArray⟩] w fun e w' => e = .returned (.tuple #[.int .i64 (Lv.read false m).1, .int .i64 (Lv.read false m).2]) ∧ Kept w w' := by
  have X := ba_extract
  have Z := ba_size
  have Y := ba_append
  have D := fun w => digits_any ⟨m.toArray⟩ w (by rw [ba_size]; omega)
  rw [show nd (ByteArray.mk m.toArray).data.toList = n from hn] at D
  have HD := Lib.hid D
  have HN := Lib.hid hn
  clear D hn
  have lp : (0 : Int) < (m.length : Int) := by omega
  have b0 := fun h => hb h
  have n1 : n ≤ m.length := by have := nd_le m; rw [HN.out] at this; exact this
  have nz : ((n : Int) == 0) = false := by rw [beq_eq_false_iff_ne]; omega
  have c0 : ((((ByteArray.mk (c :: r).toArray)[0]'(by rw [ba_size]; simp)).toNat : Int) == 46) = true := by rw [hc]; rfl
  have E : Hid (Lv.read false m = (0, 4)) := by
    show _ = _
    unfold Lv.read
    rw [HN.out]
    rw [if_neg (by omega), t2, frac_bad hd]
  have rl : r.length ≤ 2000 := by have := congrArg List.length t2; simp at this; omega
  have D2 := fun w => digits_any ⟨r.toArray⟩ w (by rw [ba_size]; omega)
  rw [show nd (ByteArray.mk r.toArray).data.toList = nd r from rfl] at D2
  have HD2 := Lib.hid D2
  have de : ((nd r : Int) == (r.length : Int)) = false := by rw [beq_eq_false_iff_ne]; omega
  clear hc hd D2
  generalize nd r = k at *
  go_enter Try.func42, Try.ntmps42
  go_wp2_with fail
  refine (HD.out _).mono ?_
  rintro e w' ⟨rfl, rfl⟩
  go_wp2_with fail
  go_region
  go_wp2_with fail
  refine (HD2.out _).mono ?_
  rintro e w' ⟨rfl, rfl⟩
  go_wp2_with fail
  go_ret2
  exact ⟨ret_ii (by rw [E.out]) (by rw [E.out]), (by repeat (first | with_reducible exact Kept.refl _ | with_reducible apply Kept.drew | with_reducible apply Kept.drewN | with_reducible apply Kept.alloc | (with_reducible refine Kept.setCellX ?_ ?_ _; focus (first | (simp; done) | (simp; omega))) | (with_reducible refine Kept.trans ?_ (by assumption))))⟩

set_option maxHeartbeats 800000 in
set_option maxRecDepth 100000 in
theorem parse_d_pos (m wh r : List UInt8) (c : UInt8) (n : Nat) (w : World) (hs : m.length ≤ 2000) (hn : nd m = n) (t1 : m.take n = wh) (t2 : m.drop n = c :: r) (hb : ∀ h, ((((ByteArray.mk m.toArray)[0]'h).toNat : Int) == 45) = false) (hl0 : 0 < m.length) (n0 : Hid (n = 0)) (hr : 0 < r.length) (hc : c = 46) (hd : nd r = r.length) :
    Calls Try.prog 42 #[.string ⟨m.toArray⟩] w fun e w' => e = .returned (.tuple #[.int .i64 (Lv.read false m).1, .int .i64 (Lv.read false m).2]) ∧ Kept w w' := by
  have X := ba_extract
  have Z := ba_size
  have Y := ba_append
  have D := fun w => digits_any ⟨m.toArray⟩ w (by rw [ba_size]; omega)
  rw [show nd (ByteArray.mk m.toArray).data.toList = n from hn] at D
  have HD := Lib.hid D
  have HN := Lib.hid hn
  clear D hn
  have lp : (0 : Int) < (m.length : Int) := by omega
  have b0 := fun h => hb h
  have n1 : n ≤ m.length := by have := nd_le m; rw [HN.out] at this; exact this
  have nz : ((n : Int) == 0) = true := by rw [n0.out]; rfl
  have c0 : ((((ByteArray.mk (c :: r).toArray)[0]'(by rw [ba_size]; simp)).toNat : Int) == 46) = true := by rw [hc]; rfl
  have E : Hid (Lv.read false m = (0, 4)) := by
    show _ = _
    unfold Lv.read
    rw [HN.out]
    rw [if_pos n0.out]
  have rl : r.length ≤ 2000 := by have := congrArg List.length t2; simp at this; omega
  have D2 := fun w => digits_any ⟨r.toArray⟩ w (by rw [ba_size]; omega)
  rw [show nd (ByteArray.mk r.toArray).data.toList = r.length from hd] at D2
  have HD2 := Lib.hid D2
  clear hc hd D2
  go_enter Try.func42, Try.ntmps42
  go_wp2_with fail
  refine (HD.out _).mono ?_
  rintro e w' ⟨rfl, rfl⟩
  go_wp2_with fail
  go_region
  go_wp2_with fail
  refine (HD2.out _).mono ?_
  rintro e w' ⟨rfl, rfl⟩
  go_wp2_with fail
  go_ret2
  exact ⟨ret_ii (by rw [E.out]) (by rw [E.out]), (by repeat (first | with_reducible exact Kept.refl _ | with_reducible apply Kept.drew | with_reducible apply Kept.drewN | with_reducible apply Kept.alloc | (with_reducible refine Kept.setCellX ?_ ?_ _; focus (first | (simp; done) | (simp; omega))) | (with_reducible refine Kept.trans ?_ (by assumption))))⟩

end Go.Proofs.Ytingopdeckgpaaa
