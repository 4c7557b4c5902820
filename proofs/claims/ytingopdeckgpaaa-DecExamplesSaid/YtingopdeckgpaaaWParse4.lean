/- Layer 1: Parse, joined (printed by wip/mkparse.py). -/
import Derived.Test.YtingopdeckgpaaaWParse3
namespace Go.Proofs.Ytingopdeckgpaaa
set_option linter.unusedVariables false
set_option linter.unusedSimpArgs false
open Go.RowKit Lv

set_option maxHeartbeats 800000 in
set_option maxRecDepth 100000 in
theorem parse_z_neg (m wh : List UInt8) (n : Nat) (w : World) (hs : m.length ≤ 2000) (hn : nd m = n) (t1 : m.take n = wh) (t2 : m.drop n = []) (n0 : Hid (n = 0)) :
    Calls Try.prog 42 #[.string ⟨(45 :: m).toArray⟩] w fun e w' => e = .returned (.tuple #[.int .i64 (Lv.read true m).1, .int .i64 (Lv.read true m).2]) ∧ Kept w w' := by
  have X := ba_extract
  have Z := ba_size
  have Y := ba_append
  have D := fun w => digits_any ⟨m.toArray⟩ w (by rw [ba_size]; omega)
  rw [show nd (ByteArray.mk m.toArray).data.toList = n from hn] at D
  have HD := Lib.hid D
  have HN := Lib.hid hn
  clear D hn
  have lp : (0 : Int) < ((45 :: m).length : Int) := by simp
  have b0 : (((ByteArray.mk (45 :: m).toArray)[0]'(by rw [ba_size]; simp)).toNat : Int) = 45 := rfl
  have n1 : n ≤ m.length := by have := nd_le m; rw [HN.out] at this; exact this
  have nz : ((n : Int) == 0) = true := by rw [n0.out]; rfl
  have E : Hid (Lv.read true m = (0, 4)) := by
    show _ = _
    unfold Lv.read
    rw [HN.out]
    rw [if_pos n0.out]
  go_enter Try.func42, Try.ntmps42
  go_wp2_with fail
  refine (HD.out _).mono ?_
  rintro e w' ⟨rfl, rfl⟩
  go_wp2_with fail
  go_region
  go_wp2_with fail
  go_ret2
  exact ⟨ret_ii (by rw [E.out]) (by rw [E.out]), (by repeat (first | with_reducible exact Kept.refl _ | with_reducible apply Kept.drew | with_reducible apply Kept.drewN | with_reducible apply Kept.alloc | (with_reducible refine Kept.setCellX ?_ ?_ _; focus (first | (simp; done) | (simp; omega))) | (with_reducible refine Kept.trans ?_ (by assumption))))⟩

theorem parse_empty (w : World) : Calls Try.prog 42 #[.string ⟨([] : List UInt8).toArray⟩] w fun e w' => e = .returned (.tuple #[.int .i64 (Lv.read false []).1, .int .i64 (Lv.read false []).2]) ∧ Kept w w' := by
  have X := ba_extract
  have Z := ba_size
  have Y := ba_append
  have D := fun w => digits_any ⟨([] : List UInt8).toArray⟩ w (by rw [ba_size]; simp)
  rw [show nd (ByteArray.mk ([] : List UInt8).toArray).data.toList = 0 from rfl] at D
  have HD := Lib.hid D
  clear D
  have E : Hid (Lv.read false [] = (0, 4)) := rfl
  go_enter Try.func42, Try.ntmps42
  go_wp2_with fail
  refine (HD.out _).mono ?_
  rintro e w' ⟨rfl, rfl⟩
  go_wp2_with fail
  go_region
  go_wp2_with fail
  go_ret2
  exact ⟨ret_ii (by rw [E.out]) (by rw [E.out]), (by repeat (first | with_reducible exact Kept.refl _ | with_reducible apply Kept.drew | with_reducible apply Kept.drewN | with_reducible apply Kept.alloc | (with_reducible refine Kept.setCellX ?_ ?_ _; focus (first | (simp; done) | (simp; omega))) | (with_reducible refine Kept.trans ?_ (by assumption))))⟩

theorem places_digits {r : List UInt8} (h : nd r = r.length) : ∀ c ∈ places r, isD c = true := by
  intro c hc
  have := List.mem_of_mem_take hc
  rcases List.mem_append.1 this with h1 | h1
  · exact nd_all h c h1
  · simp at h1; subst h1; rfl
theorem take_digits : ∀ (m : List UInt8), ∀ c ∈ m.take (nd m), isD c = true
  | [], c, hc => by simp at hc
  | a :: m, c, hc => by
    by_cases d : isD a = true
    · have e : nd (a :: m) = nd m + 1 := if_pos d
      rw [e, List.take_succ_cons] at hc
      rcases List.mem_cons.1 hc with rfl | hc
      · exact d
      · exact take_digits m c hc
    · have e : nd (a :: m) = 0 := if_neg d
      rw [e] at hc; simp at hc
theorem read_whole {b : Bool} {m : List UInt8} (n0 : 0 < nd m) (h : m.drop (nd m) = []) : Lv.read b m = if (val (m ++ [48, 48, 48, 48]) : Int) ≤ 9223372036854775807 then (sg b (val (m ++ [48, 48, 48, 48]) : Int), 0) else (0, 3) := by
  unfold Lv.read
  have e : m.take (nd m) = m := List.take_of_length_le (List.drop_eq_nil_iff.1 h)
  rw [if_neg (by omega), h, e]
  show (if (val (m ++ [48, 48, 48, 48]) : Int) + 0 ≤ _ then (sg b ((val (m ++ [48, 48, 48, 48]) : Int) + 0), 0) else _) = _
  rw [Int.add_zero]
theorem read_places {b : Bool} {m r : List UInt8} (n0 : 0 < nd m) (h : m.drop (nd m) = 46 :: r) (hr : 0 < r.length) (hd : nd r = r.length) :
    (53 ≤ (fifth r).toNat → Lv.read b m = if (val (m.take (nd m) ++ places r) : Int) + 1 ≤ 9223372036854775807 then (sg b ((val (m.take (nd m) ++ places r) : Int) + 1), 0) else (0, 3)) ∧
    (¬ 53 ≤ (fifth r).toNat → Lv.read b m = if (val (m.take (nd m) ++ places r) : Int) ≤ 9223372036854775807 then (sg b (val (m.take (nd m) ++ places r) : Int), 0) else (0, 3)) := by
  unfold Lv.read
  rw [if_neg (by omega), h, frac_some hr hd]
  refine ⟨fun h5 => ?_, fun h5 => ?_⟩
  · simp only [if_pos h5]
  · simp only [if_neg h5, Int.add_zero]
theorem fifth_byte (r : List UInt8) (h : 4 < (ByteArray.mk (pad r).toArray).size) : (ByteArray.mk (pad r).toArray)[4] = fifth r := by
  show (pad r)[4]'h = (pad r).getD 4 48
  rw [List.getD_eq_getElem?_getD, List.getElem?_eq_getElem h]; rfl
theorem pad_length (r : List UInt8) : (pad r).length = r.length + 5 := by unfold pad; simp
theorem places_length (r : List UInt8) : (places r).length = 4 := by unfold places; rw [List.length_take, pad_length]; omega

theorem parse_neg (m : List UInt8) (w : World) (hs : m.length ≤ 2000) : Calls Try.prog 42 #[.string ⟨(45 :: m).toArray⟩] w fun e w' => e = .returned (.tuple #[.int .i64 (Lv.read true m).1, .int .i64 (Lv.read true m).2]) ∧ Kept w w' := by
  have ln : nd m ≤ m.length := nd_le m
  rcases ht : m.drop (nd m) with _ | ⟨c, _ | ⟨c2, r2⟩⟩
  · by_cases n0 : nd m = 0
    · exact parse_z_neg m _ _ w hs rfl rfl ht (Lib.hid n0)
    · have lm : m.length = nd m := by have := List.drop_eq_nil_iff.1 ht; omega
      exact parse_w_neg m _ w hs rfl (by rw [← lm, List.take_length]) ht (by omega) _ rfl (by simp; omega) lm (by intro c hc; rcases List.mem_append.1 hc with h | h; exact nd_all lm.symm c h; simp at h; subst h; rfl) (Lib.hid (read_whole (by omega) ht))
  · by_cases n0 : nd m = 0
    · exact parse_a0_neg m _ [] c _ w hs rfl rfl ht (Lib.hid n0)
    · exact parse_a1_neg m _ [] c _ w hs rfl rfl ht (by omega)
  · have hr : 0 < (c2 :: r2).length := by simp
    generalize c2 :: r2 = r at *
    by_cases n0 : nd m = 0
    · by_cases hc : c = 46
      · by_cases hd : nd r = r.length
        · exact parse_d_neg m _ r c _ w hs rfl rfl ht (Lib.hid n0) hr hc hd
        · exact parse_c0_neg m _ r c _ w hs rfl rfl ht (Lib.hid n0) hr hc hd
      · exact parse_b0_neg m _ r c _ w hs rfl rfl ht (Lib.hid n0) hr hc
    · by_cases hc : c = 46
      · by_cases hd : nd r = r.length
        · subst hc
          have rp := read_places (b := true) (by omega) ht hr hd
          have dg : ∀ c ∈ m.take (nd m) ++ places r, isD c = true := fun c hc => by rcases List.mem_append.1 hc with h | h; exact take_digits m c h; exact places_digits hd c h
          have ll : (m.take (nd m) ++ places r).length = nd m + 4 := by rw [List.length_append, places_length, List.length_take]; omega
          have lw : (m.take (nd m)).length = nd m := by rw [List.length_take]; omega
          by_cases h5 : 53 ≤ (fifth r).toNat
          · exact parse_v1_neg m _ r 46 _ w hs rfl rfl ht (by omega) hr rfl hd (pad r) (places r) _ rfl (pad_length r) rfl rfl ll lw (places_length r) (fifth r).toNat (fun h => by rw [fifth_byte]) (by omega) dg (Lib.hid (rp.1 h5))
          · exact parse_v0_neg m _ r 46 _ w hs rfl rfl ht (by omega) hr rfl hd (pad r) (places r) _ rfl (pad_length r) rfl rfl ll lw (places_length r) (fifth r).toNat (fun h => by rw [fifth_byte]) (by omega) dg (Lib.hid (rp.2 h5))
        · exact parse_c1_neg m _ r c _ w hs rfl rfl ht (by omega) hr hc hd
      · exact parse_b1_neg m _ r c _ w hs rfl rfl ht (by omega) hr hc

theorem parse_pos (m : List UInt8) (w : World) (hs : m.length ≤ 2000) (hb : ∀ h, ((((ByteArray.mk m.toArray)[0]'h).toNat : Int) == 45) = false) (hl0 : 0 < m.length) : Calls Try.prog 42 #[.string ⟨m.toArray⟩] w fun e w' => e = .returned (.tuple #[.int .i64 (Lv.read false m).1, .int .i64 (Lv.read false m).2]) ∧ Kept w w' := by
  have ln : nd m ≤ m.length := nd_le m
  rcases ht : m.drop (nd m) with _ | ⟨c, _ | ⟨c2, r2⟩⟩
  · by_cases n0 : nd m = 0
    · exfalso; rw [n0, List.drop_zero] at ht; subst ht; simp at hl0
    · have lm : m.length = nd m := by have := List.drop_eq_nil_iff.1 ht; omega
      exact parse_w_pos m _ w hs rfl (by rw [← lm, List.take_length]) ht hb (by omega) (by omega) _ rfl (by simp; omega) lm (by intro c hc; rcases List.mem_append.1 hc with h | h; exact nd_all lm.symm c h; simp at h; subst h; rfl) (Lib.hid (read_whole (by omega) ht))
  · by_cases n0 : nd m = 0
    · exact parse_a0_pos m _ [] c _ w hs rfl rfl ht hb (by omega) (Lib.hid n0)
    · exact parse_a1_pos m _ [] c _ w hs rfl rfl ht hb (by omega) (by omega)
  · have hr : 0 < (c2 :: r2).length := by simp
    generalize c2 :: r2 = r at *
    by_cases n0 : nd m = 0
    · by_cases hc : c = 46
      · by_cases hd : nd r = r.length
        · exact parse_d_pos m _ r c _ w hs rfl rfl ht hb (by omega) (Lib.hid n0) hr hc hd
        · exact parse_c0_pos m _ r c _ w hs rfl rfl ht hb (by omega) (Lib.hid n0) hr hc hd
      · exact parse_b0_pos m _ r c _ w hs rfl rfl ht hb (by omega) (Lib.hid n0) hr hc
    · by_cases hc : c = 46
      · by_cases hd : nd r = r.length
        · subst hc
          have rp := read_places (b := false) (by omega) ht hr hd
          have dg : ∀ c ∈ m.take (nd m) ++ places r, isD c = true := fun c hc => by rcases List.mem_append.1 hc with h | h; exact take_digits m c h; exact places_digits hd c h
          have ll : (m.take (nd m) ++ places r).length = nd m + 4 := by rw [List.length_append, places_length, List.length_take]; omega
          have lw : (m.take (nd m)).length = nd m := by rw [List.length_take]; omega
          by_cases h5 : 53 ≤ (fifth r).toNat
          · exact parse_v1_pos m _ r 46 _ w hs rfl rfl ht hb (by omega) (by omega) hr rfl hd (pad r) (places r) _ rfl (pad_length r) rfl rfl ll lw (places_length r) (fifth r).toNat (fun h => by rw [fifth_byte]) (by omega) dg (Lib.hid (rp.1 h5))
          · exact parse_v0_pos m _ r 46 _ w hs rfl rfl ht hb (by omega) (by omega) hr rfl hd (pad r) (places r) _ rfl (pad_length r) rfl rfl ll lw (places_length r) (fifth r).toNat (fun h => by rw [fifth_byte]) (by omega) dg (Lib.hid (rp.2 h5))
        · exact parse_c1_pos m _ r c _ w hs rfl rfl ht hb (by omega) (by omega) hr hc hd
      · exact parse_b1_pos m _ r c _ w hs rfl rfl ht hb (by omega) (by omega) hr hc

theorem parse_any (l : List UInt8) (w : World) (hs : l.length ≤ 2000) : Calls Try.prog 42 #[.string ⟨l.toArray⟩] w fun e w' => e = .returned (.tuple #[.int .i64 (dParse l).1, .int .i64 (dParse l).2]) ∧ Kept w w' := by
  unfold dParse
  rcases l with _ | ⟨c, m⟩
  · exact parse_empty w
  · by_cases hc : c = 45
    · subst hc
      rw [if_pos (by rfl)]
      exact parse_neg m w (by simp at hs; omega)
    · rw [if_neg (by simpa using hc)]
      refine parse_pos (c :: m) w hs (fun h => ?_) (by simp)
      rw [beq_eq_false_iff_ne]
      intro e
      apply hc
      apply UInt8.toNat_inj.1
      exact Int.ofNat_inj.1 e
end Go.Proofs.Ytingopdeckgpaaa
