/- Small texts together: WSum3, WSum4, WRoot. -/
import Derived.Test.YtbpkfnoenkoabaaGreatDoorFfMixAN
set_option linter.unusedVariables false
set_option linter.unusedSimpArgs false
namespace Go.Proofs.YtbpkfnoenkoabaaGreatDoor
open Go.RowKit Lv
def Row (w : World) (A : Option Addr) (zs : List Int) : Prop := ∀ i, i < zs.length → ∃ b off, A = some ⟨b, off, none⟩ ∧ b < w.heap.size ∧ w.cell? ⟨b, off + i, none⟩ = some (.int .i64 (zs.getD i 0))
theorem Row.kept {w w' : World} {A : Option Addr} {zs : List Int} (h : Row w A zs) (k : Kept w w') : Row w' A zs := fun i hi => by
  obtain ⟨b, off, rfl, hb, hc⟩ := h i hi; exact ⟨b, off, rfl, Nat.lt_of_lt_of_le hb k.size, (k.cell (p := ⟨b, off + i, none⟩) hb).trans hc⟩
theorem Row.box {w : World} {g : Nat} {t : TypeId} {cs : Array Value} (h : Box w g t cs) {zs : List Int} (hz : ∀ i, i < zs.length → cs[i]? = some (.int .i64 (zs.getD i 0))) : Row w (some ⟨g, 0, none⟩) zs := fun i hi =>
  ⟨g, 0, rfl, h.inside, by rw [Nat.zero_add, h.cell i]; exact hz i hi⟩
def sumCells (zs : List Int) : Array Value := #[.int .u64 (hi64 (up zs)), .int .u64 (hi64 (down zs)), .int .u64 (lo64 (up zs)), .int .u64 (lo64 (down zs))]
theorem sumCells_zero (zs : List Int) : sumCells (zs.take 0) = #[.int .u64 0, .int .u64 0, .int .u64 0, .int .u64 0] := rfl
theorem sumCells_up {l : List Int} {a : Int} (h : All64 (l ++ [a])) (hl : l.length ≤ 9223372036854775807) (c : 0 ≤ a) :
    #[.int .u64 (hi64 (up l) + (lo64 (up l) + Lv.abs a) / 18446744073709551616), .int .u64 (hi64 (down l)), .int .u64 ((lo64 (up l) + Lv.abs a) % 18446744073709551616), .int .u64 (lo64 (down l))] = sumCells (l ++ [a]) := by
  have b := up_bounds l (fun x hx => h x (by simp [hx])); have ha := abs_u64 (h a (by simp)); rw [hi_add b.1 (by omega) ha.1 ha.2, lo_add]; unfold sumCells; rw [up_snoc, down_snoc, if_neg (by omega), if_neg (by omega), Int.add_zero]; rw [show Lv.abs a = a by unfold Lv.abs; rw [if_neg (by omega)]]
theorem sumCells_down {l : List Int} {a : Int} (h : All64 (l ++ [a])) (hl : l.length ≤ 9223372036854775807) (c : a < 0) :
    #[.int .u64 (hi64 (up l)), .int .u64 (hi64 (down l) + (lo64 (down l) + Lv.abs a) / 18446744073709551616), .int .u64 (lo64 (up l)), .int .u64 ((lo64 (down l) + Lv.abs a) % 18446744073709551616)] = sumCells (l ++ [a]) := by
  have b := up_bounds l (fun x hx => h x (by simp [hx])); have ha := abs_u64 (h a (by simp)); rw [hi_add b.2.2.1 (by omega) ha.1 ha.2, lo_add]; unfold sumCells; rw [up_snoc, down_snoc, if_pos c, if_pos c, Int.add_zero]; rw [show Lv.abs a = -a by unfold Lv.abs; rw [if_pos c]]
theorem add_any (l : List Int) (a : Int) (g : Nat) (w : World) (h : All64 (l ++ [a])) (hl : l.length ≤ 9223372036854775807) (hb : Box w g 249 (sumCells l)) :
    Calls Tryz.prog 235 #[.pointer (some ⟨g, 0, none⟩), .int .i64 a, .bool false] w fun e w' => e = .returned (.tuple #[]) ∧ Only g w w' ∧ Box w' g 249 (sumCells (l ++ [a])) := by
  have b := up_bounds l (fun x hx => h x (by simp [hx])); have ha := h a (by simp)
  by_cases c : 0 ≤ a
  · refine (add_ff _ _ _ _ a g w ha hb (hi64_u _) (lo64_u _) c (by have := hi_small b.1 (by omega); omega)).mono ?_
    rintro e w' ⟨he, ho, hb'⟩; rw [sumCells_up h hl c] at hb'; exact ⟨he, ho, hb'⟩
  · refine (add_ft _ _ _ _ a g w ha hb (hi64_u _) (lo64_u _) (by omega) (by have := hi_small b.2.2.1 (by omega); omega)).mono ?_
    rintro e w' ⟨he, ho, hb'⟩; rw [sumCells_down h hl (by omega)] at hb'; exact ⟨he, ho, hb'⟩
set_option maxHeartbeats 1000000 in
theorem total_any (A : Option Addr) (cap : Nat) (zs : List Int) (w : World) (hr : Row w A zs) (h64 : All64 zs) (hlen : zs.length ≤ 9223372036854775807) :
    Calls Tryz.prog 234 #[.slice A zs.length cap] w fun e w' => e = .returned (.pointer (some ⟨w.heap.size, 0, none⟩)) ∧ Kept w w' ∧ Box w' w.heap.size 249 (sumCells zs) := by
  go_enter Tryz.func234, Tryz.ntmps234; go_wp2_with fail
  go_loopw [10] (fun i wr => ∃ k : Nat, k ≤ zs.length ∧ i = .int .i64 k ∧ Kept w wr ∧ Box wr w.heap.size 249 (sumCells (zs.take k))) (fun i _ => zs.length - (intOf i).toNat)
  case atStart => exact ⟨0, by omega, rfl, kpt, by rw [sumCells_zero]; exact bxd⟩
  case round =>
    obtain ⟨k, hk, rfl, hkept, hbox⟩ := hrel
    by_cases hlt : k < zs.length
    · obtain ⟨b, off, rfl, hb, hc⟩ := hr k hlt
      have hc' : wr.cell? ⟨b, off + k, none⟩ = some (.int .i64 (zs.getD k 0)) := (hkept.cell (p := ⟨b, off + k, none⟩) hb).trans hc; have ts := take_snoc zs k hlt; have HA : All64 (zs.take k ++ [zs.getD k 0]) := by rw [← ts]; exact h64.take _
      have HL : (zs.take k).length ≤ 9223372036854775807 := by have := List.length_take_le k zs; omega
      have AD := Lib.hid (fun g w hb => add_any (zs.take k) (zs.getD k 0) g w HA HL hb); have TS := Lib.hid ts; have H64 := Lib.hid h64; have HR := Lib.hid hr; clear ts HA HL hc h64 hr; generalize zs.getD k 0 = a at *; go_wp2_with fail; refine (AD.out _ _ hbox).mono ?_; rintro e w1 ⟨rfl, ho, hb1⟩; go_wp2_with fail
      go_roundw
      case rel => exact ⟨k + 1, by omega, by go_num, ho.kept hkept (Nat.le_refl _), by rw [TS.out]; exact hb1⟩
      case measure => simp [intOf]; omega
    · obtain rfl : k = zs.length := by omega
      rw [List.take_length] at hbox; go_wp2_with fail; go_ret; exact ⟨rfl, hkept, hbox⟩
theorem all_sum (zs : List Int) (g : Nat) (w : World) (h64 : All64 zs) (hlen : zs.length ≤ 9223372036854775807) (hb : Box w g 249 (sumCells zs)) :
    Calls Tryz.prog 236 #[.pointer (some ⟨g, 0, none⟩)] w fun e w' => e = .returned (.tuple #[.int .u64 (hi64 (Lv.abs (total zs))), .int .u64 (lo64 (Lv.abs (total zs))), .bool (Lv.neg (total zs))]) ∧ ∃ n, w' = w.drewN n := by
  have b := up_bounds zs h64; have e1 : wd (hi64 (up zs)) (lo64 (up zs)) = up zs := wd_in b.1 (by omega); have e2 : wd (hi64 (down zs)) (lo64 (down zs)) = down zs := wd_in b.2.2.1 (by omega); have H := all_any _ _ _ _ g w hb (hi64_u _) (hi64_u _) (lo64_u _) (lo64_u _); rw [e1, e2, up_down] at H; exact H
theorem total_small (zs : List Int) (h64 : All64 zs) (hlen : zs.length ≤ 9223372036854775807) : 0 ≤ Lv.abs (total zs) ∧ Lv.abs (total zs) < 170141183460469231731687303715884105728 := by
  have b := up_bounds zs h64; rw [← up_down]; exact abs_sub_lt b.1 (by omega) b.2.2.1 (by omega)
theorem signed_sum (zs : List Int) (w : World) (h64 : All64 zs) (hlen : zs.length ≤ 9223372036854775807) :
    Calls Tryz.prog 184 #[.int .u64 (hi64 (Lv.abs (total zs))), .int .u64 (lo64 (Lv.abs (total zs))), .bool (Lv.neg (total zs))] w fun e w' => e = .returned (.tuple #[.int .i64 (dSum zs).1, .bool (dSum zs).2]) ∧ w = w' := by
  have b := total_small zs h64 hlen; have H := signed_any (hi64 (Lv.abs (total zs))) (lo64 (Lv.abs (total zs))) (Lv.neg (total zs)) w (hi64_u _) (lo64_u _); have e : hi64 (Lv.abs (total zs)) * 18446744073709551616 + lo64 (Lv.abs (total zs)) = Lv.abs (total zs) := wd_in b.1 (by omega); rw [e, sg_neg_abs] at H; exact H
theorem sum_any (A : Option Addr) (cap : Nat) (zs : List Int) (w : World) (hr : Row w A zs) (h64 : All64 zs) (hlen : zs.length ≤ 9223372036854775807) :
    Calls Tryz.prog 233 #[.slice A zs.length cap] w fun e w' => e = .returned (.tuple #[.int .i64 (dSum zs).1, .bool (dSum zs).2]) ∧ Kept w w' := by
  have T := Lib.hid (total_any A cap zs w hr h64 hlen); have L := Lib.hid (fun g w => all_sum zs g w h64 hlen); have S := Lib.hid (fun w => signed_sum zs w h64 hlen); clear hr h64; go_enter Tryz.func233, Tryz.ntmps233; go_wp2_with fail; refine T.out.mono ?_; rintro e w1 ⟨rfl, hk, hb⟩; go_wp2_with fail; refine (L.out _ _ hb).mono ?_; rintro e w' ⟨rfl, n, rfl⟩; go_wp2_with fail; refine (S.out _).mono ?_; rintro e w' ⟨rfl, rfl⟩; go_wp2_with fail; go_ret2; exact ⟨rfl, Kept.trans hk (Kept.of_drewN n)⟩
theorem add2_any (a b : Int) (w : World) (ha : i64 a) (hb : i64 b) :
    Calls Tryz.prog 168 #[.int .i64 a, .int .i64 b] w fun e w' => e = .returned (.tuple #[.int .i64 (dSum [a, b]).1, .bool (dSum [a, b]).2]) ∧ Kept w w' := by
  have h64 : All64 [a, b] := by
    intro x hx
    simp at hx
    rcases hx with rfl | rfl
    · exact ha
    · exact hb
  have S := Lib.hid (fun A cap w hr => sum_any A cap [a, b] w hr h64 (by simp)); clear ha hb h64; go_enter Tryz.func168, Tryz.ntmps168; go_wp2_with fail; refine (S.out _ _ _ ?hr).mono ?_
  case hr =>
    refine Row.box (g := w.heap.size) (t := 2) (cs := #[.int .i64 a, .int .i64 b]) bxd ?_; intro i hi
    match i, hi with
    | 0, _ => rfl
    | 1, _ => rfl
  rintro e w1 ⟨rfl, hk⟩; go_wp2_with fail; go_ret2; exact ⟨rfl, kpt⟩
theorem sub2_any (a b : Int) (w : World) (ha : i64 a) (hb : i64 b) :
    Calls Tryz.prog 170 #[.int .i64 a, .int .i64 b] w fun e w' => e = .returned (.tuple #[.int .i64 (fit (a - b)).1, .bool (fit (a - b)).2]) ∧ Kept w w' := by
  have h64 : All64 [a] := by
    intro x hx
    simp at hx
    rcases hx with rfl
    exact ha
  have b0 := up_bounds [a] h64
  simp only [List.length_cons, List.length_nil] at b0
  have ud : up [a] - down [a] = a := by rw [up_down]; simp [total]
  have hbu := abs_u64 hb; have T := Lib.hid (fun A cap w hr => total_any A cap [a] w hr h64 (by simp))
  -- what add leaves: U and D, whose difference is a - b
  obtain ⟨U, D, hU0, hU1, hD0, hD1, hUD, hAdd⟩ : ∃ U D : Int, 0 ≤ U ∧ U < 170141183460469231731687303715884105728 ∧ 0 ≤ D ∧ D < 170141183460469231731687303715884105728 ∧ U - D = a - b ∧
      ∀ g w, Box w g 249 (sumCells [a]) → Calls Tryz.prog 235 #[.pointer (some ⟨g, 0, none⟩), .int .i64 b, .bool true] w fun e w' => e = .returned (.tuple #[]) ∧ Only g w w' ∧
        Box w' g 249 #[.int .u64 (hi64 U), .int .u64 (hi64 D), .int .u64 (lo64 U), .int .u64 (lo64 D)] := by
    have hbb := hb; obtain ⟨hb1, hb2⟩ := hbb
    by_cases c : b < 0
    · refine ⟨up [a] - b, down [a], by omega, by omega, by omega, by omega, by omega, fun g w hbox => ?_⟩
      have H := add_tt _ _ _ _ b g w hb hbox (hi64_u _) (lo64_u _) c (by have := hi_small b0.1 (by omega); omega); rw [hi_add b0.1 (by omega) hbu.1 hbu.2, lo_add, show Lv.abs b = -b by unfold Lv.abs; rw [if_pos c], ← Int.sub_eq_add_neg] at H; exact H
    · refine ⟨up [a], down [a] + b, by omega, by omega, by omega, by omega, by omega, fun g w hbox => ?_⟩
      have H := add_tf _ _ _ _ b g w hb hbox (hi64_u _) (lo64_u _) (by omega) (by have := hi_small b0.2.2.1 (by omega); omega); rw [hi_add b0.2.2.1 (by omega) hbu.1 hbu.2, lo_add, show Lv.abs b = b by unfold Lv.abs; rw [if_neg c]] at H; exact H
  have L := fun g w hb => all_any (hi64 U) (hi64 D) (lo64 U) (lo64 D) g w hb (hi64_u _) (hi64_u _) (lo64_u _) (lo64_u _); have e1 : wd (hi64 U) (lo64 U) = U := wd_in hU0 (by omega); have e2 : wd (hi64 D) (lo64 D) = D := wd_in hD0 (by omega); rw [e1, e2, hUD] at L; have HL := Lib.hid L; have bS : 0 ≤ Lv.abs (a - b) ∧ Lv.abs (a - b) < 170141183460469231731687303715884105728 := by rw [← hUD]; exact abs_sub_lt hU0 hU1 hD0 hD1
  have S := fun w => signed_any (hi64 (Lv.abs (a - b))) (lo64 (Lv.abs (a - b))) (Lv.neg (a - b)) w (hi64_u _) (lo64_u _); have e : hi64 (Lv.abs (a - b)) * 18446744073709551616 + lo64 (Lv.abs (a - b)) = Lv.abs (a - b) := wd_in bS.1 (by omega); rw [e, sg_neg_abs] at S; have HS := Lib.hid S; have HA := Lib.hid hAdd; clear hAdd L S e e1 e2 hUD bS hU0 hU1 hD0 hD1 b0 ud hbu ha hb h64; generalize a - b = z at *; go_enter Tryz.func170, Tryz.ntmps170; go_wp2_with fail; refine (T.out _ _ _ ?hr).mono ?_
  case hr =>
    refine Row.box (g := w.heap.size) (t := 2) (cs := #[.int .i64 a]) bxd ?_; intro i hi
    match i, hi with
    | 0, _ => rfl
  rintro e w1 ⟨rfl, hk, hbx⟩; have hk' : Kept w w1 := kpt
  simp only [World.size_alloc] at hbx
  go_wp2_with fail; refine (HA.out _ _ hbx).mono ?_; rintro e w2 ⟨rfl, ho, hbx2⟩; have hk2 : Kept w w2 := ho.kept hk' (by simp); clear ho hk hk' hbx; go_wp2_with fail; refine (HL.out _ _ hbx2).mono ?_; rintro e w' ⟨rfl, n, rfl⟩; go_wp2_with fail; refine (HS.out _).mono ?_; rintro e w' ⟨rfl, rfl⟩; go_wp2_with fail; go_ret2; exact ⟨rfl, hk2.drewN n⟩
end Go.Proofs.YtbpkfnoenkoabaaGreatDoor

namespace Go.Proofs.YtbpkfnoenkoabaaGreatDoor
open Go.RowKit Lv
end Go.Proofs.YtbpkfnoenkoabaaGreatDoor

namespace Go.Proofs.YtbpkfnoenkoabaaGreatDoor
open Go.RowKit Lv
theorem trunc_any (a : Int) (w : World) (h : i64 a) : Calls Tryz.prog 131 #[.int .i64 a] w fun e w' => e = .returned (.int .i64 (dTrunc a)) ∧ w = w' := by
  obtain ⟨h1, h2⟩ := h; have tb := tmod_bounds a; have b1 : -9223372036854775808 ≤ a - a.tmod 10000 := by omega
  have b2 : a - a.tmod 10000 ≤ 9223372036854775807 := by omega
  by_cases c : 0 ≤ a
  · have e : a.tmod 10000 = a % 10000 := Int.tmod_eq_emod_of_nonneg c
    have E : Hid (a - a % 10000 = dTrunc a) := by unfold dTrunc; rw [e]; rfl
    clear e; go_enter Tryz.func131, Tryz.ntmps131; go_wp2_with fail; go_ret; exact ⟨ret_int E.out, rfl⟩
  · go_enter Tryz.func131, Tryz.ntmps131
    go_wp2_with fail; go_ret; exact ⟨ret_int rfl, rfl⟩
theorem dTrunc_i64 {a : Int} (h : i64 a) : i64 (dTrunc a) := by
  obtain ⟨h1, h2⟩ := h; have tb := tmod_bounds a; unfold dTrunc i64
  omega
theorem floor_any (a : Int) (w : World) (h : i64 a) : Calls Tryz.prog 155 #[.int .i64 a] w fun e w' => e = .returned (.tuple #[.int .i64 (dFloor a).1, .bool (dFloor a).2]) ∧ Kept w w' := by
  have T := Lib.hid (fun w => trunc_any a w h); have S := Lib.hid (fun w => sub2_any (dTrunc a) 10000 w (dTrunc_i64 h) ⟨by omega, by omega⟩)
  by_cases c : a < dTrunc a
  · have E : Hid (dFloor a = fit (dTrunc a - 10000)) := if_pos c
    obtain ⟨h1, h2⟩ := h; generalize fit (dTrunc a - 10000) = r at *; generalize dTrunc a = t at *; go_enter Tryz.func155, Tryz.ntmps155; go_wp2_with fail; refine (T.out _).mono ?_; rintro e w' ⟨rfl, rfl⟩; go_wp2_with fail; refine (S.out _).mono ?_; rintro e w' ⟨rfl, k1⟩; go_wp2_with fail; go_ret2; exact ⟨ret_p E.out, kpt⟩
  · have E : Hid (dFloor a = (dTrunc a, true)) := if_neg c
    obtain ⟨h1, h2⟩ := h; generalize dTrunc a = t at *; go_enter Tryz.func155, Tryz.ntmps155; go_wp2_with fail; refine (T.out _).mono ?_; rintro e w' ⟨rfl, rfl⟩; go_wp2_with fail; go_ret2; exact ⟨ret_p E.out, kpt⟩
set_option maxHeartbeats 400000 in
theorem power_nat (a : Int) (n : Nat) (w : World) (h : i64 a) (hn : n ≤ 1000) : Calls Tryz.prog 232 #[.int .i64 a, .int .i64 n] w fun e w' => e = .returned (.tuple #[.int .i64 (pw a n).1, .bool (pw a n).2]) ∧ Kept w w' := by
  go_enter Tryz.func232, Tryz.ntmps232; go_wp2_with fail
  go_loopw [8, 9, 32] (fun x y i wr => ∃ k : Nat, k ≤ n ∧ i = .int .i64 k ∧ x = .int .i64 (pw a k).1 ∧ y = .bool true ∧ (pw a k).2 = true ∧ Kept w wr) (fun _ _ i _ => n - (intOf i).toNat)
  case atStart => exact ⟨0, by omega, rfl, rfl, rfl, rfl, Kept.refl w⟩
  case round =>
    obtain ⟨k, hk, rfl, rfl, rfl, hp, hkept⟩ := hrel
    by_cases c : k < n
    · have M := Lib.hid (fun w => mul_any (pw a k).1 a w (pw_i64 a k) h)
      have E : Hid (pw a (k + 1) = dMul (pw a k).1 a) := by show (if (pw a k).2 = true then _ else _) = _; rw [if_pos hp]
      have HP := Lib.hid hp; clear hp
      by_cases d : (dMul (pw a k).1 a).2 = true
      · have D := Lib.hid d
        rw [d] at M; clear d; generalize (pw a k).1 = x at *; go_wp2_with fail; refine (M.out _).mono ?_; rintro e w' ⟨rfl, m, rfl⟩; go_wp2_with fail
        go_roundw
        case rel => exact ⟨k + 1, by omega, by go_num, by rw [E.out], rfl, by rw [E.out]; exact D.out, kpt⟩
        case measure => simp [intOf]; omega
      · have d' : (dMul (pw a k).1 a).2 = false := by simpa using d
        have e2 : Hid (pw a n = (0, false)) := by
          have := pw_stays (a := a) (n := k + 1) (by rw [E.out]; exact d') (n - (k + 1))
          rwa [show k + 1 + (n - (k + 1)) = n by omega] at this
        rw [d'] at M; clear d d'; generalize (pw a k).1 = x at *; go_wp2_with fail; refine (M.out _).mono ?_; rintro e w' ⟨rfl, m, rfl⟩; go_wp2_with fail; go_ret2; exact ⟨ret_p e2.out, kpt⟩
    · obtain rfl : k = n := by omega
      have HP := Lib.hid hp; clear hp; go_wp2_with fail; go_ret2; exact ⟨ret_p (Prod.ext rfl HP.out), kpt⟩
set_option maxHeartbeats 400000 in
theorem power_any (a n : Int) (w : World) (h : i64 a) (hn : i64 n) : Calls Tryz.prog 232 #[.int .i64 a, .int .i64 n] w fun e w' => e = .returned (.tuple #[.int .i64 (dPow a n).1, .bool (dPow a n).2]) ∧ Kept w w' := by
  obtain ⟨n1, n2⟩ := hn
  by_cases c1 : n < -1000 ∨ 1000 < n
  · have E : Hid (dPow a n = (0, false)) := if_pos c1
    by_cases c2 : n < -1000
    · go_enter Tryz.func232, Tryz.ntmps232
      go_wp2_with fail; go_ret2; exact ⟨ret_p E.out, kpt⟩
    · have c3 : 1000 < n := by omega
      clear c1; go_enter Tryz.func232, Tryz.ntmps232; go_wp2_with fail; go_ret2; exact ⟨ret_p E.out, kpt⟩
  · have n3 : -1000 ≤ n := by omega
    have n4 : n ≤ 1000 := by omega
    by_cases c2 : n < 0
    · have E : Hid (dPow a n = if (pw a (-n).toNat).2 = true then dQuo 10000 (pw a (-n).toNat).1 else (0, false)) := by unfold dPow; rw [if_neg c1, if_pos c2]; rfl
      have P := fun w => power_nat a (-n).toNat w h (by omega); rw [show (((-n).toNat : Nat) : Int) = -n by omega] at P; have Q := Lib.hid (fun w => quo_any 10000 (pw a (-n).toNat).1 w ⟨by omega, by omega⟩ (pw_i64 a _))
      by_cases d : (pw a (-n).toNat).2 = true
      · have e := E.out
        rw [if_pos d] at e; have E2 := Lib.hid e; rw [d] at P; have HP := Lib.hid P; clear P d e E c1; generalize (pw a (-n).toNat).1 = x at *; generalize dQuo 10000 x = y at *; go_enter Tryz.func232, Tryz.ntmps232; go_wp2_with fail; refine (HP.out _).mono ?_; rintro e w' ⟨rfl, k1⟩; go_wp2_with fail; refine (Q.out _).mono ?_; rintro e w' ⟨rfl, m, rfl⟩; go_wp2_with fail; go_ret2; exact ⟨ret_p E2.out, kpt⟩
      · have e := E.out
        rw [if_neg d] at e; have E2 := Lib.hid e; have d' : (pw a (-n).toNat).2 = false := by simpa using d
        rw [d'] at P; have HP := Lib.hid P; clear P d d' e E c1; generalize (pw a (-n).toNat).1 = x at *; go_enter Tryz.func232, Tryz.ntmps232; go_wp2_with fail; refine (HP.out _).mono ?_; rintro e w' ⟨rfl, k1⟩; go_wp2_with fail; go_ret2; exact ⟨ret_p E2.out, kpt⟩
    · have E : dPow a n = pw a n.toNat := by unfold dPow; rw [if_neg c1, if_neg c2]
      have P := power_nat a n.toNat w h (by omega); rw [show ((n.toNat : Nat) : Int) = n by omega, ← E] at P; exact P
theorem mul64_any (x y : Int) (w : World) (hx : u64 x) (hy : u64 y) : Calls Tryz.prog 231 #[.int .u64 x, .int .u64 y] w fun e w' => e = .returned (.tuple #[.int .u64 (x * y / 18446744073709551616), .int .u64 (x * y % 18446744073709551616)]) ∧ w = w' := by
  obtain ⟨x, rfl⟩ := Int.eq_ofNat_of_zero_le hx.1; obtain ⟨y, rfl⟩ := Int.eq_ofNat_of_zero_le hy.1; have h1 := hx.2; have h2 := hy.2; refine (Tryz.bits_Mul64 x y (by omega) (by omega) w).mono ?_; rintro e w' ⟨rfl, rfl⟩; exact ⟨ret_ii (by simp) (by simp), rfl⟩
set_option maxHeartbeats 400000 in
theorem round_any (a p : Int) (w : World) (h : i64 a) (hp : i64 p) : Calls Tryz.prog 156 #[.int .i64 a, .int .i64 p] w fun e w' => e = .returned (.tuple #[.int .i64 (dRound a p).1, .bool (dRound a p).2]) ∧ Kept w w' := by
  obtain ⟨p1, p2⟩ := hp; have Z := Lib.hid (fun w => size_any a w h)
  by_cases c1 : 4 ≤ p
  · have E : Hid (dRound a p = fit a) := if_pos c1
    have S := fun w => signed_any 0 (Lv.abs a) (decide (a < 0)) w ⟨by omega, by omega⟩ (abs_u64 h); rw [Int.zero_mul, Int.zero_add, show sg (decide (a < 0)) (Lv.abs a) = a from sg_neg_abs a] at S; have HS := Lib.hid S; obtain ⟨h1, h2⟩ := h; clear S; generalize fit a = r at *; generalize Lv.abs a = s at *; go_enter Tryz.func156, Tryz.ntmps156; go_wp2_with fail; refine (Z.out _).mono ?_; rintro e w' ⟨rfl, rfl⟩; go_wp2_with fail; refine (HS.out _).mono ?_; rintro e w' ⟨rfl, rfl⟩; go_wp2_with fail; go_ret2; exact ⟨ret_p E.out, kpt⟩
  · by_cases c2 : p < -15
    · have E : Hid (dRound a p = (0, true)) := by unfold dRound; rw [if_neg c1, if_pos c2]; rfl
      go_enter Tryz.func156, Tryz.ntmps156; go_wp2_with fail; go_ret2; exact ⟨ret_p E.out, kpt⟩
    · have E : Hid (dRound a p = fit (sg (decide (a < 0)) (rnd (Lv.abs a) (unitOf p) * unitOf p))) := by unfold dRound; rw [if_neg c1, if_neg c2]; rfl
      obtain ⟨m, hm⟩ : ∃ m : Nat, m = (4 - p).toNat := ⟨_, rfl⟩; have hm1 : (m : Int) = 4 - p := by omega
      have U : unitOf p = 10 ^ m := by unfold unitOf; rw [hm]
      have u1 := pow10_bounds (k := m) (by omega); have au := abs_u64 h; have al := abs_le h
      have u10 : (10 : Int) ≤ 10 ^ m := by
        have := pow10_bounds (k := m - 1) (by omega); have e : (10 : Int) ^ m = 10 ^ (m - 1) * 10 := by rw [← Int.pow_succ]; congr 1; omega
        omega
      have q0 : 0 ≤ Lv.abs a / 10 ^ m := Int.ediv_nonneg au.1 (by omega)
      have q1 : Lv.abs a / 10 ^ m ≤ 9223372036854775807 := by
        have : Lv.abs a / 10 ^ m < 9223372036854775808 := Int.ediv_lt_of_lt_mul (by omega) (by omega)
        omega
      have N := fun w => nearest_any 0 (Lv.abs a) (10 ^ m) w ⟨by omega, by omega⟩ au ⟨by omega, by omega⟩; rw [Int.zero_mul, Int.zero_add, show near (Lv.abs a) (10 ^ m) = (rnd (Lv.abs a) (10 ^ m), true) from if_pos ⟨by omega, q1⟩] at N; have rb := rnd_bounds (Lv.abs a) (10 ^ m); rw [U] at E; have Mu := fun w => mul64_any (rnd (Lv.abs a) (10 ^ m)) (10 ^ m) w ⟨by omega, by omega⟩ ⟨by omega, by omega⟩; have x0 : 0 ≤ rnd (Lv.abs a) (10 ^ m) * 10 ^ m := Int.mul_nonneg (by omega) (by omega)
      have x1 : rnd (Lv.abs a) (10 ^ m) * 10 ^ m < 340282366920938463463374607431768211456 := by
        have := Int.mul_le_mul (show rnd (Lv.abs a) (10 ^ m) ≤ 9223372036854775808 by omega) u1.2 (by omega) (by omega)
        omega
      have S := fun w => signed_any (rnd (Lv.abs a) (10 ^ m) * 10 ^ m / 18446744073709551616) (rnd (Lv.abs a) (10 ^ m) * 10 ^ m % 18446744073709551616) (decide (a < 0)) w ⟨by omega, by omega⟩ ⟨by omega, by omega⟩; rw [show rnd (Lv.abs a) (10 ^ m) * 10 ^ m / 18446744073709551616 * 18446744073709551616 + rnd (Lv.abs a) (10 ^ m) * 10 ^ m % 18446744073709551616 = rnd (Lv.abs a) (10 ^ m) * 10 ^ m by omega] at S; have HN := Lib.hid N; have HM := Lib.hid Mu; have HS := Lib.hid S; have ub : ∀ k : Nat, k ≤ m → 1 ≤ (10 : Int) ^ k ∧ (10 : Int) ^ k ≤ 10000000000000000000 := fun k hk => pow10_bounds (by omega); have UB := Lib.hid ub; have HM1 := Lib.hid hm1; have hm19 : m ≤ 19 := by omega
      clear N Mu S x0 x1 rb q0 q1 U u10 u1 au al hm ub; obtain rfl : p = 4 - (m : Int) := by omega
      have hm4 : 1 ≤ m := by omega
      clear c1 c2 p1 p2 hm1 HM1; generalize fit (sg (decide (a < 0)) (rnd (Lv.abs a) (10 ^ m) * 10 ^ m)) = res at *; obtain ⟨h1, h2⟩ := h; go_enter Tryz.func156, Tryz.ntmps156; go_wp2_with fail
      go_loop [6, 24] (fun x i => ∃ k : Nat, k ≤ m ∧ i = .int .i64 k ∧ x = .int .u64 (10 ^ k)) (fun _ i => m - (intOf i).toNat)
      case atStart => exact ⟨0, by omega, rfl, by simp⟩
      case round =>
        obtain ⟨k, hk, rfl, rfl⟩ := hrel
        by_cases c : k < m
        · have u2 := (UB.out (k + 1) (by omega)).2
          have u3 := (UB.out k (by omega)).1; have u4 : (10 : Int) ^ (k + 1) = 10 ^ k * 10 := Int.pow_succ ..; have U4 := Lib.hid u4; have u5 : (10 : Int) ^ k * 10 ≤ 18446744073709551615 := by omega
          clear u4 u2; go_wp2_with fail
          go_round
          case rel => exact ⟨k + 1, by omega, by go_num, by rw [U4.out]⟩
          case measure => simp [intOf]; omega
        · obtain rfl : k = m := by omega
          go_wp2_with fail; refine (Z.out _).mono ?_; rintro e w' ⟨rfl, rfl⟩; go_wp2_with fail; refine (HN.out _).mono ?_; rintro e w' ⟨rfl, n, rfl⟩; go_wp2_with fail; refine (HM.out _).mono ?_; rintro e w' ⟨rfl, rfl⟩; go_wp2_with fail; refine (HS.out _).mono ?_; rintro e w' ⟨rfl, rfl⟩; go_wp2_with fail; go_ret2; exact ⟨ret_p E.out, kpt⟩
end Go.Proofs.YtbpkfnoenkoabaaGreatDoor
