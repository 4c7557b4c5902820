/- Sums of layer 1: total over a list, and Sum, Mean, Add, Sub. -/
import Derived.Test.YtingopdeckgpaaaWSum2
import Derived.Test.YtingopdeckgpaaaMSum
namespace Go.Proofs.Ytingopdeckgpaaa
set_option linter.unusedVariables false
set_option linter.unusedSimpArgs false
open Go.RowKit Lv

/-- a slice that reads as these numbers (its first cells) -/
def Row (w : World) (A : Option Addr) (zs : List Int) : Prop := ∀ i, i < zs.length → ∃ b off, A = some ⟨b, off, none⟩ ∧ b < w.heap.size ∧ w.cell? ⟨b, off + i, none⟩ = some (.int .i64 (zs.getD i 0))
theorem Row.kept {w w' : World} {A : Option Addr} {zs : List Int} (h : Row w A zs) (k : Kept w w') : Row w' A zs := fun i hi => by
  obtain ⟨b, off, rfl, hb, hc⟩ := h i hi
  exact ⟨b, off, rfl, Nat.lt_of_lt_of_le hb k.size, (k.cell (p := ⟨b, off + i, none⟩) hb).trans hc⟩
theorem Row.box {w : World} {g : Nat} {t : TypeId} {cs : Array Value} (h : Box w g t cs) {zs : List Int} (hz : ∀ i, i < zs.length → cs[i]? = some (.int .i64 (zs.getD i 0))) : Row w (some ⟨g, 0, none⟩) zs := fun i hi =>
  ⟨g, 0, rfl, h.inside, by rw [Nat.zero_add, h.cell i]; exact hz i hi⟩

def sumCells (zs : List Int) : Array Value := #[.int .u64 (hi64 (up zs)), .int .u64 (hi64 (down zs)), .int .u64 (lo64 (up zs)), .int .u64 (lo64 (down zs))]
theorem sumCells_zero (zs : List Int) : sumCells (zs.take 0) = #[.int .u64 0, .int .u64 0, .int .u64 0, .int .u64 0] := rfl
theorem sumCells_up {l : List Int} {a : Int} (h : All64 (l ++ [a])) (hl : l.length ≤ 9223372036854775807) (c : 0 ≤ a) :
    #[.int .u64 (hi64 (up l) + (lo64 (up l) + Lv.abs a) / 18446744073709551616), .int .u64 (hi64 (down l)), .int .u64 ((lo64 (up l) + Lv.abs a) % 18446744073709551616), .int .u64 (lo64 (down l))] = sumCells (l ++ [a]) := by
  have b := up_bounds l (fun x hx => h x (by simp [hx]))
  have ha := abs_u64 (h a (by simp))
  rw [hi_add b.1 (by omega) ha.1 ha.2, lo_add]
  unfold sumCells
  rw [up_snoc, down_snoc, if_neg (by omega), if_neg (by omega), Int.add_zero]
  rw [show Lv.abs a = a by unfold Lv.abs; rw [if_neg (by omega)]]
theorem sumCells_down {l : List Int} {a : Int} (h : All64 (l ++ [a])) (hl : l.length ≤ 9223372036854775807) (c : a < 0) :
    #[.int .u64 (hi64 (up l)), .int .u64 (hi64 (down l) + (lo64 (down l) + Lv.abs a) / 18446744073709551616), .int .u64 (lo64 (up l)), .int .u64 ((lo64 (down l) + Lv.abs a) % 18446744073709551616)] = sumCells (l ++ [a]) := by
  have b := up_bounds l (fun x hx => h x (by simp [hx]))
  have ha := abs_u64 (h a (by simp))
  rw [hi_add b.2.2.1 (by omega) ha.1 ha.2, lo_add]
  unfold sumCells
  rw [up_snoc, down_snoc, if_pos c, if_pos c, Int.add_zero]
  rw [show Lv.abs a = -a by unfold Lv.abs; rw [if_pos c]]

theorem add_any (l : List Int) (a : Int) (g : Nat) (w : World) (h : All64 (l ++ [a])) (hl : l.length ≤ 9223372036854775807) (hb : Box w g 76 (sumCells l)) :
    Calls Try.prog 48 #[.pointer (some ⟨g, 0, none⟩), .int .i64 a, .bool false] w fun e w' => e = .returned (.tuple #[]) ∧ Only g w w' ∧ Box w' g 76 (sumCells (l ++ [a])) := by
  have b := up_bounds l (fun x hx => h x (by simp [hx]))
  have ha := h a (by simp)
  by_cases c : 0 ≤ a
  · refine (add_ff _ _ _ _ a g w ha hb (hi64_u _) (lo64_u _) c (by have := hi_small b.1 (by omega); omega)).mono ?_
    rintro e w' ⟨he, ho, hb'⟩
    rw [sumCells_up h hl c] at hb'
    exact ⟨he, ho, hb'⟩
  · refine (add_ft _ _ _ _ a g w ha hb (hi64_u _) (lo64_u _) (by omega) (by have := hi_small b.2.2.1 (by omega); omega)).mono ?_
    rintro e w' ⟨he, ho, hb'⟩
    rw [sumCells_down h hl (by omega)] at hb'
    exact ⟨he, ho, hb'⟩

theorem Only.kept' {g : Nat} {a w w' : World} (h : Only g w w') (k : Kept a w) (hg : a.heap.size ≤ g) : Kept a w' := h.kept k hg

set_option maxHeartbeats 1000000 in
theorem total_any (A : Option Addr) (cap : Nat) (zs : List Int) (w : World) (hr : Row w A zs) (h64 : All64 zs) (hlen : zs.length ≤ 9223372036854775807) :
    Calls Try.prog 47 #[.slice A zs.length cap] w fun e w' => e = .returned (.pointer (some ⟨w.heap.size, 0, none⟩)) ∧ Kept w w' ∧ Box w' w.heap.size 76 (sumCells zs) := by
  go_enter Try.func47, Try.ntmps47
  go_wp2_with fail
  go_loopw [10] (fun i wr => ∃ k : Nat, k ≤ zs.length ∧ i = .int .i64 k ∧ Kept w wr ∧ Box wr w.heap.size 76 (sumCells (zs.take k))) (fun i _ => zs.length - (intOf i).toNat)
  case atStart => exact ⟨0, by omega, rfl, (by repeat (first | with_reducible exact Kept.refl _ | with_reducible apply Kept.drew | with_reducible apply Kept.drewN | with_reducible apply Kept.alloc | (with_reducible refine Kept.setCellX ?_ ?_ _; focus (first | (simp; done) | (simp; omega))) | (with_reducible refine Kept.trans ?_ (by assumption)))), by rw [sumCells_zero]; exact (by repeat (first | with_reducible assumption | (with_reducible refine Box.newAt ?_ _ _; (simp; done)) | with_reducible apply Box.drew | with_reducible apply Box.drewN | (with_reducible refine Box.alloc ?_ _) | (with_reducible apply Box.s20) | (with_reducible apply Box.s21) | (with_reducible apply Box.s1) | (with_reducible apply Box.s40) | (with_reducible apply Box.s41) | (with_reducible apply Box.s42) | (with_reducible apply Box.s43) | (with_reducible refine Box.farX ?_ ?_ _; focus (first | (simp; done) | (simp; omega)))))⟩
  case round =>
    obtain ⟨k, hk, rfl, hkept, hbox⟩ := hrel
    by_cases hlt : k < zs.length
    · obtain ⟨b, off, rfl, hb, hc⟩ := hr k hlt
      have hc' : wr.cell? ⟨b, off + k, none⟩ = some (.int .i64 (zs.getD k 0)) := (hkept.cell (p := ⟨b, off + k, none⟩) hb).trans hc
      have ts := take_snoc zs k hlt
      have HA : All64 (zs.take k ++ [zs.getD k 0]) := by rw [← ts]; exact h64.take _
      have HL : (zs.take k).length ≤ 9223372036854775807 := by have := List.length_take_le k zs; omega
      have AD := Lib.hid (fun g w hb => add_any (zs.take k) (zs.getD k 0) g w HA HL hb)
      have TS := Lib.hid ts
      have H64 := Lib.hid h64
      have HR := Lib.hid hr
      clear ts HA HL hc h64 hr
      generalize zs.getD k 0 = a at *
      go_wp2_with fail
      refine (AD.out _ _ hbox).mono ?_
      rintro e w1 ⟨rfl, ho, hb1⟩
      go_wp2_with fail
      go_roundw
      case rel => exact ⟨k + 1, by omega, by go_num, ho.kept hkept (Nat.le_refl _), by rw [TS.out]; exact hb1⟩
      case measure => simp [intOf]; omega
    · obtain rfl : k = zs.length := by omega
      rw [List.take_length] at hbox
      go_wp2_with fail
      go_ret
      exact ⟨rfl, hkept, hbox⟩

/-- the size and the sign of the sum -/
theorem all_sum (zs : List Int) (g : Nat) (w : World) (h64 : All64 zs) (hlen : zs.length ≤ 9223372036854775807) (hb : Box w g 76 (sumCells zs)) :
    Calls Try.prog 50 #[.pointer (some ⟨g, 0, none⟩)] w fun e w' => e = .returned (.tuple #[.int .u64 (hi64 (Lv.abs (total zs))), .int .u64 (lo64 (Lv.abs (total zs))), .bool (Lv.neg (total zs))]) ∧ ∃ n, w' = w.drewN n := by
  have b := up_bounds zs h64
  have e1 : wd (hi64 (up zs)) (lo64 (up zs)) = up zs := wd_in b.1 (by omega)
  have e2 : wd (hi64 (down zs)) (lo64 (down zs)) = down zs := wd_in b.2.2.1 (by omega)
  have H := all_any _ _ _ _ g w hb (hi64_u _) (hi64_u _) (lo64_u _) (lo64_u _)
  rw [e1, e2, up_down] at H
  exact H

theorem total_small (zs : List Int) (h64 : All64 zs) (hlen : zs.length ≤ 9223372036854775807) : 0 ≤ Lv.abs (total zs) ∧ Lv.abs (total zs) < 170141183460469231731687303715884105728 := by
  have b := up_bounds zs h64
  rw [← up_down]
  exact abs_sub_lt b.1 (by omega) b.2.2.1 (by omega)

theorem signed_sum (zs : List Int) (w : World) (h64 : All64 zs) (hlen : zs.length ≤ 9223372036854775807) :
    Calls Try.prog 49 #[.int .u64 (hi64 (Lv.abs (total zs))), .int .u64 (lo64 (Lv.abs (total zs))), .bool (Lv.neg (total zs))] w fun e w' => e = .returned (.tuple #[.int .i64 (dSum zs).1, .bool (dSum zs).2]) ∧ w = w' := by
  have b := total_small zs h64 hlen
  have H := signed_any (hi64 (Lv.abs (total zs))) (lo64 (Lv.abs (total zs))) (Lv.neg (total zs)) w (hi64_u _) (lo64_u _)
  have e : hi64 (Lv.abs (total zs)) * 18446744073709551616 + lo64 (Lv.abs (total zs)) = Lv.abs (total zs) := wd_in b.1 (by omega)
  rw [e, sg_neg_abs] at H
  exact H

theorem sum_any (A : Option Addr) (cap : Nat) (zs : List Int) (w : World) (hr : Row w A zs) (h64 : All64 zs) (hlen : zs.length ≤ 9223372036854775807) :
    Calls Try.prog 26 #[.slice A zs.length cap] w fun e w' => e = .returned (.tuple #[.int .i64 (dSum zs).1, .bool (dSum zs).2]) ∧ Kept w w' := by
  have T := Lib.hid (total_any A cap zs w hr h64 hlen)
  have L := Lib.hid (fun g w => all_sum zs g w h64 hlen)
  have S := Lib.hid (fun w => signed_sum zs w h64 hlen)
  clear hr h64
  go_enter Try.func26, Try.ntmps26
  go_wp2_with fail
  refine T.out.mono ?_
  rintro e w1 ⟨rfl, hk, hb⟩
  go_wp2_with fail
  refine (L.out _ _ hb).mono ?_
  rintro e w' ⟨rfl, n, rfl⟩
  go_wp2_with fail
  refine (S.out _).mono ?_
  rintro e w' ⟨rfl, rfl⟩
  go_wp2_with fail
  go_ret2
  exact ⟨rfl, Kept.trans hk (Kept.of_drewN n)⟩

theorem add2_any (a b : Int) (w : World) (ha : i64 a) (hb : i64 b) :
    Calls Try.prog 15 #[.int .i64 a, .int .i64 b] w fun e w' => e = .returned (.tuple #[.int .i64 (dSum [a, b]).1, .bool (dSum [a, b]).2]) ∧ Kept w w' := by
  have h64 : All64 [a, b] := by
    intro x hx
    simp at hx
    rcases hx with rfl | rfl
    · exact ha
    · exact hb
  have S := Lib.hid (fun A cap w hr => sum_any A cap [a, b] w hr h64 (by simp))
  clear ha hb h64
  go_enter Try.func15, Try.ntmps15
  go_wp2_with fail
  refine (S.out _ _ _ ?hr).mono ?_
  case hr =>
    refine Row.box (g := w.heap.size) (t := 2) (cs := #[.int .i64 a, .int .i64 b]) (by repeat (first | with_reducible assumption | (with_reducible refine Box.newAt ?_ _ _; (simp; done)) | with_reducible apply Box.drew | with_reducible apply Box.drewN | (with_reducible refine Box.alloc ?_ _) | (with_reducible apply Box.s20) | (with_reducible apply Box.s21) | (with_reducible apply Box.s1) | (with_reducible apply Box.s40) | (with_reducible apply Box.s41) | (with_reducible apply Box.s42) | (with_reducible apply Box.s43) | (with_reducible refine Box.farX ?_ ?_ _; focus (first | (simp; done) | (simp; omega))))) ?_
    intro i hi
    match i, hi with
    | 0, _ => rfl
    | 1, _ => rfl
  rintro e w1 ⟨rfl, hk⟩
  go_wp2_with fail
  go_ret2
  exact ⟨rfl, (by repeat (first | with_reducible exact Kept.refl _ | with_reducible apply Kept.drew | with_reducible apply Kept.drewN | with_reducible apply Kept.alloc | (with_reducible refine Kept.setCellX ?_ ?_ _; focus (first | (simp; done) | (simp; omega))) | (with_reducible refine Kept.trans ?_ (by assumption))))⟩

theorem sumCells_minus_up {a b : Int} (ha : i64 a) (hb : i64 b) (c : b < 0) :
    #[.int .u64 (hi64 (up [a]) + (lo64 (up [a]) + Lv.abs b) / 18446744073709551616), .int .u64 (hi64 (down [a])), .int .u64 ((lo64 (up [a]) + Lv.abs b) % 18446744073709551616), .int .u64 (lo64 (down [a]))]
      = (#[.int .u64 (hi64 (up [a] - b)), .int .u64 (hi64 (down [a])), .int .u64 (lo64 (up [a] - b)), .int .u64 (lo64 (down [a]))] : Array Value) := by
  have hb' := abs_u64 hb
  have b0 := up_bounds [a] (fun x hx => by simp at hx; subst hx; exact ha)
  simp only [List.length_cons, List.length_nil] at b0
  rw [hi_add b0.1 (by omega) hb'.1 hb'.2, lo_add]
  rw [show Lv.abs b = -b by unfold Lv.abs; rw [if_pos c], ← Int.sub_eq_add_neg]

theorem sub2_any (a b : Int) (w : World) (ha : i64 a) (hb : i64 b) :
    Calls Try.prog 17 #[.int .i64 a, .int .i64 b] w fun e w' => e = .returned (.tuple #[.int .i64 (fit (a - b)).1, .bool (fit (a - b)).2]) ∧ Kept w w' := by
  have h64 : All64 [a] := by
    intro x hx
    simp at hx
    rcases hx with rfl
    exact ha
  have b0 := up_bounds [a] h64
  simp only [List.length_cons, List.length_nil] at b0
  have ud : up [a] - down [a] = a := by rw [up_down]; simp [total]
  have hbu := abs_u64 hb
  have T := Lib.hid (fun A cap w hr => total_any A cap [a] w hr h64 (by simp))
  -- what add leaves: U and D, whose difference is a - b
  obtain ⟨U, D, hU0, hU1, hD0, hD1, hUD, hAdd⟩ : ∃ U D : Int, 0 ≤ U ∧ U < 170141183460469231731687303715884105728 ∧ 0 ≤ D ∧ D < 170141183460469231731687303715884105728 ∧ U - D = a - b ∧
      ∀ g w, Box w g 76 (sumCells [a]) → Calls Try.prog 48 #[.pointer (some ⟨g, 0, none⟩), .int .i64 b, .bool true] w fun e w' => e = .returned (.tuple #[]) ∧ Only g w w' ∧
        Box w' g 76 #[.int .u64 (hi64 U), .int .u64 (hi64 D), .int .u64 (lo64 U), .int .u64 (lo64 D)] := by
    have hbb := hb
    obtain ⟨hb1, hb2⟩ := hbb
    by_cases c : b < 0
    · refine ⟨up [a] - b, down [a], by omega, by omega, by omega, by omega, by omega, fun g w hbox => ?_⟩
      have H := add_tt _ _ _ _ b g w hb hbox (hi64_u _) (lo64_u _) c (by have := hi_small b0.1 (by omega); omega)
      rw [hi_add b0.1 (by omega) hbu.1 hbu.2, lo_add, show Lv.abs b = -b by unfold Lv.abs; rw [if_pos c], ← Int.sub_eq_add_neg] at H
      exact H
    · refine ⟨up [a], down [a] + b, by omega, by omega, by omega, by omega, by omega, fun g w hbox => ?_⟩
      have H := add_tf _ _ _ _ b g w hb hbox (hi64_u _) (lo64_u _) (by omega) (by have := hi_small b0.2.2.1 (by omega); omega)
      rw [hi_add b0.2.2.1 (by omega) hbu.1 hbu.2, lo_add, show Lv.abs b = b by unfold Lv.abs; rw [if_neg c]] at H
      exact H
  have L := fun g w hb => all_any (hi64 U) (hi64 D) (lo64 U) (lo64 D) g w hb (hi64_u _) (hi64_u _) (lo64_u _) (lo64_u _)
  have e1 : wd (hi64 U) (lo64 U) = U := wd_in hU0 (by omega)
  have e2 : wd (hi64 D) (lo64 D) = D := wd_in hD0 (by omega)
  rw [e1, e2, hUD] at L
  have HL := Lib.hid L
  have bS : 0 ≤ Lv.abs (a - b) ∧ Lv.abs (a - b) < 170141183460469231731687303715884105728 := by rw [← hUD]; exact abs_sub_lt hU0 hU1 hD0 hD1
  have S := fun w => signed_any (hi64 (Lv.abs (a - b))) (lo64 (Lv.abs (a - b))) (Lv.neg (a - b)) w (hi64_u _) (lo64_u _)
  have e : hi64 (Lv.abs (a - b)) * 18446744073709551616 + lo64 (Lv.abs (a - b)) = Lv.abs (a - b) := wd_in bS.1 (by omega)
  rw [e, sg_neg_abs] at S
  have HS := Lib.hid S
  have HA := Lib.hid hAdd
  clear hAdd L S e e1 e2 hUD bS hU0 hU1 hD0 hD1 b0 ud hbu ha hb h64
  generalize a - b = z at *
  go_enter Try.func17, Try.ntmps17
  go_wp2_with fail
  refine (T.out _ _ _ ?hr).mono ?_
  case hr =>
    refine Row.box (g := w.heap.size) (t := 2) (cs := #[.int .i64 a]) (by repeat (first | with_reducible assumption | (with_reducible refine Box.newAt ?_ _ _; (simp; done)) | with_reducible apply Box.drew | with_reducible apply Box.drewN | (with_reducible refine Box.alloc ?_ _) | (with_reducible apply Box.s20) | (with_reducible apply Box.s21) | (with_reducible apply Box.s1) | (with_reducible apply Box.s40) | (with_reducible apply Box.s41) | (with_reducible apply Box.s42) | (with_reducible apply Box.s43) | (with_reducible refine Box.farX ?_ ?_ _; focus (first | (simp; done) | (simp; omega))))) ?_
    intro i hi
    match i, hi with
    | 0, _ => rfl
  rintro e w1 ⟨rfl, hk, hbx⟩
  have hk' : Kept w w1 := (by repeat (first | with_reducible exact Kept.refl _ | with_reducible apply Kept.drew | with_reducible apply Kept.drewN | with_reducible apply Kept.alloc | (with_reducible refine Kept.setCellX ?_ ?_ _; focus (first | (simp; done) | (simp; omega))) | (with_reducible refine Kept.trans ?_ (by assumption))))
  simp only [World.size_alloc] at hbx
  go_wp2_with fail
  refine (HA.out _ _ hbx).mono ?_
  rintro e w2 ⟨rfl, ho, hbx2⟩
  have hk2 : Kept w w2 := ho.kept hk' (by simp)
  clear ho hk hk' hbx
  go_wp2_with fail
  refine (HL.out _ _ hbx2).mono ?_
  rintro e w' ⟨rfl, n, rfl⟩
  go_wp2_with fail
  refine (HS.out _).mono ?_
  rintro e w' ⟨rfl, rfl⟩
  go_wp2_with fail
  go_ret2
  exact ⟨rfl, hk2.drewN n⟩
end Go.Proofs.Ytingopdeckgpaaa
