/- Small texts together: WSum3, WSum4, MRoot, WSqrt, WRoot, WExamples, QTail, RTyped, RTyped3. -/
import Derived.Test.YtbgpbopnfodjoaaDaMixAC
import Derived.Test.YtbgpbopnfodjoaaDaMixAA
import Derived.StillTail
import Derived.Deep.QuietTactic
import Derived.Orders
set_option linter.unusedVariables false
set_option linter.unusedSimpArgs false
namespace Go.Proofs.Ytbgpbopnfodjoaa
open Go.RowKit Lv
def Row (w : World) (A : Option Addr) (zs : List Int) : Prop := ∀ i, i < zs.length → ∃ b off, A = some ⟨b, off, none⟩ ∧ b < w.heap.size ∧ w.cell? ⟨b, off + i, none⟩ = some (.int .i64 (zs.getD i 0))
theorem Row.kept {w w' : World} {A : Option Addr} {zs : List Int} (h : Row w A zs) (k : Kept w w') : Row w' A zs := fun i hi => by
  obtain ⟨b, off, rfl, hb, hc⟩ := h i hi; exact ⟨b, off, rfl, Nat.lt_of_lt_of_le hb k.size, (k.cell (p := ⟨b, off + i, none⟩) hb).trans hc⟩
theorem Row.box {w : World} {g : Nat} {t : TypeId} {cs : Array Value} (h : Box w g t cs) {zs : List Int} (hz : ∀ i, i < zs.length → cs[i]? = some (.int .i64 (zs.getD i 0))) : Row w (some ⟨g, 0, none⟩) zs := fun i hi =>
  ⟨g, 0, rfl, h.inside, by rw [Nat.zero_add, h.cell i]; exact hz i hi⟩
def sumCells (zs : List Int) : Array Value := #[.int .u64 (hi64 (up zs)), .int .u64 (hi64 (down zs)), .int .u64 (lo64 (up zs)), .int .u64 (lo64 (down zs))]
theorem sumCells_zero (zs : List Int) : sumCells (zs.take 0) = #[.int .u64 0, .int .u64 0, .int .u64 0, .int .u64 0] := rfl
theorem sumCells_up {l : List Int} {a : Int} (h : All64 (l ++ [a])) (hl : l.length ≤ 9223372036854775807) (c : 0 ≤ a) :
    #[.int .u64 (hi64 (up l) + (lo64 (up l) + Lv.abs a) / 18446744073709551616), .int .u64 (hi64 (down l)), .int .u64 ((lo64 (up l) + Lv.abs a) % 18446744073709551616), .int .u64 (lo64 (down l))] = sumCells (l ++ [a]) := by
  have b := up_bounds l (fun x hx => h x (by simp [hx])); have ha := abs_u64 (h a (by simp)); rw [hi_add b.1 (by omega) ha.1 ha.2, lo_add]; unfold sumCells; rw [up_snoc, down_snoc, if_neg (by omega), if_neg (by omega), Int.add_zero]; rw [show Lv.abs a = a by unfold Lv.abs; rw [if_neg (by omega)]]
theorem sumCells_down {l : List Int} {a : Int} (h : All64 (l ++ [a])) (hl : l.length ≤ 9223372036854775807) (c : a < 0) :
    #[.int .u64 (hi64 (up l)), .int .u64 (hi64 (down l) + (lo64 (down l) + Lv.abs a) / 18446744073709551616), .int .u64 (lo64 (up l)), .int .u64 ((lo64 (down l) + Lv.abs a) % 18446744073709551616)] = sumCells (l ++ [a]) := by
  have b := up_bounds l (fun x hx => h x (by simp [hx])); have ha := abs_u64 (h a (by simp)); rw [hi_add b.2.2.1 (by omega) ha.1 ha.2, lo_add]; unfold sumCells; rw [up_snoc, down_snoc, if_pos c, if_pos c, Int.add_zero]; rw [show Lv.abs a = -a by unfold Lv.abs; rw [if_pos c]]
theorem add_any (l : List Int) (a : Int) (g : Nat) (w : World) (h : All64 (l ++ [a])) (hl : l.length ≤ 9223372036854775807) (hb : Box w g 56 (sumCells l)) :
    Calls Try.prog 20 #[.pointer (some ⟨g, 0, none⟩), .int .i64 a, .bool false] w fun e w' => e = .returned (.tuple #[]) ∧ Only g w w' ∧ Box w' g 56 (sumCells (l ++ [a])) := by
  have b := up_bounds l (fun x hx => h x (by simp [hx])); have ha := h a (by simp)
  by_cases c : 0 ≤ a
  · refine (add_ff _ _ _ _ a g w ha hb (hi64_u _) (lo64_u _) c (by have := hi_small b.1 (by omega); omega)).mono ?_
    rintro e w' ⟨he, ho, hb'⟩; rw [sumCells_up h hl c] at hb'; exact ⟨he, ho, hb'⟩
  · refine (add_ft _ _ _ _ a g w ha hb (hi64_u _) (lo64_u _) (by omega) (by have := hi_small b.2.2.1 (by omega); omega)).mono ?_
    rintro e w' ⟨he, ho, hb'⟩; rw [sumCells_down h hl (by omega)] at hb'; exact ⟨he, ho, hb'⟩
set_option maxHeartbeats 1000000 in
theorem total_any (A : Option Addr) (cap : Nat) (zs : List Int) (w : World) (hr : Row w A zs) (h64 : All64 zs) (hlen : zs.length ≤ 9223372036854775807) :
    Calls Try.prog 19 #[.slice A zs.length cap] w fun e w' => e = .returned (.pointer (some ⟨w.heap.size, 0, none⟩)) ∧ Kept w w' ∧ Box w' w.heap.size 56 (sumCells zs) := by
  go_enter Try.func19, Try.ntmps19; go_wp2_with fail
  go_loopw [10] (fun i wr => ∃ k : Nat, k ≤ zs.length ∧ i = .int .i64 k ∧ Kept w wr ∧ Box wr w.heap.size 56 (sumCells (zs.take k))) (fun i _ => zs.length - (intOf i).toNat)
  case atStart => exact ⟨0, by omega, rfl, kpt, by rw [sumCells_zero]; exact bxd⟩
  case round =>
    obtain ⟨k, hk, rfl, hkept, hbox⟩ := hrel
    by_cases hlt : k < zs.length
    · obtain ⟨b, off, rfl, hb, hc⟩ := hr k hlt
      have hc' : wr.cell? ⟨b, off + k, none⟩ = some (.int .i64 (zs.getD k 0)) := (hkept.cell (p := ⟨b, off + k, none⟩) hb).trans hc; have ts := take_snoc zs k hlt; have HA : All64 (zs.take k ++ [zs.getD k 0]) := by rw [← ts]; exact h64.take _
      have HL : (zs.take k).length ≤ 9223372036854775807 := by have := List.length_take_le k zs; omega
      have AD := Lib.hid (fun g w hb => add_any (zs.take k) (zs.getD k 0) g w HA HL hb); have TS := Lib.hid ts; have H64 := Lib.hid h64; have HR := Lib.hid hr; clear ts HA HL hc h64 hr; generalize zs.getD k 0 = a at *; go_wp2_with fail; refine (AD.out _ _ hbox).mono ?_; rintro e w1 ⟨rfl, ho, hb1⟩; go_wp2_with fail
      go_roundw
      case rel => exact ⟨k + 1, by omega, by go_num, ho.kept hkept (Nat.le_refl _), by rw [TS.out]; exact hb1⟩
      case measure => simp [intOf]; omega
    · obtain rfl : k = zs.length := by omega
      rw [List.take_length] at hbox; go_wp2_with fail; go_ret; exact ⟨rfl, hkept, hbox⟩
theorem all_sum (zs : List Int) (g : Nat) (w : World) (h64 : All64 zs) (hlen : zs.length ≤ 9223372036854775807) (hb : Box w g 56 (sumCells zs)) :
    Calls Try.prog 22 #[.pointer (some ⟨g, 0, none⟩)] w fun e w' => e = .returned (.tuple #[.int .u64 (hi64 (Lv.abs (total zs))), .int .u64 (lo64 (Lv.abs (total zs))), .bool (Lv.neg (total zs))]) ∧ ∃ n, w' = w.drewN n := by
  have b := up_bounds zs h64; have e1 : wd (hi64 (up zs)) (lo64 (up zs)) = up zs := wd_in b.1 (by omega); have e2 : wd (hi64 (down zs)) (lo64 (down zs)) = down zs := wd_in b.2.2.1 (by omega); have H := all_any _ _ _ _ g w hb (hi64_u _) (hi64_u _) (lo64_u _) (lo64_u _); rw [e1, e2, up_down] at H; exact H
theorem total_small (zs : List Int) (h64 : All64 zs) (hlen : zs.length ≤ 9223372036854775807) : 0 ≤ Lv.abs (total zs) ∧ Lv.abs (total zs) < 170141183460469231731687303715884105728 := by
  have b := up_bounds zs h64; rw [← up_down]; exact abs_sub_lt b.1 (by omega) b.2.2.1 (by omega)
theorem signed_sum (zs : List Int) (w : World) (h64 : All64 zs) (hlen : zs.length ≤ 9223372036854775807) :
    Calls Try.prog 21 #[.int .u64 (hi64 (Lv.abs (total zs))), .int .u64 (lo64 (Lv.abs (total zs))), .bool (Lv.neg (total zs))] w fun e w' => e = .returned (.tuple #[.int .i64 (dSum zs).1, .bool (dSum zs).2]) ∧ w = w' := by
  have b := total_small zs h64 hlen; have H := signed_any (hi64 (Lv.abs (total zs))) (lo64 (Lv.abs (total zs))) (Lv.neg (total zs)) w (hi64_u _) (lo64_u _); have e : hi64 (Lv.abs (total zs)) * 18446744073709551616 + lo64 (Lv.abs (total zs)) = Lv.abs (total zs) := wd_in b.1 (by omega); rw [e, sg_neg_abs] at H; exact H
theorem sum_any (A : Option Addr) (cap : Nat) (zs : List Int) (w : World) (hr : Row w A zs) (h64 : All64 zs) (hlen : zs.length ≤ 9223372036854775807) :
    Calls Try.prog 15 #[.slice A zs.length cap] w fun e w' => e = .returned (.tuple #[.int .i64 (dSum zs).1, .bool (dSum zs).2]) ∧ Kept w w' := by
  have T := Lib.hid (total_any A cap zs w hr h64 hlen); have L := Lib.hid (fun g w => all_sum zs g w h64 hlen); have S := Lib.hid (fun w => signed_sum zs w h64 hlen); clear hr h64; go_enter Try.func15, Try.ntmps15; go_wp2_with fail; refine T.out.mono ?_; rintro e w1 ⟨rfl, hk, hb⟩; go_wp2_with fail; refine (L.out _ _ hb).mono ?_; rintro e w' ⟨rfl, n, rfl⟩; go_wp2_with fail; refine (S.out _).mono ?_; rintro e w' ⟨rfl, rfl⟩; go_wp2_with fail; go_ret2; exact ⟨rfl, Kept.trans hk (Kept.of_drewN n)⟩
theorem add2_any (a b : Int) (w : World) (ha : i64 a) (hb : i64 b) :
    Calls Try.prog 5 #[.int .i64 a, .int .i64 b] w fun e w' => e = .returned (.tuple #[.int .i64 (dSum [a, b]).1, .bool (dSum [a, b]).2]) ∧ Kept w w' := by
  have h64 : All64 [a, b] := by
    intro x hx
    simp at hx
    rcases hx with rfl | rfl
    · exact ha
    · exact hb
  have S := Lib.hid (fun A cap w hr => sum_any A cap [a, b] w hr h64 (by simp)); clear ha hb h64; go_enter Try.func5, Try.ntmps5; go_wp2_with fail; refine (S.out _ _ _ ?hr).mono ?_
  case hr =>
    refine Row.box (g := w.heap.size) (t := 2) (cs := #[.int .i64 a, .int .i64 b]) bxd ?_; intro i hi
    match i, hi with
    | 0, _ => rfl
    | 1, _ => rfl
  rintro e w1 ⟨rfl, hk⟩; go_wp2_with fail; go_ret2; exact ⟨rfl, kpt⟩
theorem sub2_any (a b : Int) (w : World) (ha : i64 a) (hb : i64 b) :
    Calls Try.prog 6 #[.int .i64 a, .int .i64 b] w fun e w' => e = .returned (.tuple #[.int .i64 (fit (a - b)).1, .bool (fit (a - b)).2]) ∧ Kept w w' := by
  have h64 : All64 [a] := by
    intro x hx
    simp at hx
    rcases hx with rfl
    exact ha
  have b0 := up_bounds [a] h64
  simp only [List.length_cons, List.length_nil] at b0
  have ud : up [a] - down [a] = a := by rw [up_down]; simp [total]
  have hbu := abs_u64 hb; have T := Lib.hid (fun A cap w hr => total_any A cap [a] w hr h64 (by simp))
  -- what add leaves: U and D, whose difference is a - b
  obtain ⟨U, D, hU0, hU1, hD0, hD1, hUD, hAdd⟩ : ∃ U D : Int, 0 ≤ U ∧ U < 170141183460469231731687303715884105728 ∧ 0 ≤ D ∧ D < 170141183460469231731687303715884105728 ∧ U - D = a - b ∧
      ∀ g w, Box w g 56 (sumCells [a]) → Calls Try.prog 20 #[.pointer (some ⟨g, 0, none⟩), .int .i64 b, .bool true] w fun e w' => e = .returned (.tuple #[]) ∧ Only g w w' ∧
        Box w' g 56 #[.int .u64 (hi64 U), .int .u64 (hi64 D), .int .u64 (lo64 U), .int .u64 (lo64 D)] := by
    have hbb := hb; obtain ⟨hb1, hb2⟩ := hbb
    by_cases c : b < 0
    · refine ⟨up [a] - b, down [a], by omega, by omega, by omega, by omega, by omega, fun g w hbox => ?_⟩
      have H := add_tt _ _ _ _ b g w hb hbox (hi64_u _) (lo64_u _) c (by have := hi_small b0.1 (by omega); omega); rw [hi_add b0.1 (by omega) hbu.1 hbu.2, lo_add, show Lv.abs b = -b by unfold Lv.abs; rw [if_pos c], ← Int.sub_eq_add_neg] at H; exact H
    · refine ⟨up [a], down [a] + b, by omega, by omega, by omega, by omega, by omega, fun g w hbox => ?_⟩
      have H := add_tf _ _ _ _ b g w hb hbox (hi64_u _) (lo64_u _) (by omega) (by have := hi_small b0.2.2.1 (by omega); omega); rw [hi_add b0.2.2.1 (by omega) hbu.1 hbu.2, lo_add, show Lv.abs b = b by unfold Lv.abs; rw [if_neg c]] at H; exact H
  have L := fun g w hb => all_any (hi64 U) (hi64 D) (lo64 U) (lo64 D) g w hb (hi64_u _) (hi64_u _) (lo64_u _) (lo64_u _); have e1 : wd (hi64 U) (lo64 U) = U := wd_in hU0 (by omega); have e2 : wd (hi64 D) (lo64 D) = D := wd_in hD0 (by omega); rw [e1, e2, hUD] at L; have HL := Lib.hid L; have bS : 0 ≤ Lv.abs (a - b) ∧ Lv.abs (a - b) < 170141183460469231731687303715884105728 := by rw [← hUD]; exact abs_sub_lt hU0 hU1 hD0 hD1
  have S := fun w => signed_any (hi64 (Lv.abs (a - b))) (lo64 (Lv.abs (a - b))) (Lv.neg (a - b)) w (hi64_u _) (lo64_u _); have e : hi64 (Lv.abs (a - b)) * 18446744073709551616 + lo64 (Lv.abs (a - b)) = Lv.abs (a - b) := wd_in bS.1 (by omega); rw [e, sg_neg_abs] at S; have HS := Lib.hid S; have HA := Lib.hid hAdd; clear hAdd L S e e1 e2 hUD bS hU0 hU1 hD0 hD1 b0 ud hbu ha hb h64; generalize a - b = z at *; go_enter Try.func6, Try.ntmps6; go_wp2_with fail; refine (T.out _ _ _ ?hr).mono ?_
  case hr =>
    refine Row.box (g := w.heap.size) (t := 2) (cs := #[.int .i64 a]) bxd ?_; intro i hi
    match i, hi with
    | 0, _ => rfl
  rintro e w1 ⟨rfl, hk, hbx⟩; have hk' : Kept w w1 := kpt
  simp only [World.size_alloc] at hbx
  go_wp2_with fail; refine (HA.out _ _ hbx).mono ?_; rintro e w2 ⟨rfl, ho, hbx2⟩; have hk2 : Kept w w2 := ho.kept hk' (by simp); clear ho hk hk' hbx; go_wp2_with fail; refine (HL.out _ _ hbx2).mono ?_; rintro e w' ⟨rfl, n, rfl⟩; go_wp2_with fail; refine (HS.out _).mono ?_; rintro e w' ⟨rfl, rfl⟩; go_wp2_with fail; go_ret2; exact ⟨rfl, hk2.drewN n⟩
end Go.Proofs.Ytbgpbopnfodjoaa

namespace Go.Proofs.Ytbgpbopnfodjoaa
open Go.RowKit Lv
set_option maxHeartbeats 400000 in
theorem mean_any (A : Option Addr) (cap : Nat) (zs : List Int) (w : World) (hr : Row w A zs) (h64 : All64 zs) (hlen : zs.length ≤ 9223372036854775807) :
    Calls Try.prog 16 #[.slice A zs.length cap] w fun e w' => e = .returned (.tuple #[.int .i64 (dMean zs).1, .bool (dMean zs).2]) ∧ Kept w w' := by
  have T := Lib.hid (total_any A cap zs w hr h64 hlen); have L := Lib.hid (fun g w => all_sum zs g w h64 hlen); have b := total_small zs h64 hlen; have N := fun w => nearest_any (hi64 (Lv.abs (total zs))) (lo64 (Lv.abs (total zs))) zs.length w (hi64_u _) (lo64_u _) ⟨by omega, by omega⟩; have e : hi64 (Lv.abs (total zs)) * 18446744073709551616 + lo64 (Lv.abs (total zs)) = Lv.abs (total zs) := wd_in b.1 (by omega); rw [e] at N; have b1 := b.1; clear e b
  by_cases c : (zs.length : Int) ≠ 0 ∧ Lv.abs (total zs) / zs.length ≤ 9223372036854775807
  · have E : near (Lv.abs (total zs)) zs.length = (rnd (Lv.abs (total zs)) zs.length, true) := if_pos c
    rw [E] at N; have q0 : 0 ≤ Lv.abs (total zs) / zs.length := Int.ediv_nonneg b1 (by omega); have rb := rnd_bounds (Lv.abs (total zs)) zs.length; have S := fun w => signed_any 0 (rnd (Lv.abs (total zs)) zs.length) (Lv.neg (total zs)) w ⟨by omega, by omega⟩ ⟨by omega, by omega⟩
    have D : dMean zs = fit (sg (Lv.neg (total zs)) (0 * 18446744073709551616 + rnd (Lv.abs (total zs)) zs.length)) := by
      unfold dMean; rw [if_neg (by intro h; subst h; simp at c), Int.zero_mul, Int.zero_add]
    rw [← D] at S; have HS := Lib.hid S; have HN := Lib.hid N; clear S N D q0 rb c E hr h64 b1; generalize rnd (Lv.abs (total zs)) zs.length = q at *; generalize dMean zs = r at *; generalize hi64 (Lv.abs (total zs)) = x1 at *; generalize lo64 (Lv.abs (total zs)) = x0 at *; generalize Lv.neg (total zs) = ng at *; go_enter Try.func16, Try.ntmps16; go_wp2_with fail; refine T.out.mono ?_; rintro e w1 ⟨rfl, hk, hb⟩; go_wp2_with fail; refine (L.out _ _ hb).mono ?_; rintro e w' ⟨rfl, n, rfl⟩; go_wp2_with fail; refine (HN.out _).mono ?_; rintro e w' ⟨rfl, n2, rfl⟩; go_wp2_with fail; refine (HS.out _).mono ?_; rintro e w' ⟨rfl, rfl⟩; go_wp2_with fail; go_ret2; exact ⟨rfl, kpt⟩
  · have E : near (Lv.abs (total zs)) zs.length = (0, false) := if_neg c
    rw [E] at N
    have D : dMean zs = (0, false) := by
      unfold dMean
      by_cases h : zs = []
      · rw [if_pos h]
      · rw [if_neg h]
        have hl : 0 < zs.length := List.length_pos_iff.2 h; have rb := rnd_bounds (Lv.abs (total zs)) zs.length; refine fit_out ?_
        cases Lv.neg (total zs) <;> simp only [sg] <;> simp <;> omega
    rw [D]; have HN := Lib.hid N; clear N D c E hr h64 b1; generalize hi64 (Lv.abs (total zs)) = x1 at *; generalize lo64 (Lv.abs (total zs)) = x0 at *; generalize Lv.neg (total zs) = ng at *; go_enter Try.func16, Try.ntmps16; go_wp2_with fail; refine T.out.mono ?_; rintro e w1 ⟨rfl, hk, hb⟩; go_wp2_with fail; refine (L.out _ _ hb).mono ?_; rintro e w' ⟨rfl, n, rfl⟩; go_wp2_with fail; refine (HN.out _).mono ?_; rintro e w' ⟨rfl, n2, rfl⟩; go_wp2_with fail; go_ret2; exact ⟨rfl, kpt⟩
end Go.Proofs.Ytbgpbopnfodjoaa

namespace Go.Proofs.Ytbgpbopnfodjoaa.Lv
open Go
def isq : Nat → Nat → Nat
  | 0, _ => 0
  | n + 1, X => if (isq n X + 1) * (isq n X + 1) ≤ X then isq n X + 1 else isq n X
theorem isq_spec : ∀ (n X : Nat), isq n X * isq n X ≤ X ∧ isq n X ≤ n ∧ (isq n X < n → X < (isq n X + 1) * (isq n X + 1))
  | 0, X => by simp [isq]
  | n + 1, X => by
    obtain ⟨h1, h2, h3⟩ := isq_spec n X; unfold isq
    split
    · rename_i c
      refine ⟨c, by omega, fun h => ?_⟩; have : isq n X < n := by omega
      have := h3 this
      omega
    · rename_i c
      exact ⟨h1, by omega, fun _ => by omega⟩
def root (a : Int) : Nat := isq (a * 10000).toNat (a * 10000).toNat
theorem root_spec {a : Int} (h : 0 ≤ a) : (root a : Int) * root a ≤ a * 10000 ∧ a * 10000 < ((root a : Int) + 1) * (root a + 1) := by
  obtain ⟨h1, h2, h3⟩ := isq_spec (a * 10000).toNat (a * 10000).toNat; unfold root; generalize isq (a * 10000).toNat (a * 10000).toNat = r at *; have e : ((a * 10000).toNat : Int) = a * 10000 := Int.toNat_of_nonneg (by omega); generalize (a * 10000).toNat = X at *; rw [← e]; refine ⟨by rw [← Int.natCast_mul]; exact Int.ofNat_le.2 h1, ?_⟩
  have h4 : X < (r + 1) * (r + 1) := by
    rcases Nat.lt_or_ge r X with h | h
    · exact h3 h
    · have : r = X := by omega
      subst this; have := Nat.mul_le_mul (show r ≤ r + 1 by omega) (show 1 ≤ r + 1 by omega); have := Nat.mul_le_mul (show r + 1 ≤ r + 1 by omega) (show 1 ≤ r + 1 by omega)
      omega
  have := Int.ofNat_lt.2 h4
  simpa using this
theorem sq_lt {x y : Int} (hx : 0 ≤ x) (hy : 0 ≤ y) (h : x * x < y * y) : x < y := by
  by_cases c : x < y
  · exact c
  · have := Int.mul_le_mul (show y ≤ x by omega) (show y ≤ x by omega) hy hx
    omega
theorem root_unique {a r : Int} (h : 0 ≤ a) (r0 : 0 ≤ r) (r1 : r * r ≤ a * 10000) (r2 : a * 10000 < (r + 1) * (r + 1)) : r = root a := by
  obtain ⟨h1, h2⟩ := root_spec h; have a1 : r < (root a : Int) + 1 := sq_lt r0 (by omega) (by omega); have a2 : (root a : Int) < r + 1 := sq_lt (by omega) (by omega) (by omega)
  omega
def dSqrt (a : Int) : Int × Bool := if a < 0 then (0, false) else (root a, true)
def pw (a : Int) : Nat → Int × Bool
  | 0 => (10000, true)
  | n + 1 => if (pw a n).2 = true then dMul (pw a n).1 a else (0, false)
def dPow (a n : Int) : Int × Bool :=
  if n < -1000 ∨ 1000 < n then (0, false)
  else if n < 0 then (if (pw a (-n).toNat).2 = true then dQuo 10000 (pw a (-n).toNat).1 else (0, false))
  else pw a n.toNat
theorem fit_i64 (n : Int) : i64 (fit n).1 := by unfold fit i64; split <;> simp; omega
theorem dMul_i64 (a b : Int) : i64 (dMul a b).1 := fit_i64 _
theorem fit_false {n : Int} (h : (fit n).2 = false) : (fit n).1 = 0 := by
  by_cases c : -9223372036854775807 ≤ n ∧ n ≤ 9223372036854775807
  · rw [fit_in c.1 c.2] at h; cases h
  · rw [fit_out (by omega)]
theorem dMul_false {a b : Int} (h : (dMul a b).2 = false) : dMul a b = (0, false) := Prod.ext (fit_false h) h
theorem pw_i64 (a : Int) : ∀ n, i64 (pw a n).1
  | 0 => by show i64 10000; exact ⟨by decide, by decide⟩
  | n + 1 => by unfold pw; split; exact dMul_i64 _ _; exact ⟨by decide, by decide⟩
theorem pw_false {a : Int} : ∀ {n : Nat}, (pw a n).2 = false → pw a n = (0, false)
  | 0, h => by cases h
  | n + 1, h => by
    unfold pw at *
    split at h
    · rename_i c; rw [if_pos c]; exact dMul_false h
    · rename_i c; rw [if_neg c]
theorem pw_stays {a : Int} {n : Nat} (h : (pw a n).2 = false) : ∀ k, pw a (n + k) = (0, false)
  | 0 => pw_false h
  | k + 1 => by
    show pw a ((n + k) + 1) = _; unfold pw; rw [pw_stays h k]
    rfl
def unitOf (places : Int) : Int := 10 ^ (4 - places).toNat
def dRound (a places : Int) : Int × Bool :=
  if 4 ≤ places then fit a
  else if places < -15 then (0, true)
  else fit (sg (neg a) (rnd (abs a) (unitOf places) * unitOf places))
def dTrunc (a : Int) : Int := a - a.tmod 10000
theorem tmod_nonneg {a : Int} (h : 0 ≤ a) : a.tmod 10000 = a % 10000 := Int.tmod_eq_emod_of_nonneg h
theorem tmod_neg {a : Int} (h : a < 0) : a.tmod 10000 = -((-a) % 10000) := by
  have e := Int.neg_tmod (-a) 10000; rw [Int.neg_neg, tmod_nonneg (a := -a) (by omega)] at e; exact e
theorem tmod_bounds (a : Int) : -9999 ≤ a.tmod 10000 ∧ a.tmod 10000 ≤ 9999 ∧ (0 ≤ a → 0 ≤ a.tmod 10000 ∧ a.tmod 10000 ≤ a) ∧ (a ≤ 0 → a.tmod 10000 ≤ 0 ∧ a ≤ a.tmod 10000) := by
  by_cases c : 0 ≤ a
  · rw [tmod_nonneg c]; omega
  · rw [tmod_neg (by omega)]; omega
def dFloor (a : Int) : Int × Bool := if a < dTrunc a then fit (dTrunc a - 10000) else (dTrunc a, true)
theorem pow10_bounds {k : Nat} (h : k ≤ 19) : 1 ≤ (10 : Int) ^ k ∧ (10 : Int) ^ k ≤ 10000000000000000000 := by
  have h1 := Nat.pow_le_pow_right (n := 10) (by omega) h; have h2 := Nat.pow_pos (n := k) (show 0 < 10 by omega); have e : ((10 ^ k : Nat) : Int) = 10 ^ k := by simp
  rw [← e]
  omega
end Go.Proofs.Ytbgpbopnfodjoaa.Lv

namespace Go.Proofs.Ytbgpbopnfodjoaa
open Go.RowKit Lv
set_option maxHeartbeats 800000 in
theorem sqrt_nat (n : Nat) (w : World) (hn : n ≤ 9223372036854775807) : Calls Try.prog 13 #[.int .i64 n] w fun e w' => e = .returned (.tuple #[.int .i64 (root n), .bool true]) ∧ w = w' := by
  have M := Lib.hid (Try.bits_Mul64 n 10000 (by omega) (by omega) w); have X1 : n * 10000 / 18446744073709551616 * 18446744073709551616 + n * 10000 % 18446744073709551616 = n * 10000 := by omega
  have X2 : n * 10000 < 1208925819614629174706176 := by omega
  have X3 : n * 10000 / 18446744073709551616 ≤ 65536 := by omega
  have X4 : n * 10000 % 18446744073709551616 < 18446744073709551616 := by omega
  have HX := Lib.hid X1; clear X1; generalize n * 10000 / 18446744073709551616 = hi at *; generalize n * 10000 % 18446744073709551616 = lo at *; go_enter Try.func13, Try.ntmps13; go_wp2_with fail; refine (M.out).mono ?_; rintro e w' ⟨rfl, rfl⟩; go_wp2_with fail
  go_loop [6, 19] (fun x i => ∃ k q r : Nat, k ≤ 40 ∧ r = q * 2 ^ (40 - k) ∧ i = .int .i64 k ∧ x = .int .u64 (r : Int) ∧ r * r ≤ n * 10000 ∧ n * 10000 < (r + 2 ^ (40 - k)) * (r + 2 ^ (40 - k))) (fun _ i => 40 - (intOf i).toNat)
  case atStart => exact ⟨0, 0, 0, by omega, by simp, rfl, rfl, by omega, by simp; omega⟩
  case round =>
    obtain ⟨k, q, r, hk, hr, rfl, rfl, h1, h2⟩ := hrel
    have r40 : r < 1099511627776 := by
      have : (r : Int) < 1099511627776 := sq_lt (by omega) (by omega) (by have := Int.ofNat_le.2 h1; simp at this; omega)
      omega
    by_cases c : k < 40
    · obtain ⟨m, hm⟩ : ∃ m : Nat, m = 2 ^ (39 - k) := ⟨_, rfl⟩
      have hp : (2 : Nat) ^ (40 - k) = 2 * m := by rw [hm, show 40 - k = (39 - k) + 1 by omega, Nat.pow_succ]; omega
      have m0 : 0 < m := by rw [hm]; exact Nat.two_pow_pos _
      have m1 : m ≤ 549755813888 := by rw [hm]; exact Nat.pow_le_pow_right (n := 2) (by omega) (show 39 - k ≤ 39 by omega)
      obtain ⟨s, hs⟩ : ∃ s : Nat, s = r + m := ⟨_, rfl⟩
      have e3 : bits .or .u64 (r : Int) (IntKind.u64.wrap (2 ^ (39 - k))) = (s : Int) := by
        have e : IntKind.u64.wrap (2 ^ (39 - k)) = (m : Int) := by
          have e4 : ((2 ^ (39 - k) : Nat) : Int) = 2 ^ (39 - k) := by simp
          rw [← e4, ← hm]; exact wrap_in _ (by omega) (by omega)
        rw [e, hs, hr]; exact or_add q (40 - k) m (by omega) (by omega)
      have hs0 : s < 18446744073709551616 := by omega
      have MM := Lib.hid (Try.bits_Mul64 s s hs0 hs0); have ss : s * s / 18446744073709551616 * 18446744073709551616 + s * s % 18446744073709551616 = s * s := by omega
      have sl : s * s % 18446744073709551616 < 18446744073709551616 := Nat.mod_lt _ (by omega); have hx := HX.out; have HS := Lib.hid hs; have HM := Lib.hid hm; have HR := Lib.hid hr; have HP := Lib.hid hp; have H1 := Lib.hid h1; have H2 := Lib.hid h2; have A1 : Hid (r + 2 ^ (40 - k) = s + 2 ^ (40 - (k + 1))) := by rw [hp, show 40 - (k + 1) = 39 - k by omega, ← hm, hs]; show _ = _; omega
      have A2 : Hid (s = (2 * q + 1) * 2 ^ (40 - (k + 1))) := by rw [show 40 - (k + 1) = 39 - k by omega, ← hm, hs, hr, hp, Nat.add_mul]; show _ = _; rw [show 2 * q * m = q * (2 * m) by rw [Nat.mul_comm 2 q, Nat.mul_assoc]]; omega
      have A3 : Hid (r = (2 * q) * 2 ^ (40 - (k + 1))) := by rw [show 40 - (k + 1) = 39 - k by omega, ← hm, hr, hp]; show _ = _; rw [Nat.mul_comm 2 q, Nat.mul_assoc]
      have A4 : Hid (r + 2 ^ (40 - (k + 1)) = s) := by rw [show 40 - (k + 1) = 39 - k by omega, ← hm, hs]; rfl
      clear hs hm hr hp h1 h2; generalize s * s / 18446744073709551616 = hh at *; generalize s * s % 18446744073709551616 = ll at *
      by_cases T : s * s ≤ n * 10000
      · have R : Hid (s * s ≤ n * 10000) := T
        by_cases g : hh < hi
        · clear hx ss T
          go_wp2_with fail; refine (MM.out _).mono ?_; rintro e w' ⟨rfl, rfl⟩; go_wp2_with fail
          go_round
          case rel => exact ⟨k + 1, 2 * q + 1, s, by omega, A2.out, by go_num, rfl, R.out, by rw [← A1.out]; exact H2.out⟩
          case measure => simp [intOf]; omega
        · have g1 : ((hh : Int) == (hi : Int)) = true := by rw [beq_iff_eq]; omega
          have g2 : ll ≤ lo := by omega
          clear hx ss T; go_wp2_with fail; refine (MM.out _).mono ?_; rintro e w' ⟨rfl, rfl⟩; go_wp2_with fail
          go_round
          case rel => exact ⟨k + 1, 2 * q + 1, s, by omega, A2.out, by go_num, rfl, R.out, by rw [← A1.out]; exact H2.out⟩
          case measure => simp [intOf]; omega
      · have R : Hid (n * 10000 < s * s) := by show _ < _; omega
        have g : ¬ hh < hi := by omega
        by_cases g0 : hh = hi
        · have g1 : ((hh : Int) == (hi : Int)) = true := by rw [beq_iff_eq]; omega
          have g2 : ¬ ll ≤ lo := by omega
          clear hx ss T g0; go_wp2_with fail; refine (MM.out _).mono ?_; rintro e w' ⟨rfl, rfl⟩; go_wp2_with fail
          go_round
          case rel => exact ⟨k + 1, 2 * q, r, by omega, A3.out, by go_num, rfl, H1.out, by rw [A4.out]; exact R.out⟩
          case measure => simp [intOf]; omega
        · have g1 : ((hh : Int) == (hi : Int)) = false := by rw [beq_eq_false_iff_ne]; omega
          clear hx ss T g0; go_wp2_with fail; refine (MM.out _).mono ?_; rintro e w' ⟨rfl, rfl⟩; go_wp2_with fail
          go_round
          case rel => exact ⟨k + 1, 2 * q, r, by omega, A3.out, by go_num, rfl, H1.out, by rw [A4.out]; exact R.out⟩
          case measure => simp [intOf]; omega
    · obtain rfl : k = 40 := by omega
      have E : Hid ((r : Int) = root n) := by
        refine root_unique (by omega) (by omega) ?_ ?_
        · have := Int.ofNat_le.2 h1; simpa using this
        · have := Int.ofNat_lt.2 h2; simpa using this
      clear h1 h2 hr; go_wp2_with fail; go_ret2; exact ⟨ret_ib E.out rfl, rfl⟩
theorem sqrt_any (a : Int) (w : World) (h : i64 a) : Calls Try.prog 13 #[.int .i64 a] w fun e w' => e = .returned (.tuple #[.int .i64 (dSqrt a).1, .bool (dSqrt a).2]) ∧ w = w' := by
  by_cases c : a < 0
  · have E : Hid (dSqrt a = (0, false)) := if_pos c
    go_enter Try.func13, Try.ntmps13; go_wp2_with fail; go_ret2; exact ⟨ret_p E.out, rfl⟩
  · have E : dSqrt a = ((root a : Int), true) := if_neg c
    rw [E]; obtain ⟨n, rfl⟩ := Int.eq_ofNat_of_zero_le (show 0 ≤ a by omega); exact sqrt_nat n w (by have := h.2; omega)
end Go.Proofs.Ytbgpbopnfodjoaa

namespace Go.Proofs.Ytbgpbopnfodjoaa
open Go.RowKit Lv
theorem trunc_any (a : Int) (w : World) (h : i64 a) : Calls Try.prog 11 #[.int .i64 a] w fun e w' => e = .returned (.int .i64 (dTrunc a)) ∧ w = w' := by
  obtain ⟨h1, h2⟩ := h; have tb := tmod_bounds a; have b1 : -9223372036854775808 ≤ a - a.tmod 10000 := by omega
  have b2 : a - a.tmod 10000 ≤ 9223372036854775807 := by omega
  by_cases c : 0 ≤ a
  · have e : a.tmod 10000 = a % 10000 := Int.tmod_eq_emod_of_nonneg c
    have E : Hid (a - a % 10000 = dTrunc a) := by unfold dTrunc; rw [e]; rfl
    clear e; go_enter Try.func11, Try.ntmps11; go_wp2_with fail; go_ret; exact ⟨ret_int E.out, rfl⟩
  · go_enter Try.func11, Try.ntmps11
    go_wp2_with fail; go_ret; exact ⟨ret_int rfl, rfl⟩
theorem dTrunc_i64 {a : Int} (h : i64 a) : i64 (dTrunc a) := by
  obtain ⟨h1, h2⟩ := h; have tb := tmod_bounds a; unfold dTrunc i64
  omega
theorem floor_any (a : Int) (w : World) (h : i64 a) : Calls Try.prog 12 #[.int .i64 a] w fun e w' => e = .returned (.tuple #[.int .i64 (dFloor a).1, .bool (dFloor a).2]) ∧ Kept w w' := by
  have T := Lib.hid (fun w => trunc_any a w h); have S := Lib.hid (fun w => sub2_any (dTrunc a) 10000 w (dTrunc_i64 h) ⟨by omega, by omega⟩)
  by_cases c : a < dTrunc a
  · have E : Hid (dFloor a = fit (dTrunc a - 10000)) := if_pos c
    obtain ⟨h1, h2⟩ := h; generalize fit (dTrunc a - 10000) = r at *; generalize dTrunc a = t at *; go_enter Try.func12, Try.ntmps12; go_wp2_with fail; refine (T.out _).mono ?_; rintro e w' ⟨rfl, rfl⟩; go_wp2_with fail; refine (S.out _).mono ?_; rintro e w' ⟨rfl, k1⟩; go_wp2_with fail; go_ret2; exact ⟨ret_p E.out, kpt⟩
  · have E : Hid (dFloor a = (dTrunc a, true)) := if_neg c
    obtain ⟨h1, h2⟩ := h; generalize dTrunc a = t at *; go_enter Try.func12, Try.ntmps12; go_wp2_with fail; refine (T.out _).mono ?_; rintro e w' ⟨rfl, rfl⟩; go_wp2_with fail; go_ret2; exact ⟨ret_p E.out, kpt⟩
set_option maxHeartbeats 400000 in
theorem power_nat (a : Int) (n : Nat) (w : World) (h : i64 a) (hn : n ≤ 1000) : Calls Try.prog 14 #[.int .i64 a, .int .i64 n] w fun e w' => e = .returned (.tuple #[.int .i64 (pw a n).1, .bool (pw a n).2]) ∧ Kept w w' := by
  go_enter Try.func14, Try.ntmps14; go_wp2_with fail
  go_loopw [8, 9, 32] (fun x y i wr => ∃ k : Nat, k ≤ n ∧ i = .int .i64 k ∧ x = .int .i64 (pw a k).1 ∧ y = .bool true ∧ (pw a k).2 = true ∧ Kept w wr) (fun _ _ i _ => n - (intOf i).toNat)
  case atStart => exact ⟨0, by omega, rfl, rfl, rfl, rfl, Kept.refl w⟩
  case round =>
    obtain ⟨k, hk, rfl, rfl, rfl, hp, hkept⟩ := hrel
    by_cases c : k < n
    · have M := Lib.hid (fun w => mul_any (pw a k).1 a w (pw_i64 a k) h)
      have E : Hid (pw a (k + 1) = dMul (pw a k).1 a) := by show (if (pw a k).2 = true then _ else _) = _; rw [if_pos hp]
      have HP := Lib.hid hp; clear hp
      by_cases d : (dMul (pw a k).1 a).2 = true
      · have D := Lib.hid d
        rw [d] at M; clear d; generalize (pw a k).1 = x at *; go_wp2_with fail; refine (M.out _).mono ?_; rintro e w' ⟨rfl, m, rfl⟩; go_wp2_with fail
        go_roundw
        case rel => exact ⟨k + 1, by omega, by go_num, by rw [E.out], rfl, by rw [E.out]; exact D.out, kpt⟩
        case measure => simp [intOf]; omega
      · have d' : (dMul (pw a k).1 a).2 = false := by simpa using d
        have e2 : Hid (pw a n = (0, false)) := by
          have := pw_stays (a := a) (n := k + 1) (by rw [E.out]; exact d') (n - (k + 1))
          rwa [show k + 1 + (n - (k + 1)) = n by omega] at this
        rw [d'] at M; clear d d'; generalize (pw a k).1 = x at *; go_wp2_with fail; refine (M.out _).mono ?_; rintro e w' ⟨rfl, m, rfl⟩; go_wp2_with fail; go_ret2; exact ⟨ret_p e2.out, kpt⟩
    · obtain rfl : k = n := by omega
      have HP := Lib.hid hp; clear hp; go_wp2_with fail; go_ret2; exact ⟨ret_p (Prod.ext rfl HP.out), kpt⟩
set_option maxHeartbeats 400000 in
theorem power_any (a n : Int) (w : World) (h : i64 a) (hn : i64 n) : Calls Try.prog 14 #[.int .i64 a, .int .i64 n] w fun e w' => e = .returned (.tuple #[.int .i64 (dPow a n).1, .bool (dPow a n).2]) ∧ Kept w w' := by
  obtain ⟨n1, n2⟩ := hn
  by_cases c1 : n < -1000 ∨ 1000 < n
  · have E : Hid (dPow a n = (0, false)) := if_pos c1
    by_cases c2 : n < -1000
    · go_enter Try.func14, Try.ntmps14
      go_wp2_with fail; go_ret2; exact ⟨ret_p E.out, kpt⟩
    · have c3 : 1000 < n := by omega
      clear c1; go_enter Try.func14, Try.ntmps14; go_wp2_with fail; go_ret2; exact ⟨ret_p E.out, kpt⟩
  · have n3 : -1000 ≤ n := by omega
    have n4 : n ≤ 1000 := by omega
    by_cases c2 : n < 0
    · have E : Hid (dPow a n = if (pw a (-n).toNat).2 = true then dQuo 10000 (pw a (-n).toNat).1 else (0, false)) := by unfold dPow; rw [if_neg c1, if_pos c2]; rfl
      have P := fun w => power_nat a (-n).toNat w h (by omega); rw [show (((-n).toNat : Nat) : Int) = -n by omega] at P; have Q := Lib.hid (fun w => quo_any 10000 (pw a (-n).toNat).1 w ⟨by omega, by omega⟩ (pw_i64 a _))
      by_cases d : (pw a (-n).toNat).2 = true
      · have e := E.out
        rw [if_pos d] at e; have E2 := Lib.hid e; rw [d] at P; have HP := Lib.hid P; clear P d e E c1; generalize (pw a (-n).toNat).1 = x at *; generalize dQuo 10000 x = y at *; go_enter Try.func14, Try.ntmps14; go_wp2_with fail; refine (HP.out _).mono ?_; rintro e w' ⟨rfl, k1⟩; go_wp2_with fail; refine (Q.out _).mono ?_; rintro e w' ⟨rfl, m, rfl⟩; go_wp2_with fail; go_ret2; exact ⟨ret_p E2.out, kpt⟩
      · have e := E.out
        rw [if_neg d] at e; have E2 := Lib.hid e; have d' : (pw a (-n).toNat).2 = false := by simpa using d
        rw [d'] at P; have HP := Lib.hid P; clear P d d' e E c1; generalize (pw a (-n).toNat).1 = x at *; go_enter Try.func14, Try.ntmps14; go_wp2_with fail; refine (HP.out _).mono ?_; rintro e w' ⟨rfl, k1⟩; go_wp2_with fail; go_ret2; exact ⟨ret_p E2.out, kpt⟩
    · have E : dPow a n = pw a n.toNat := by unfold dPow; rw [if_neg c1, if_neg c2]
      have P := power_nat a n.toNat w h (by omega); rw [show ((n.toNat : Nat) : Int) = n by omega, ← E] at P; exact P
theorem mul64_any (x y : Int) (w : World) (hx : u64 x) (hy : u64 y) : Calls Try.prog 26 #[.int .u64 x, .int .u64 y] w fun e w' => e = .returned (.tuple #[.int .u64 (x * y / 18446744073709551616), .int .u64 (x * y % 18446744073709551616)]) ∧ w = w' := by
  obtain ⟨x, rfl⟩ := Int.eq_ofNat_of_zero_le hx.1; obtain ⟨y, rfl⟩ := Int.eq_ofNat_of_zero_le hy.1; have h1 := hx.2; have h2 := hy.2; refine (Try.bits_Mul64 x y (by omega) (by omega) w).mono ?_; rintro e w' ⟨rfl, rfl⟩; exact ⟨ret_ii (by simp) (by simp), rfl⟩
set_option maxHeartbeats 400000 in
theorem round_any (a p : Int) (w : World) (h : i64 a) (hp : i64 p) : Calls Try.prog 10 #[.int .i64 a, .int .i64 p] w fun e w' => e = .returned (.tuple #[.int .i64 (dRound a p).1, .bool (dRound a p).2]) ∧ Kept w w' := by
  obtain ⟨p1, p2⟩ := hp; have Z := Lib.hid (fun w => size_any a w h)
  by_cases c1 : 4 ≤ p
  · have E : Hid (dRound a p = fit a) := if_pos c1
    have S := fun w => signed_any 0 (Lv.abs a) (decide (a < 0)) w ⟨by omega, by omega⟩ (abs_u64 h); rw [Int.zero_mul, Int.zero_add, show sg (decide (a < 0)) (Lv.abs a) = a from sg_neg_abs a] at S; have HS := Lib.hid S; obtain ⟨h1, h2⟩ := h; clear S; generalize fit a = r at *; generalize Lv.abs a = s at *; go_enter Try.func10, Try.ntmps10; go_wp2_with fail; refine (Z.out _).mono ?_; rintro e w' ⟨rfl, rfl⟩; go_wp2_with fail; refine (HS.out _).mono ?_; rintro e w' ⟨rfl, rfl⟩; go_wp2_with fail; go_ret2; exact ⟨ret_p E.out, kpt⟩
  · by_cases c2 : p < -15
    · have E : Hid (dRound a p = (0, true)) := by unfold dRound; rw [if_neg c1, if_pos c2]; rfl
      go_enter Try.func10, Try.ntmps10; go_wp2_with fail; go_ret2; exact ⟨ret_p E.out, kpt⟩
    · have E : Hid (dRound a p = fit (sg (decide (a < 0)) (rnd (Lv.abs a) (unitOf p) * unitOf p))) := by unfold dRound; rw [if_neg c1, if_neg c2]; rfl
      obtain ⟨m, hm⟩ : ∃ m : Nat, m = (4 - p).toNat := ⟨_, rfl⟩; have hm1 : (m : Int) = 4 - p := by omega
      have U : unitOf p = 10 ^ m := by unfold unitOf; rw [hm]
      have u1 := pow10_bounds (k := m) (by omega); have au := abs_u64 h; have al := abs_le h
      have u10 : (10 : Int) ≤ 10 ^ m := by
        have := pow10_bounds (k := m - 1) (by omega); have e : (10 : Int) ^ m = 10 ^ (m - 1) * 10 := by rw [← Int.pow_succ]; congr 1; omega
        omega
      have q0 : 0 ≤ Lv.abs a / 10 ^ m := Int.ediv_nonneg au.1 (by omega)
      have q1 : Lv.abs a / 10 ^ m ≤ 9223372036854775807 := by
        have : Lv.abs a / 10 ^ m < 9223372036854775808 := Int.ediv_lt_of_lt_mul (by omega) (by omega)
        omega
      have N := fun w => nearest_any 0 (Lv.abs a) (10 ^ m) w ⟨by omega, by omega⟩ au ⟨by omega, by omega⟩; rw [Int.zero_mul, Int.zero_add, show near (Lv.abs a) (10 ^ m) = (rnd (Lv.abs a) (10 ^ m), true) from if_pos ⟨by omega, q1⟩] at N; have rb := rnd_bounds (Lv.abs a) (10 ^ m); rw [U] at E; have Mu := fun w => mul64_any (rnd (Lv.abs a) (10 ^ m)) (10 ^ m) w ⟨by omega, by omega⟩ ⟨by omega, by omega⟩; have x0 : 0 ≤ rnd (Lv.abs a) (10 ^ m) * 10 ^ m := Int.mul_nonneg (by omega) (by omega)
      have x1 : rnd (Lv.abs a) (10 ^ m) * 10 ^ m < 340282366920938463463374607431768211456 := by
        have := Int.mul_le_mul (show rnd (Lv.abs a) (10 ^ m) ≤ 9223372036854775808 by omega) u1.2 (by omega) (by omega)
        omega
      have S := fun w => signed_any (rnd (Lv.abs a) (10 ^ m) * 10 ^ m / 18446744073709551616) (rnd (Lv.abs a) (10 ^ m) * 10 ^ m % 18446744073709551616) (decide (a < 0)) w ⟨by omega, by omega⟩ ⟨by omega, by omega⟩; rw [show rnd (Lv.abs a) (10 ^ m) * 10 ^ m / 18446744073709551616 * 18446744073709551616 + rnd (Lv.abs a) (10 ^ m) * 10 ^ m % 18446744073709551616 = rnd (Lv.abs a) (10 ^ m) * 10 ^ m by omega] at S; have HN := Lib.hid N; have HM := Lib.hid Mu; have HS := Lib.hid S; have ub : ∀ k : Nat, k ≤ m → 1 ≤ (10 : Int) ^ k ∧ (10 : Int) ^ k ≤ 10000000000000000000 := fun k hk => pow10_bounds (by omega); have UB := Lib.hid ub; have HM1 := Lib.hid hm1; have hm19 : m ≤ 19 := by omega
      clear N Mu S x0 x1 rb q0 q1 U u10 u1 au al hm ub; obtain rfl : p = 4 - (m : Int) := by omega
      have hm4 : 1 ≤ m := by omega
      clear c1 c2 p1 p2 hm1 HM1; generalize fit (sg (decide (a < 0)) (rnd (Lv.abs a) (10 ^ m) * 10 ^ m)) = res at *; obtain ⟨h1, h2⟩ := h; go_enter Try.func10, Try.ntmps10; go_wp2_with fail
      go_loop [6, 24] (fun x i => ∃ k : Nat, k ≤ m ∧ i = .int .i64 k ∧ x = .int .u64 (10 ^ k)) (fun _ i => m - (intOf i).toNat)
      case atStart => exact ⟨0, by omega, rfl, by simp⟩
      case round =>
        obtain ⟨k, hk, rfl, rfl⟩ := hrel
        by_cases c : k < m
        · have u2 := (UB.out (k + 1) (by omega)).2
          have u3 := (UB.out k (by omega)).1; have u4 : (10 : Int) ^ (k + 1) = 10 ^ k * 10 := Int.pow_succ ..; have U4 := Lib.hid u4; have u5 : (10 : Int) ^ k * 10 ≤ 18446744073709551615 := by omega
          clear u4 u2; go_wp2_with fail
          go_round
          case rel => exact ⟨k + 1, by omega, by go_num, by rw [U4.out]⟩
          case measure => simp [intOf]; omega
        · obtain rfl : k = m := by omega
          go_wp2_with fail; refine (Z.out _).mono ?_; rintro e w' ⟨rfl, rfl⟩; go_wp2_with fail; refine (HN.out _).mono ?_; rintro e w' ⟨rfl, n, rfl⟩; go_wp2_with fail; refine (HM.out _).mono ?_; rintro e w' ⟨rfl, rfl⟩; go_wp2_with fail; refine (HS.out _).mono ?_; rintro e w' ⟨rfl, rfl⟩; go_wp2_with fail; go_ret2; exact ⟨ret_p E.out, kpt⟩
end Go.Proofs.Ytbgpbopnfodjoaa

namespace Go.Proofs.Ytbgpbopnfodjoaa
open Go.RowKit Lv
theorem kept_of_draws {w w' : World} (h : ∃ n, w' = w.drewN n) : Kept w w' := by
  obtain ⟨n, rfl⟩ := h; exact (Kept.refl w).drewN n
theorem kept_of_same {w w' : World} (h : w = w') : Kept w w' := by subst h; exact Kept.refl w
theorem root_at {a r : Int} (h : 0 ≤ a) (r0 : 0 ≤ r) (r1 : r * r ≤ a * 10000) (r2 : a * 10000 < (r + 1) * (r + 1)) : dSqrt a = (r, true) := by
  unfold dSqrt; rw [if_neg (by omega), root_unique h r0 r1 r2]
theorem got_yes (v : Int) (w : World) : Calls Try.prog 4 #[.agg #[.int .i64 v, .bool false], .int .i64 v, .bool true] w fun e w' => e = .returned (.bool true) ∧ Kept w w' := by
  have h : (v == v) = true := by simp
  go_enter Try.func4, Try.ntmps4; go_wp2_with fail; go_ret; exact ⟨rfl, kpt⟩
theorem got_no (w : World) : Calls Try.prog 4 #[.agg #[.int .i64 0, .bool true], .int .i64 0, .bool false] w fun e w' => e = .returned (.bool true) ∧ Kept w w' := by
  go_enter Try.func4, Try.ntmps4; go_wp2_with fail; go_ret; exact ⟨rfl, kpt⟩
theorem ex0 (w : World) : Calls Try.prog 5 #[.int .i64 15000, .int .i64 22500] w fun e w' => e = .returned (.tuple #[.int .i64 37500, .bool true]) ∧ Kept w w' := by
  have h := add2_any 15000 22500 w ⟨by omega, by omega⟩ ⟨by omega, by omega⟩; rw [show dSum [15000, 22500] = (37500, true) from by decide] at h; exact h.mono fun _ _ ⟨h1, h2⟩ => ⟨h1, h2⟩
theorem ex1 (w : World) : Calls Try.prog 6 #[.int .i64 10000, .int .i64 10001] w fun e w' => e = .returned (.tuple #[.int .i64 (-1), .bool true]) ∧ Kept w w' := by
  have h := sub2_any 10000 10001 w ⟨by omega, by omega⟩ ⟨by omega, by omega⟩; rw [show fit (10000 - 10001) = (-1, true) from by decide] at h; exact h.mono fun _ _ ⟨h1, h2⟩ => ⟨h1, h2⟩
theorem ex2 (w : World) : Calls Try.prog 5 #[.int .i64 9223372036854775807, .int .i64 1] w fun e w' => e = .returned (.tuple #[.int .i64 0, .bool false]) ∧ Kept w w' := by
  have h := add2_any 9223372036854775807 1 w ⟨by omega, by omega⟩ ⟨by omega, by omega⟩; rw [show dSum [9223372036854775807, 1] = (0, false) from by decide] at h; exact h.mono fun _ _ ⟨h1, h2⟩ => ⟨h1, h2⟩
theorem ex3 (w : World) : Calls Try.prog 5 #[.int .i64 (-9223372036854775807), .int .i64 (-1)] w fun e w' => e = .returned (.tuple #[.int .i64 0, .bool false]) ∧ Kept w w' := by
  have h := add2_any (-9223372036854775807) (-1) w ⟨by omega, by omega⟩ ⟨by omega, by omega⟩; rw [show dSum [-9223372036854775807, -1] = (0, false) from by decide] at h; exact h.mono fun _ _ ⟨h1, h2⟩ => ⟨h1, h2⟩
theorem ex4 (w : World) : Calls Try.prog 5 #[.int .i64 (-9223372036854775808), .int .i64 1] w fun e w' => e = .returned (.tuple #[.int .i64 (-9223372036854775807), .bool true]) ∧ Kept w w' := by
  have h := add2_any (-9223372036854775808) 1 w ⟨by omega, by omega⟩ ⟨by omega, by omega⟩; rw [show dSum [-9223372036854775808, 1] = (-9223372036854775807, true) from by decide] at h; exact h.mono fun _ _ ⟨h1, h2⟩ => ⟨h1, h2⟩
theorem ex5 (w : World) : Calls Try.prog 7 #[.int .i64 (-9223372036854775808)] w fun e w' => e = .returned (.tuple #[.int .i64 0, .bool false]) ∧ Kept w w' := by
  have h := neg_any (-9223372036854775808) w ⟨by omega, by omega⟩; rw [show dNeg (-9223372036854775808) = (0, false) from by decide] at h; exact h.mono fun _ _ ⟨h1, h2⟩ => ⟨h1, kept_of_draws h2⟩
theorem ex6 (w : World) : Calls Try.prog 8 #[.int .i64 15000, .int .i64 25000] w fun e w' => e = .returned (.tuple #[.int .i64 37500, .bool true]) ∧ Kept w w' := by
  have h := mul_any 15000 25000 w ⟨by omega, by omega⟩ ⟨by omega, by omega⟩; rw [show dMul 15000 25000 = (37500, true) from by decide] at h; exact h.mono fun _ _ ⟨h1, h2⟩ => ⟨h1, kept_of_draws h2⟩
theorem ex7 (w : World) : Calls Try.prog 8 #[.int .i64 1, .int .i64 5000] w fun e w' => e = .returned (.tuple #[.int .i64 1, .bool true]) ∧ Kept w w' := by
  have h := mul_any 1 5000 w ⟨by omega, by omega⟩ ⟨by omega, by omega⟩; rw [show dMul 1 5000 = (1, true) from by decide] at h; exact h.mono fun _ _ ⟨h1, h2⟩ => ⟨h1, kept_of_draws h2⟩
theorem ex8 (w : World) : Calls Try.prog 8 #[.int .i64 (-1), .int .i64 5000] w fun e w' => e = .returned (.tuple #[.int .i64 (-1), .bool true]) ∧ Kept w w' := by
  have h := mul_any (-1) 5000 w ⟨by omega, by omega⟩ ⟨by omega, by omega⟩; rw [show dMul (-1) 5000 = (-1, true) from by decide] at h; exact h.mono fun _ _ ⟨h1, h2⟩ => ⟨h1, kept_of_draws h2⟩
theorem ex9 (w : World) : Calls Try.prog 8 #[.int .i64 1, .int .i64 4999] w fun e w' => e = .returned (.tuple #[.int .i64 0, .bool true]) ∧ Kept w w' := by
  have h := mul_any 1 4999 w ⟨by omega, by omega⟩ ⟨by omega, by omega⟩; rw [show dMul 1 4999 = (0, true) from by decide] at h; exact h.mono fun _ _ ⟨h1, h2⟩ => ⟨h1, kept_of_draws h2⟩
theorem ex10 (w : World) : Calls Try.prog 9 #[.int .i64 10000, .int .i64 30000] w fun e w' => e = .returned (.tuple #[.int .i64 3333, .bool true]) ∧ Kept w w' := by
  have h := quo_any 10000 30000 w ⟨by omega, by omega⟩ ⟨by omega, by omega⟩; rw [show dQuo 10000 30000 = (3333, true) from by decide] at h; exact h.mono fun _ _ ⟨h1, h2⟩ => ⟨h1, kept_of_draws h2⟩
theorem ex11 (w : World) : Calls Try.prog 9 #[.int .i64 20000, .int .i64 30000] w fun e w' => e = .returned (.tuple #[.int .i64 6667, .bool true]) ∧ Kept w w' := by
  have h := quo_any 20000 30000 w ⟨by omega, by omega⟩ ⟨by omega, by omega⟩; rw [show dQuo 20000 30000 = (6667, true) from by decide] at h; exact h.mono fun _ _ ⟨h1, h2⟩ => ⟨h1, kept_of_draws h2⟩
theorem ex12 (w : World) : Calls Try.prog 9 #[.int .i64 (-10000), .int .i64 80000000] w fun e w' => e = .returned (.tuple #[.int .i64 (-1), .bool true]) ∧ Kept w w' := by
  have h := quo_any (-10000) 80000000 w ⟨by omega, by omega⟩ ⟨by omega, by omega⟩; rw [show dQuo (-10000) 80000000 = (-1, true) from by decide] at h; exact h.mono fun _ _ ⟨h1, h2⟩ => ⟨h1, kept_of_draws h2⟩
theorem ex13 (w : World) : Calls Try.prog 9 #[.int .i64 10000, .int .i64 0] w fun e w' => e = .returned (.tuple #[.int .i64 0, .bool false]) ∧ Kept w w' := by
  have h := quo_any 10000 0 w ⟨by omega, by omega⟩ ⟨by omega, by omega⟩; rw [show dQuo 10000 0 = (0, false) from by decide] at h; exact h.mono fun _ _ ⟨h1, h2⟩ => ⟨h1, kept_of_draws h2⟩
theorem ex14 (w : World) : Calls Try.prog 9 #[.int .i64 (-9223372036854775808), .int .i64 (-10000)] w fun e w' => e = .returned (.tuple #[.int .i64 0, .bool false]) ∧ Kept w w' := by
  have h := quo_any (-9223372036854775808) (-10000) w ⟨by omega, by omega⟩ ⟨by omega, by omega⟩; rw [show dQuo (-9223372036854775808) (-10000) = (0, false) from by decide] at h; exact h.mono fun _ _ ⟨h1, h2⟩ => ⟨h1, kept_of_draws h2⟩
theorem ex15 (w : World) : Calls Try.prog 10 #[.int .i64 25000, .int .i64 0] w fun e w' => e = .returned (.tuple #[.int .i64 30000, .bool true]) ∧ Kept w w' := by
  have h := round_any 25000 0 w ⟨by omega, by omega⟩ ⟨by omega, by omega⟩; rw [show dRound 25000 0 = (30000, true) from by decide] at h; exact h.mono fun _ _ ⟨h1, h2⟩ => ⟨h1, h2⟩
theorem ex16 (w : World) : Calls Try.prog 10 #[.int .i64 (-12345), .int .i64 3] w fun e w' => e = .returned (.tuple #[.int .i64 (-12350), .bool true]) ∧ Kept w w' := by
  have h := round_any (-12345) 3 w ⟨by omega, by omega⟩ ⟨by omega, by omega⟩; rw [show dRound (-12345) 3 = (-12350, true) from by decide] at h; exact h.mono fun _ _ ⟨h1, h2⟩ => ⟨h1, h2⟩
theorem ex17 (w : World) : Calls Try.prog 10 #[.int .i64 12345000, .int .i64 (-2)] w fun e w' => e = .returned (.tuple #[.int .i64 12000000, .bool true]) ∧ Kept w w' := by
  have h := round_any 12345000 (-2) w ⟨by omega, by omega⟩ ⟨by omega, by omega⟩; rw [show dRound 12345000 (-2) = (12000000, true) from by decide] at h; exact h.mono fun _ _ ⟨h1, h2⟩ => ⟨h1, h2⟩
theorem ex18 (w : World) : Calls Try.prog 10 #[.int .i64 500000, .int .i64 (-2)] w fun e w' => e = .returned (.tuple #[.int .i64 1000000, .bool true]) ∧ Kept w w' := by
  have h := round_any 500000 (-2) w ⟨by omega, by omega⟩ ⟨by omega, by omega⟩; rw [show dRound 500000 (-2) = (1000000, true) from by decide] at h; exact h.mono fun _ _ ⟨h1, h2⟩ => ⟨h1, h2⟩
theorem ex19 (w : World) : Calls Try.prog 10 #[.int .i64 12345, .int .i64 9] w fun e w' => e = .returned (.tuple #[.int .i64 12345, .bool true]) ∧ Kept w w' := by
  have h := round_any 12345 9 w ⟨by omega, by omega⟩ ⟨by omega, by omega⟩; rw [show dRound 12345 9 = (12345, true) from by decide] at h; exact h.mono fun _ _ ⟨h1, h2⟩ => ⟨h1, h2⟩
theorem ex20 (w : World) : Calls Try.prog 10 #[.int .i64 9223372036854775807, .int .i64 (-15)] w fun e w' => e = .returned (.tuple #[.int .i64 0, .bool false]) ∧ Kept w w' := by
  have h := round_any 9223372036854775807 (-15) w ⟨by omega, by omega⟩ ⟨by omega, by omega⟩; rw [show dRound 9223372036854775807 (-15) = (0, false) from by decide] at h; exact h.mono fun _ _ ⟨h1, h2⟩ => ⟨h1, h2⟩
theorem ex21 (w : World) : Calls Try.prog 10 #[.int .i64 4000000000000000000, .int .i64 (-15)] w fun e w' => e = .returned (.tuple #[.int .i64 0, .bool true]) ∧ Kept w w' := by
  have h := round_any 4000000000000000000 (-15) w ⟨by omega, by omega⟩ ⟨by omega, by omega⟩; rw [show dRound 4000000000000000000 (-15) = (0, true) from by decide] at h; exact h.mono fun _ _ ⟨h1, h2⟩ => ⟨h1, h2⟩
theorem ex22 (w : World) : Calls Try.prog 10 #[.int .i64 9223372036854775807, .int .i64 (-16)] w fun e w' => e = .returned (.tuple #[.int .i64 0, .bool true]) ∧ Kept w w' := by
  have h := round_any 9223372036854775807 (-16) w ⟨by omega, by omega⟩ ⟨by omega, by omega⟩; rw [show dRound 9223372036854775807 (-16) = (0, true) from by decide] at h; exact h.mono fun _ _ ⟨h1, h2⟩ => ⟨h1, h2⟩
theorem ex23 (w : World) : Calls Try.prog 11 #[.int .i64 (-19000)] w fun e w' => e = .returned (.int .i64 (-10000)) ∧ Kept w w' := by
  have h := trunc_any (-19000) w ⟨by omega, by omega⟩; rw [show dTrunc (-19000) = (-10000) from by decide] at h; exact h.mono fun _ _ ⟨h1, h2⟩ => ⟨h1, kept_of_same h2⟩
theorem ex24 (w : World) : Calls Try.prog 12 #[.int .i64 (-19000)] w fun e w' => e = .returned (.tuple #[.int .i64 (-20000), .bool true]) ∧ Kept w w' := by
  have h := floor_any (-19000) w ⟨by omega, by omega⟩; rw [show dFloor (-19000) = (-20000, true) from by decide] at h; exact h.mono fun _ _ ⟨h1, h2⟩ => ⟨h1, h2⟩
theorem ex25 (w : World) : Calls Try.prog 12 #[.int .i64 20000] w fun e w' => e = .returned (.tuple #[.int .i64 20000, .bool true]) ∧ Kept w w' := by
  have h := floor_any 20000 w ⟨by omega, by omega⟩; rw [show dFloor 20000 = (20000, true) from by decide] at h; exact h.mono fun _ _ ⟨h1, h2⟩ => ⟨h1, h2⟩
theorem ex26 (w : World) : Calls Try.prog 12 #[.int .i64 (-9223372036854775807)] w fun e w' => e = .returned (.tuple #[.int .i64 0, .bool false]) ∧ Kept w w' := by
  have h := floor_any (-9223372036854775807) w ⟨by omega, by omega⟩; rw [show dFloor (-9223372036854775807) = (0, false) from by decide] at h; exact h.mono fun _ _ ⟨h1, h2⟩ => ⟨h1, h2⟩
theorem ex27 (w : World) : Calls Try.prog 13 #[.int .i64 20000] w fun e w' => e = .returned (.tuple #[.int .i64 14142, .bool true]) ∧ Kept w w' := by
  have h := sqrt_any 20000 w ⟨by omega, by omega⟩; rw [show dSqrt 20000 = (14142, true) from root_at (by omega) (by omega) (by omega) (by omega)] at h; exact h.mono fun _ _ ⟨h1, h2⟩ => ⟨h1, kept_of_same h2⟩
theorem ex28 (w : World) : Calls Try.prog 13 #[.int .i64 1] w fun e w' => e = .returned (.tuple #[.int .i64 100, .bool true]) ∧ Kept w w' := by
  have h := sqrt_any 1 w ⟨by omega, by omega⟩; rw [show dSqrt 1 = (100, true) from root_at (by omega) (by omega) (by omega) (by omega)] at h; exact h.mono fun _ _ ⟨h1, h2⟩ => ⟨h1, kept_of_same h2⟩
theorem ex29 (w : World) : Calls Try.prog 13 #[.int .i64 (-1)] w fun e w' => e = .returned (.tuple #[.int .i64 0, .bool false]) ∧ Kept w w' := by
  have h := sqrt_any (-1) w ⟨by omega, by omega⟩; rw [show dSqrt (-1) = (0, false) from by decide] at h; exact h.mono fun _ _ ⟨h1, h2⟩ => ⟨h1, kept_of_same h2⟩
theorem ex30 (w : World) : Calls Try.prog 14 #[.int .i64 20000, .int .i64 10] w fun e w' => e = .returned (.tuple #[.int .i64 10240000, .bool true]) ∧ Kept w w' := by
  have h := power_any 20000 10 w ⟨by omega, by omega⟩ ⟨by omega, by omega⟩; rw [show dPow 20000 10 = (10240000, true) from by decide +kernel] at h; exact h.mono fun _ _ ⟨h1, h2⟩ => ⟨h1, h2⟩
theorem ex31 (w : World) : Calls Try.prog 14 #[.int .i64 20000, .int .i64 (-2)] w fun e w' => e = .returned (.tuple #[.int .i64 2500, .bool true]) ∧ Kept w w' := by
  have h := power_any 20000 (-2) w ⟨by omega, by omega⟩ ⟨by omega, by omega⟩; rw [show dPow 20000 (-2) = (2500, true) from by decide +kernel] at h; exact h.mono fun _ _ ⟨h1, h2⟩ => ⟨h1, h2⟩
theorem ex32 (w : World) : Calls Try.prog 14 #[.int .i64 100, .int .i64 3] w fun e w' => e = .returned (.tuple #[.int .i64 0, .bool true]) ∧ Kept w w' := by
  have h := power_any 100 3 w ⟨by omega, by omega⟩ ⟨by omega, by omega⟩; rw [show dPow 100 3 = (0, true) from by decide +kernel] at h; exact h.mono fun _ _ ⟨h1, h2⟩ => ⟨h1, h2⟩
theorem ex33 (w : World) : Calls Try.prog 14 #[.int .i64 0, .int .i64 0] w fun e w' => e = .returned (.tuple #[.int .i64 10000, .bool true]) ∧ Kept w w' := by
  have h := power_any 0 0 w ⟨by omega, by omega⟩ ⟨by omega, by omega⟩; rw [show dPow 0 0 = (10000, true) from by decide +kernel] at h; exact h.mono fun _ _ ⟨h1, h2⟩ => ⟨h1, h2⟩
theorem ex34 (w : World) : Calls Try.prog 14 #[.int .i64 0, .int .i64 (-1)] w fun e w' => e = .returned (.tuple #[.int .i64 0, .bool false]) ∧ Kept w w' := by
  have h := power_any 0 (-1) w ⟨by omega, by omega⟩ ⟨by omega, by omega⟩; rw [show dPow 0 (-1) = (0, false) from by decide +kernel] at h; exact h.mono fun _ _ ⟨h1, h2⟩ => ⟨h1, h2⟩
theorem ex35 (w : World) : Calls Try.prog 14 #[.int .i64 100000, .int .i64 15] w fun e w' => e = .returned (.tuple #[.int .i64 0, .bool false]) ∧ Kept w w' := by
  have h := power_any 100000 15 w ⟨by omega, by omega⟩ ⟨by omega, by omega⟩; rw [show dPow 100000 15 = (0, false) from by decide +kernel] at h; exact h.mono fun _ _ ⟨h1, h2⟩ => ⟨h1, h2⟩
theorem ex36 (w : World) : Calls Try.prog 14 #[.int .i64 10000, .int .i64 1001] w fun e w' => e = .returned (.tuple #[.int .i64 0, .bool false]) ∧ Kept w w' := by
  have h := power_any 10000 1001 w ⟨by omega, by omega⟩ ⟨by omega, by omega⟩; rw [show dPow 10000 1001 = (0, false) from by decide +kernel] at h; exact h.mono fun _ _ ⟨h1, h2⟩ => ⟨h1, h2⟩
theorem ex37 (w : World) : Calls Try.prog 14 #[.int .i64 10000, .int .i64 1000] w fun e w' => e = .returned (.tuple #[.int .i64 10000, .bool true]) ∧ Kept w w' := by
  have h := power_any 10000 1000 w ⟨by omega, by omega⟩ ⟨by omega, by omega⟩; rw [show dPow 10000 1000 = (10000, true) from by decide +kernel] at h; exact h.mono fun _ _ ⟨h1, h2⟩ => ⟨h1, h2⟩
theorem ex38 (A : Option Addr) (cap : Nat) (w : World) (hr : Row w A [9223372036854770000, 10000, -9223372036854770000]) : Calls Try.prog 15 #[.slice A 3 cap] w fun e w' => e = .returned (.tuple #[.int .i64 10000, .bool true]) ∧ Kept w w' := by
  have h := sum_any A cap [9223372036854770000, 10000, -9223372036854770000] w hr (by intro x hx; simp at hx; rcases hx with rfl | rfl | rfl <;> exact ⟨by omega, by omega⟩) (by simp); rw [show dSum [9223372036854770000, 10000, -9223372036854770000] = (10000, true) from by decide] at h; exact h
theorem ex39 (A : Option Addr) (cap : Nat) (w : World) (hr : Row w A [10000, 20000, 20000]) : Calls Try.prog 16 #[.slice A 3 cap] w fun e w' => e = .returned (.tuple #[.int .i64 16667, .bool true]) ∧ Kept w w' := by
  have h := mean_any A cap [10000, 20000, 20000] w hr (by intro x hx; simp at hx; rcases hx with rfl | rfl <;> exact ⟨by omega, by omega⟩) (by simp); rw [show dMean [10000, 20000, 20000] = (16667, true) from by decide] at h; exact h
theorem ex40 (A : Option Addr) (cap : Nat) (w : World) (hr : Row w A [1, 0]) : Calls Try.prog 16 #[.slice A 2 cap] w fun e w' => e = .returned (.tuple #[.int .i64 1, .bool true]) ∧ Kept w w' := by
  have h := mean_any A cap [1, 0] w hr (by intro x hx; simp at hx; rcases hx with rfl | rfl <;> exact ⟨by omega, by omega⟩) (by simp); rw [show dMean [1, 0] = (1, true) from by decide] at h; exact h
theorem ex41 (A : Option Addr) (cap : Nat) (w : World) (hr : Row w A []) : Calls Try.prog 16 #[.slice A 0 cap] w fun e w' => e = .returned (.tuple #[.int .i64 0, .bool false]) ∧ Kept w w' := by
  have h := mean_any A cap [] w hr (by intro x hx; cases hx) (by simp); rw [show dMean [] = (0, false) from by decide] at h; exact h
theorem ex42 (A : Option Addr) (cap : Nat) (w : World) (hr : Row w A []) : Calls Try.prog 15 #[.slice A 0 cap] w fun e w' => e = .returned (.tuple #[.int .i64 0, .bool true]) ∧ Kept w w' := by
  have h := sum_any A cap [] w hr (by intro x hx; cases hx) (by simp); rw [show dSum [] = (0, true) from by decide] at h; exact h
theorem ex_p0 (w : World) : Calls Try.prog 17 #[.string ⟨#[45, 48, 48, 49, 50, 46, 51, 52, 53, 54, 53]⟩] w fun e w' => e = .returned (.tuple #[.int .i64 (-123457), .int .i64 0]) ∧ Kept w w' := by
  have h := parse_any [45, 48, 48, 49, 50, 46, 51, 52, 53, 54, 53] w (by simp); rw [show dParse [45, 48, 48, 49, 50, 46, 51, 52, 53, 54, 53] = (-123457, 0) from by decide +kernel] at h; exact h
theorem ex_p1 (w : World) : Calls Try.prog 17 #[.string ⟨#[45, 48]⟩] w fun e w' => e = .returned (.tuple #[.int .i64 0, .int .i64 0]) ∧ Kept w w' := by
  have h := parse_any [45, 48] w (by simp); rw [show dParse [45, 48] = (0, 0) from by decide +kernel] at h; exact h
theorem ex_p2 (w : World) : Calls Try.prog 17 #[.string ⟨#[57, 50, 50, 51, 51, 55, 50, 48, 51, 54, 56, 53, 52, 55, 55, 46, 53, 56, 48, 55, 53]⟩] w fun e w' => e = .returned (.tuple #[.int .i64 0, .int .i64 3]) ∧ Kept w w' := by
  have h := parse_any [57, 50, 50, 51, 51, 55, 50, 48, 51, 54, 56, 53, 52, 55, 55, 46, 53, 56, 48, 55, 53] w (by simp); rw [show dParse [57, 50, 50, 51, 51, 55, 50, 48, 51, 54, 56, 53, 52, 55, 55, 46, 53, 56, 48, 55, 53] = (0, 3) from by decide +kernel] at h; exact h
theorem ex_q0 (w : World) : Calls Try.prog 17 #[.string ⟨#[49, 46]⟩] w fun e w' => e = .returned (.tuple #[.int .i64 0, .int .i64 4]) ∧ Kept w w' := by
  have h := parse_any [49, 46] w (by simp); rw [show dParse [49, 46] = (0, 4) from by decide +kernel] at h; exact h
theorem ex_q1 (w : World) : Calls Try.prog 17 #[.string ⟨#[46, 53]⟩] w fun e w' => e = .returned (.tuple #[.int .i64 0, .int .i64 4]) ∧ Kept w w' := by
  have h := parse_any [46, 53] w (by simp); rw [show dParse [46, 53] = (0, 4) from by decide +kernel] at h; exact h
theorem ex_q2 (w : World) : Calls Try.prog 17 #[.string ⟨#[43, 49]⟩] w fun e w' => e = .returned (.tuple #[.int .i64 0, .int .i64 4]) ∧ Kept w w' := by
  have h := parse_any [43, 49] w (by simp); rw [show dParse [43, 49] = (0, 4) from by decide +kernel] at h; exact h
theorem ex_q3 (w : World) : Calls Try.prog 17 #[.string ⟨#[]⟩] w fun e w' => e = .returned (.tuple #[.int .i64 0, .int .i64 4]) ∧ Kept w w' := by
  have h := parse_any [] w (by simp); rw [show dParse [] = (0, 4) from by decide +kernel] at h; exact h
theorem ex_q4 (w : World) : Calls Try.prog 17 #[.string ⟨#[45]⟩] w fun e w' => e = .returned (.tuple #[.int .i64 0, .int .i64 4]) ∧ Kept w w' := by
  have h := parse_any [45] w (by simp); rw [show dParse [45] = (0, 4) from by decide +kernel] at h; exact h
theorem ex_q5 (w : World) : Calls Try.prog 17 #[.string ⟨#[49, 32]⟩] w fun e w' => e = .returned (.tuple #[.int .i64 0, .int .i64 4]) ∧ Kept w w' := by
  have h := parse_any [49, 32] w (by simp); rw [show dParse [49, 32] = (0, 4) from by decide +kernel] at h; exact h
theorem ex_q6 (w : World) : Calls Try.prog 17 #[.string ⟨#[49, 46, 50, 46, 51]⟩] w fun e w' => e = .returned (.tuple #[.int .i64 0, .int .i64 4]) ∧ Kept w w' := by
  have h := parse_any [49, 46, 50, 46, 51] w (by simp); rw [show dParse [49, 46, 50, 46, 51] = (0, 4) from by decide +kernel] at h; exact h
theorem ex_q7 (w : World) : Calls Try.prog 17 #[.string ⟨#[49, 101, 53]⟩] w fun e w' => e = .returned (.tuple #[.int .i64 0, .int .i64 4]) ∧ Kept w w' := by
  have h := parse_any [49, 101, 53] w (by simp); rw [show dParse [49, 101, 53] = (0, 4) from by decide +kernel] at h; exact h
theorem ex_f0 (w : World) : Calls Try.prog 18 #[.int .i64 0] w fun e w' => e = .returned (.string ⟨#[48]⟩) ∧ Kept w w' := by
  have h := format_any 0 w ⟨by omega, by omega⟩; rw [show fmt 0 = [48] from by decide +kernel] at h; exact h
theorem ex_f1 (w : World) : Calls Try.prog 18 #[.int .i64 (-5000)] w fun e w' => e = .returned (.string ⟨#[45, 48, 46, 53]⟩) ∧ Kept w w' := by
  have h := format_any (-5000) w ⟨by omega, by omega⟩; rw [show fmt (-5000) = [45, 48, 46, 53] from by decide +kernel] at h; exact h
theorem ex_f2 (w : World) : Calls Try.prog 18 #[.int .i64 123400] w fun e w' => e = .returned (.string ⟨#[49, 50, 46, 51, 52]⟩) ∧ Kept w w' := by
  have h := format_any 123400 w ⟨by omega, by omega⟩; rw [show fmt 123400 = [49, 50, 46, 51, 52] from by decide +kernel] at h; exact h
theorem ex_f3 (w : World) : Calls Try.prog 18 #[.int .i64 (-9223372036854775808)] w fun e w' => e = .returned (.string ⟨#[45, 57, 50, 50, 51, 51, 55, 50, 48, 51, 54, 56, 53, 52, 55, 55, 46, 53, 56, 48, 56]⟩) ∧ Kept w w' := by
  have h := format_any (-9223372036854775808) w ⟨by omega, by omega⟩; rw [show fmt (-9223372036854775808) = [45, 57, 50, 50, 51, 51, 55, 50, 48, 51, 54, 56, 53, 52, 55, 55, 46, 53, 56, 48, 56] from by decide +kernel] at h; exact h
end Go.Proofs.Ytbgpbopnfodjoaa

namespace Go.Proofs.Ytbgpbopnfodjoaa
open Go.RowKit
section
variable {P : Program} {ops : Array Oper} {md : Region.Mode} {C : World → Prop}
end
end Go.Proofs.Ytbgpbopnfodjoaa

namespace Go.Proofs.Ytbgpbopnfodjoaa
open Go.RowKit
section
variable {P : Program} {ops : Array Oper}
def At (ops : Array Oper) (a : Act) (j : Nat) : Value := match (ops[j]?).bind (·.dst) with
  | some t => a.tmps.getD t undef
  | none => undef
def writes (ops : Array Oper) (t : Nat) : Bool := ops.any fun o => o.dst == some t
def typedB (ops : Array Oper) (size : Nat) : Bool :=
  Region.noSelect ops && (List.range ops.size).all fun i => match ops[i]? with
    | none => true
    | some o => (match o.dst with
      | none => false
      | some t => decide (t < size) && (List.range i).all fun j => ((ops[j]?).bind (·.dst)) != some t) && o.after.all fun e => !Region.binds .any e || decide (e.on < i)
structure Beside (ops : Array Oper) (a0 a : Act) : Prop where
  defers : a.defers = a0.defers
  size : a.tmps.size = a0.tmps.size
  same : ∀ t, writes ops t = false → a.tmps.getD t undef = a0.tmps.getD t undef
theorem getD_put_same {a : Act} {t : Nat} {v : Value} (h : t < a.tmps.size) : (a.put (some t) v).tmps.getD t undef = v := by
  simp [Act.put, Array.getD, h]
theorem getD_put_other {a : Act} {t u : Nat} {v : Value} (h : t ≠ u) : (a.put (some t) v).tmps.getD u undef = a.tmps.getD u undef := by
  simp only [Act.put, Array.getD_eq_getD_getElem?, Array.getElem?_setIfInBounds_ne h]
structure InvT (ops : Array Oper) (V : Nat → Value → World → Prop) (w0 : World) (a0 : Act) (done : Array Bool) (a : Act) (w : World) : Prop where
  len : done.size = ops.size
  kept : Kept w0 w
  beside : Beside ops a0 a
  vals : ∀ j, done.getD j false = true → V j (At ops a j) w
theorem typed_dst {size : Nat} (hB : typedB ops size = true) {i : Nat} {o : Oper} (h : ops[i]? = some o) : ∃ t, o.dst = some t ∧ t < size ∧ (∀ j, j < i → (ops[j]?).bind (·.dst) ≠ some t) ∧ ∀ e ∈ o.after, Region.binds .any e = true → e.on < i := by
  simp only [typedB, Bool.and_eq_true, List.all_eq_true, List.mem_range] at hB
  have hi : i < ops.size := (Array.getElem?_eq_some_iff.1 h).1; have := hB.2 i hi; rw [h] at this
  simp only at this
  cases hd : o.dst with
  | none => rw [hd] at this; simp at this
  | some t =>
    rw [hd] at this
    simp only [Bool.and_eq_true, decide_eq_true_eq, List.all_eq_true, List.mem_range, bne_iff_ne, ne_eq] at this
    obtain ⟨⟨h1, h2⟩, h3⟩ := this; refine ⟨t, rfl, h1, h2, fun e he hb => ?_⟩; have := Array.all_eq_true_iff_forall_mem.1 h3 e he; rw [hb] at this
    simpa using this
theorem typed_other {size : Nat} (hB : typedB ops size = true) {i j : Nat} {o q : Oper} (h : ops[i]? = some o) (g : ops[j]? = some q) (ne : i ≠ j) : o.dst ≠ q.dst := by
  obtain ⟨t, ht, _, h1, _⟩ := typed_dst hB h; obtain ⟨u, hu, _, h2, _⟩ := typed_dst hB g; rw [ht, hu]; intro e
  cases e
  rcases Nat.lt_or_gt_of_ne ne with c | c
  · exact h2 i c (by rw [h]; exact ht)
  · exact h1 j c (by rw [g]; exact hu)
theorem InvT.put {V : Nat → Value → World → Prop} (mono : ∀ j v w w', V j v w → Kept w w' → V j v w') {w0 w w' : World} {a0 a : Act} {done : Array Bool} (hB : typedB ops a0.tmps.size = true) (inv : InvT ops V w0 a0 done a w) {i : Nat} {o : Oper} (h : ops[i]? = some o) {v : Value} (hv : V i v w') (k : Kept w w') :
    InvT ops V w0 a0 (done.setIfInBounds i true) (a.put o.dst v) w' := by
  obtain ⟨t, ht, hs, _, _⟩ := typed_dst hB h; have sz : t < a.tmps.size := by rw [inv.beside.size]; exact hs
  refine ⟨by rw [Array.size_setIfInBounds]; exact inv.len, inv.kept.trans k, ⟨?_, ?_, fun u hu => ?_⟩, fun j hj => ?_⟩
  · rw [ht]; exact inv.beside.defers
  · rw [ht]; simp only [Act.put, Array.size_setIfInBounds]; exact inv.beside.size
  · rw [ht, getD_put_other, inv.beside.same u hu]
    rintro rfl
    have : writes ops t = true := by
      unfold writes; rw [Array.any_eq_true']; exact ⟨o, Array.mem_of_getElem? h, by rw [ht]; simp⟩
    rw [this] at hu; cases hu
  · by_cases e : i = j
    · subst e
      have : At ops (a.put o.dst v) i = v := by
        unfold At; rw [h]
        simp only [Option.bind_some, ht]
        exact getD_put_same sz
      rw [this]; exact hv
    · rw [getD_set_ne false e] at hj
      have old := mono j _ _ _ (inv.vals j hj) k
      have hjl : j < ops.size := by
        rw [← inv.len]; rcases Nat.lt_or_ge j done.size with c | c
        · exact c
        · rw [Array.getD_eq_getD_getElem?, Array.getElem?_eq_none c] at hj; cases hj
      have hq : ops[j]? = some ops[j] := Array.getElem?_eq_getElem hjl
      have same : At ops (a.put o.dst v) j = At ops a j := by
        unfold At; rw [hq]
        simp only [Option.bind_some]
        obtain ⟨u, hu, _⟩ := typed_dst hB hq; rw [hu, ht]; have ne := typed_other hB h hq e; rw [hu, ht] at ne; exact getD_put_other (fun x => ne (by rw [x]))
      rw [same]; exact old
end
end Go.Proofs.Ytbgpbopnfodjoaa

namespace Go.Proofs.Ytbgpbopnfodjoaa
open Go.RowKit
section
variable {P : Program} {ops : Array Oper}
def putAll (vs : Nat → Value) : List Oper → Nat → Act → Act
  | [], _, a => a
  | o :: l, k, a => putAll vs l (k + 1) (a.put o.dst (vs k))
theorem putAll_defers (vs : Nat → Value) : ∀ (l : List Oper) (k : Nat) (a : Act), (putAll vs l k a).defers = a.defers
  | [], _, _ => rfl
  | o :: l, k, a => by
    rw [putAll, putAll_defers vs l]; unfold Act.put; split <;> rfl
theorem putAll_size (vs : Nat → Value) : ∀ (l : List Oper) (k : Nat) (a : Act), (putAll vs l k a).tmps.size = a.tmps.size
  | [], _, _ => rfl
  | o :: l, k, a => by
    rw [putAll, putAll_size vs l]; unfold Act.put; split
    · simp
    · rfl
theorem putAll_other (vs : Nat → Value) : ∀ (l : List Oper) (k : Nat) (a : Act) (t : Nat), (∀ o ∈ l, o.dst ≠ some t) → (putAll vs l k a).tmps.getD t undef = a.tmps.getD t undef
  | [], _, _, _, _ => rfl
  | o :: l, k, a, t, h => by
    rw [putAll, putAll_other vs l _ _ _ (fun q hq => h q (List.mem_cons_of_mem _ hq))]; have ho := h o List.mem_cons_self
    cases hd : o.dst with
    | none => rfl
    | some u => exact getD_put_other (fun e => ho (by rw [hd, e]))
theorem putAll_at (vs : Nat → Value) : ∀ (l : List Oper) (k : Nat) (a : Act) (i : Nat) (o : Oper) (t : Nat), l[i]? = some o → o.dst = some t → t < a.tmps.size → (∀ j q, i < j → l[j]? = some q → q.dst ≠ some t) → (putAll vs l k a).tmps.getD t undef = vs (k + i)
  | [], _, _, _, _, _, h, _, _, _ => by simp at h
  | o :: l, k, a, 0, q, t, h, hd, ht, hn => by
    simp at h
    subst h; rw [putAll, putAll_other vs l, hd]
    · exact getD_put_same ht
    · intro q hq
      obtain ⟨j, hj, e⟩ := List.getElem_of_mem hq; exact hn (j + 1) q (by omega) (by rw [List.getElem?_cons_succ, List.getElem?_eq_getElem hj, e])
  | o :: l, k, a, i + 1, q, t, h, hd, ht, hn => by
    rw [List.getElem?_cons_succ] at h; rw [putAll, putAll_at vs l (k + 1) _ i q t h hd (by unfold Act.put; split <;> simp [ht]) (fun j r hj hr => hn (j + 1) r (by omega) (by rw [List.getElem?_cons_succ]; exact hr))]
    congr 1; omega
def headB (ops : Array Oper) (n size : Nat) : Bool :=
  Region.noSelect ops && decide (n ≤ ops.size) && (List.range n).all fun i => match ops[i]? with
    | none => true
    | some o => (match o.dst with
      | none => false
      | some t => decide (t < size) && (List.range n).all fun j => i == j || ((ops[j]?).bind (·.dst)) != some t) && o.after.toList.all fun e => !Region.binds .any e || decide (e.on < i)
def headDone (ops : Array Oper) (n : Nat) : Array Bool := (List.replicate n true ++ List.replicate (ops.size - n) false).toArray
def tailB (ops : Array Oper) (n : Nat) : Bool := (n == ops.size || (Region.sinkB .any ops n && Region.chainB .any ops n)) && Region.seqB .any ops (ops.size - n) n (headDone ops n)
structure InvF (ops : Array Oper) (n : Nat) (V : Nat → Value → World → Prop) (fresh : Nat → Bool) (w0 : World) (a0 : Act) (done : Array Bool) (a : Act) (w : World) : Prop where
  head : HeadInv .any ops n done
  kept : Kept w0 w
  defers : a.defers = a0.defers
  size : a.tmps.size = a0.tmps.size
  same : ∀ t, (∀ j o, j < n → ops[j]? = some o → o.dst ≠ some t) → a.tmps.getD t undef = a0.tmps.getD t undef
  vals : ∀ j, j < n → done.getD j false = true → V j (At ops a j) w
  apart : ∀ j k, j < n → k < n → j ≠ k → fresh j = true → fresh k = true → done.getD j false = true → done.getD k false = true → At ops a j ≠ At ops a k
theorem head_dst {n size : Nat} (hB : headB ops n size = true) {i : Nat} {o : Oper} (hi : i < n) (h : ops[i]? = some o) : ∃ t, o.dst = some t ∧ t < size ∧ (∀ j q, j < n → j ≠ i → ops[j]? = some q → q.dst ≠ some t) ∧ ∀ e ∈ o.after, Region.binds .any e = true → e.on < i := by
  simp only [headB, Bool.and_eq_true, List.all_eq_true, List.mem_range, decide_eq_true_eq] at hB
  have := hB.2 i hi; rw [h] at this
  simp only at this
  cases hd : o.dst with
  | none => rw [hd] at this; simp at this
  | some t =>
    rw [hd] at this
    simp only [Bool.and_eq_true, decide_eq_true_eq, List.all_eq_true, List.mem_range, Bool.or_eq_true, beq_iff_eq, bne_iff_ne, ne_eq] at this
    obtain ⟨⟨h1, h2⟩, h3⟩ := this; refine ⟨t, rfl, h1, fun j q hj ne hq => ?_, fun e he hb => ?_⟩
    · rcases h2 j hj with e | e
      · exact absurd e.symm ne
      · rw [hq] at e; exact e
    · have := h3 e (Array.mem_toList_iff.2 he)
      rw [hb] at this
      simpa using this
theorem InvF.put {V : Nat → Value → World → Prop} {fresh : Nat → Bool} {n : Nat} (mono : ∀ j v w w', V j v w → Kept w w' → V j v w') (fr : ∀ j v w, fresh j = true → V j v w → ∃ g, v = .pointer (some ⟨g, 0, none⟩) ∧ g < w.heap.size) {w0 w w' : World} {a0 a : Act} {done : Array Bool} (hB : headB ops n a0.tmps.size = true)
    (inv : InvF ops n V fresh w0 a0 done a w) {i : Nat} {o : Oper} (hi : i < n) (ri : i ∈ Region.ready .any ops done) (h : ops[i]? = some o) {v : Value} (hv : V i v w') (k : Kept w w') (hf : fresh i = true → ∃ g, v = .pointer (some ⟨g, 0, none⟩) ∧ w.heap.size ≤ g) :
    InvF ops n V fresh w0 a0 (done.setIfInBounds i true) (a.put o.dst v) w' := by
  obtain ⟨t, ht, hs, hd, _⟩ := head_dst hB hi h; have sz : t < a.tmps.size := by rw [inv.size]; exact hs
  have atI : At ops (a.put o.dst v) i = v := by
    unfold At; rw [h]
    simp only [Option.bind_some, ht]
    exact getD_put_same sz
  have atJ : ∀ j, j < n → j ≠ i → At ops (a.put o.dst v) j = At ops a j := fun j hj ne => by
    unfold At
    cases hq : ops[j]? with
    | none => rfl
    | some q =>
      simp only [Option.bind_some]
      cases hu : q.dst with
      | none => rfl
      | some u =>
        simp only
        rw [ht]; exact getD_put_other (fun e => hd j q hj ne hq (by rw [hu, e]))
  have old : ∀ j, j ≠ i → (done.setIfInBounds i true).getD j false = true → done.getD j false = true := fun j ne hj => by
    rwa [getD_set_ne false (fun e => ne e.symm)] at hj
  refine ⟨inv.head.set ri hi, inv.kept.trans k, ?_, ?_, fun u hu => ?_, fun j hj hdj => ?_, fun j q hj hq ne fj fq dj dq => ?_⟩
  · rw [ht]; exact inv.defers
  · rw [ht]; simp only [Act.put, Array.size_setIfInBounds]; exact inv.size
  · rw [ht, getD_put_other, inv.same u hu]
    rintro rfl; exact hu i o hi h ht
  · by_cases e : j = i
    · subst e; rw [atI]; exact hv
    · rw [atJ j hj e]; exact mono j _ _ _ (inv.vals j hj (old j e hdj)) k
  · by_cases ej : j = i
    · subst ej
      have eq : q ≠ j := fun e => ne e.symm; rw [atI, atJ q hq eq]; obtain ⟨g, hg, hge⟩ := hf fj; obtain ⟨g2, hg2, hlt⟩ := fr q _ _ fq (inv.vals q hq (old q eq dq)); rw [hg, hg2]; intro e
      cases e
      omega
    · by_cases eq : q = i
      · subst eq
        rw [atI, atJ j hj ej]; obtain ⟨g, hg, hge⟩ := hf fq; obtain ⟨g2, hg2, hlt⟩ := fr j _ _ fj (inv.vals j hj (old j ej dj)); rw [hg, hg2]; intro e
        cases e
        omega
      · rw [atJ j hj ej, atJ q hq eq]
        exact inv.apart j q hj hq ne fj fq (old j ej dj) (old q eq dq)
theorem InvF.frame {V : Nat → Value → World → Prop} {fresh : Nat → Bool} {n : Nat} {w0 w : World} {a0 a : Act} {done : Array Bool} (hB : headB ops n a0.tmps.size = true) (inv : InvF ops n V fresh w0 a0 done a w) : a = putAll (At ops a) (ops.toList.take n) 0 a0 := by
  have hn : n ≤ ops.size := by
    simp only [headB, Bool.and_eq_true, decide_eq_true_eq] at hB
    exact hB.1.2
  have key : ∀ t, t < a.tmps.size → a.tmps.getD t undef = (putAll (At ops a) (ops.toList.take n) 0 a0).tmps.getD t undef := by
    intro t ht
    by_cases h : ∃ j o, j < n ∧ ops[j]? = some o ∧ o.dst = some t
    · obtain ⟨j, o, hj, ho, hd⟩ := h
      obtain ⟨u, hu, hs, hoth, _⟩ := head_dst hB hj ho; rw [hd] at hu
      cases hu
      have hl : (ops.toList.take n)[j]? = some o := by rw [List.getElem?_take_of_lt hj, Array.getElem?_toList]; exact ho
      rw [putAll_at _ _ 0 a0 j o t hl hd hs]
      · rw [Nat.zero_add]
        unfold At; rw [ho]
        simp only [Option.bind_some, hd]
      · intro k q hk hq
        have hkn : k < n := by
          rcases Nat.lt_or_ge k n with c | c
          · exact c
          · rw [List.getElem?_eq_none (by rw [List.length_take]; omega)] at hq; cases hq
        rw [List.getElem?_take_of_lt hkn, Array.getElem?_toList] at hq; exact hoth k q hkn (by omega) hq
    · have h2 : ∀ j o, j < n → ops[j]? = some o → o.dst ≠ some t := fun j o hj ho hd => h ⟨j, o, hj, ho, hd⟩
      rw [putAll_other, inv.same t h2]; intro o ho; obtain ⟨j, hj, e⟩ := List.getElem_of_mem ho; have hjn : j < n := by rw [List.length_take] at hj; omega
      refine h2 j o hjn ?_; rw [← e, List.getElem_take, Array.getElem_toList]; exact Array.getElem?_eq_getElem _
  have hsz : (putAll (At ops a) (ops.toList.take n) 0 a0).tmps.size = a.tmps.size := by rw [putAll_size, inv.size]
  have e1 : a.tmps = (putAll (At ops a) (ops.toList.take n) 0 a0).tmps := by
    refine Array.ext hsz.symm fun i h1 h2 => ?_; have := key i h1
    simpa [Array.getD, h1, h2] using this
  have e2 : a.defers = (putAll (At ops a) (ops.toList.take n) 0 a0).defers := by rw [putAll_defers, inv.defers]
  revert e1 e2
  generalize putAll (At ops a) (ops.toList.take n) 0 a0 = b; intro e1 e2
  cases a; cases b
  simp only at e1 e2
  subst e1; subst e2
  rfl
theorem head_ready {n size : Nat} (hB : headB ops n size = true) {done : Array Bool} (hsz : done.size = ops.size) {j : Nat} (hj : j < n) (hd : done.getD j false = false) : ∃ i, i < n ∧ i ∈ Region.ready .any ops done := by
  have hn : n ≤ ops.size := by
    simp only [headB, Bool.and_eq_true, decide_eq_true_eq] at hB
    exact hB.1.2
  induction j using Nat.strongRecOn with
  | _ j ih =>
    have hjo : j < ops.size := by omega
    have hq : ops[j]? = some ops[j] := Array.getElem?_eq_getElem hjo; obtain ⟨_, _, _, _, h4⟩ := head_dst hB hj hq
    by_cases h : ∃ e ∈ ops[j].after, Region.binds .any e = true ∧ done.getD e.on false = false
    · obtain ⟨e, he, hb, hf⟩ := h
      have := h4 e he hb; exact ih e.on this (by omega) hf
    · refine ⟨j, hj, ?_⟩
      rw [mem_ready]; refine ⟨getD_in (by omega) hd, _, hq, fun e he hb => ?_⟩
      cases hf : done.getD e.on false with
      | true => rfl
      | false => exact absurd ⟨e, he, hb, hf⟩ h
theorem done_all {n : Nat} {done : Array Bool} (inv : HeadInv .any ops n done) (hn : n ≤ ops.size) (h : ∀ j, j < n → done.getD j false = true) : done = headDone ops n := by
  have hs : (headDone ops n).size = ops.size := by
    unfold headDone; rw [List.size_toArray, List.length_append, List.length_replicate, List.length_replicate]; omega
  refine Array.ext (by rw [hs]; exact inv.size) fun i h1 h2 => ?_; have hi : i < ops.size := by rw [← inv.size]; exact h1
  have e3 : (headDone ops n)[i]? = some (decide (i < n)) := by
    unfold headDone; rw [List.getElem?_toArray, List.getElem?_append, List.length_replicate]
    split
    · rename_i c
      rw [List.getElem?_replicate, if_pos c, decide_eq_true c]
    · rename_i c
      rw [List.getElem?_replicate, if_pos (by omega), decide_eq_false c]
  have e2 : (headDone ops n)[i] = decide (i < n) := by
    rw [Array.getElem?_eq_getElem h2] at e3; exact Option.some.inj e3
  rw [e2]; rcases Nat.lt_or_ge i n with c | c
  · have := h i c
    rw [decide_eq_true c]
    simpa [Array.getD, h1] using this
  · have := inv.tail i c hi
    rw [decide_eq_false (by omega)]
    simpa [Array.getD, h1] using this
end
end Go.Proofs.Ytbgpbopnfodjoaa
