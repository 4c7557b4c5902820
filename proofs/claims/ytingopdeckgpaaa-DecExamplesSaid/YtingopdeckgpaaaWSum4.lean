/- Layer 1: Mean. -/
import Derived.Test.YtingopdeckgpaaaWSum3
namespace Go.Proofs.Ytingopdeckgpaaa
set_option linter.unusedVariables false
set_option linter.unusedSimpArgs false
open Go.RowKit Lv

set_option maxHeartbeats 400000 in
theorem mean_any (A : Option Addr) (cap : Nat) (zs : List Int) (w : World) (hr : Row w A zs) (h64 : All64 zs) (hlen : zs.length ≤ 9223372036854775807) :
    Calls Try.prog 28 #[.slice A zs.length cap] w fun e w' => e = .returned (.tuple #[.int .i64 (dMean zs).1, .bool (dMean zs).2]) ∧ Kept w w' := by
  have T := Lib.hid (total_any A cap zs w hr h64 hlen)
  have L := Lib.hid (fun g w => all_sum zs g w h64 hlen)
  have b := total_small zs h64 hlen
  have N := fun w => nearest_any (hi64 (Lv.abs (total zs))) (lo64 (Lv.abs (total zs))) zs.length w (hi64_u _) (lo64_u _) ⟨by omega, by omega⟩
  have e : hi64 (Lv.abs (total zs)) * 18446744073709551616 + lo64 (Lv.abs (total zs)) = Lv.abs (total zs) := wd_in b.1 (by omega)
  rw [e] at N
  have b1 := b.1
  clear e b
  by_cases c : (zs.length : Int) ≠ 0 ∧ Lv.abs (total zs) / zs.length ≤ 9223372036854775807
  · have E : near (Lv.abs (total zs)) zs.length = (rnd (Lv.abs (total zs)) zs.length, true) := if_pos c
    rw [E] at N
    have q0 : 0 ≤ Lv.abs (total zs) / zs.length := Int.ediv_nonneg b1 (by omega)
    have rb := rnd_bounds (Lv.abs (total zs)) zs.length
    have S := fun w => signed_any 0 (rnd (Lv.abs (total zs)) zs.length) (Lv.neg (total zs)) w ⟨by omega, by omega⟩ ⟨by omega, by omega⟩
    have D : dMean zs = fit (sg (Lv.neg (total zs)) (0 * 18446744073709551616 + rnd (Lv.abs (total zs)) zs.length)) := by
      unfold dMean
      rw [if_neg (by intro h; subst h; simp at c), Int.zero_mul, Int.zero_add]
    rw [← D] at S
    have HS := Lib.hid S
    have HN := Lib.hid N
    clear S N D q0 rb c E hr h64 b1
    generalize rnd (Lv.abs (total zs)) zs.length = q at *
    generalize dMean zs = r at *
    generalize hi64 (Lv.abs (total zs)) = x1 at *
    generalize lo64 (Lv.abs (total zs)) = x0 at *
    generalize Lv.neg (total zs) = ng at *
    go_enter Try.func28, Try.ntmps28
    go_wp2_with fail
    refine T.out.mono ?_
    rintro e w1 ⟨rfl, hk, hb⟩
    go_wp2_with fail
    refine (L.out _ _ hb).mono ?_
    rintro e w' ⟨rfl, n, rfl⟩
    go_wp2_with fail
    refine (HN.out _).mono ?_
    rintro e w' ⟨rfl, n2, rfl⟩
    go_wp2_with fail
    refine (HS.out _).mono ?_
    rintro e w' ⟨rfl, rfl⟩
    go_wp2_with fail
    go_ret2
    exact ⟨rfl, (by repeat (first | with_reducible exact Kept.refl _ | with_reducible apply Kept.drew | with_reducible apply Kept.drewN | with_reducible apply Kept.alloc | (with_reducible refine Kept.setCellX ?_ ?_ _; focus (first | (simp; done) | (simp; omega))) | (with_reducible refine Kept.trans ?_ (by assumption))))⟩
  · have E : near (Lv.abs (total zs)) zs.length = (0, false) := if_neg c
    rw [E] at N
    have D : dMean zs = (0, false) := by
      unfold dMean
      by_cases h : zs = []
      · rw [if_pos h]
      · rw [if_neg h]
        have hl : 0 < zs.length := List.length_pos_iff.2 h
        have rb := rnd_bounds (Lv.abs (total zs)) zs.length
        refine fit_out ?_
        cases Lv.neg (total zs) <;> simp only [sg] <;> simp <;> omega
    rw [D]
    have HN := Lib.hid N
    clear N D c E hr h64 b1
    generalize hi64 (Lv.abs (total zs)) = x1 at *
    generalize lo64 (Lv.abs (total zs)) = x0 at *
    generalize Lv.neg (total zs) = ng at *
    go_enter Try.func28, Try.ntmps28
    go_wp2_with fail
    refine T.out.mono ?_
    rintro e w1 ⟨rfl, hk, hb⟩
    go_wp2_with fail
    refine (L.out _ _ hb).mono ?_
    rintro e w' ⟨rfl, n, rfl⟩
    go_wp2_with fail
    refine (HN.out _).mono ?_
    rintro e w' ⟨rfl, n2, rfl⟩
    go_wp2_with fail
    go_ret2
    exact ⟨rfl, (by repeat (first | with_reducible exact Kept.refl _ | with_reducible apply Kept.drew | with_reducible apply Kept.drewN | with_reducible apply Kept.alloc | (with_reducible refine Kept.setCellX ?_ ?_ _; focus (first | (simp; done) | (simp; omega))) | (with_reducible refine Kept.trans ?_ (by assumption))))⟩
end Go.Proofs.Ytingopdeckgpaaa
