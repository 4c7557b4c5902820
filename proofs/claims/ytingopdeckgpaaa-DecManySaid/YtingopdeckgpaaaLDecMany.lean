/- The law DecMany, walked: Sum and Mean return what the reference returns. -/
import Derived.Test.YtingopdeckgpaaaWArgs
namespace Go.Proofs.Ytingopdeckgpaaa
set_option linter.unusedVariables false
set_option linter.unusedSimpArgs false
open Go.RowKit Lv

theorem DecMany_walk (a0 : Option Addr) (len0 cap0 : Nat) (z0 : List Int) (w : World) (w0 : IsRow .i64 w a0 len0 cap0 z0) :
    Calls Try.prog 5 #[.slice a0 len0 cap0] w fun e w' => e = .returned (.bool true) ∧ Below w.heap.size w w' := by
  obtain ⟨hr, h64, hlen, hmax⟩ := w0.row
  clear w0
  generalize z0.take len0 = zs at *
  subst hlen
  by_cases c : 300 < zs.length
  · have K := Lib.hid known_any
    clear hr h64
    go_enter Try.func5, Try.ntmps5
    go_wp2_with fail
    refine (K.out _).mono ?_
    rintro e w' ⟨rfl, hk⟩
    go_wp2_with fail
    go_ret
    exact ⟨rfl, hk⟩
  · have S := Lib.hid (fun w' (k : Kept w w') => sum_any a0 cap0 zs w' (hr.kept k) h64 hmax)
    have S' := Lib.hid (fun w' (k : Kept w w') => rsum_any a0 cap0 zs w' (hr.kept k) h64 hmax)
    have M := Lib.hid (fun w' (k : Kept w w') => mean_any a0 cap0 zs w' (hr.kept k) h64 hmax)
    have M' := Lib.hid (fun w' (k : Kept w w') => rmean_any a0 cap0 zs w' (hr.kept k) h64 hmax)
    have e1 : ((dSum zs).1 != (dSum zs).1) = false := by simp
    have e2 : ((dSum zs).2 != (dSum zs).2) = false := by simp
    have e3 : ((dMean zs).1 == (dMean zs).1) = true := by simp
    have e4 : ((dMean zs).2 == (dMean zs).2) = true := by simp
    clear hr h64
    generalize dSum zs = p at *
    generalize dMean zs = q at *
    go_enter Try.func5, Try.ntmps5
    go_wp2_with fail
    refine (S.out _ (Kept.refl w)).mono ?_
    rintro e w1 ⟨rfl, k1⟩
    go_wp2_with fail
    refine (S'.out _ k1).mono ?_
    rintro e w2 ⟨rfl, k2⟩
    have k2' := Kept.trans k1 k2
    go_wp2_with fail
    refine (M.out _ k2').mono ?_
    rintro e w3 ⟨rfl, k3⟩
    have k3' := Kept.trans k2' k3
    go_wp2_with fail
    refine (M'.out _ k3').mono ?_
    rintro e w4 ⟨rfl, k4⟩
    go_wp2_with fail
    go_ret
    exact ⟨rfl, Kept.trans k3' k4⟩
end Go.Proofs.Ytingopdeckgpaaa
