/- Layer 4: the fixed texts that the statements check beside. -/
import Derived.Test.YtipkjpcedfokhaaDoorGTrim
import Derived.Test.YtipkjpcedfokhaaDoorGComp
namespace Go.Proofs.YtipkjpcedfokhaaDoor
set_option linter.unusedVariables false
set_option linter.unusedSimpArgs false
open Go.RowKit Lv

theorem known4_any (w : World) (m : Int) (hm : Mx w m) : Calls Tryd.prog 22 #[] w fun e w' => e = .returned (.bool true) ∧ Kept w w' := by
  have Q := fun w (h : Mx w m) => quote_any [120] w m (by decide) h
  rw [show dQuote [120] = ([34, 120, 34], 0) from by decide] at Q
  have U := fun w => upper_any [120] w (by decide)
  rw [show upper [120] = [88] from by decide] at U
  have T := fun w (h : Mx w m) => trim_any [32, 120, 32] w m (by decide) h
  rw [show trim [32, 120, 32] = [120] from by decide] at T
  have C := fun w => compare_any [98] [97] w (by decide) (by decide)
  rw [show dComp [98] [97] = 1 from by decide] at C
  have HQ := Lib.hid Q; have HU := Lib.hid U; have HT := Lib.hid T; have HC := Lib.hid C
  have HM := Lib.hid hm
  clear Q U T C hm
  go_enter Tryd.func22, Tryd.ntmps22
  go_wp2_with fail
  refine (HQ.out _ HM.out).mono ?_
  rintro e w1 ⟨rfl, k1⟩
  have m1 := Lib.hid (HM.out.kept k1)
  go_wp2_with fail
  refine (HU.out _).mono ?_
  rintro e w2 ⟨rfl, k2⟩
  have m2 := Lib.hid (m1.out.kept k2)
  go_wp2_with fail
  refine (HT.out _ m2.out).mono ?_
  rintro e w3 ⟨rfl, k3⟩
  go_wp2_with fail
  refine (HC.out _).mono ?_
  rintro e w4 ⟨rfl, k4⟩
  go_wp2_with fail
  go_ret
  exact ⟨rfl, (by repeat (first | with_reducible exact Kept.refl _ | with_reducible apply Kept.drew | with_reducible apply Kept.drewN | with_reducible apply Kept.alloc | (with_reducible refine Kept.setCellX ?_ ?_ _; focus (first | (simp; done) | (simp; omega))) | (with_reducible refine Kept.trans ?_ (by assumption))))⟩
end Go.Proofs.YtipkjpcedfokhaaDoor
