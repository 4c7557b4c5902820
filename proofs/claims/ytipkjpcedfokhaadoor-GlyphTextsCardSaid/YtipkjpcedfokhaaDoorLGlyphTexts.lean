/- The law GlyphTexts, walked. -/
import Derived.Test.YtipkjpcedfokhaaDoorGUnq
namespace Go.Proofs.YtipkjpcedfokhaaDoor
set_option linter.unusedVariables false
set_option linter.unusedSimpArgs false
open Go.RowKit Lv

set_option maxHeartbeats 1000000 in
set_option maxRecDepth 100000 in
theorem GlyphTexts_walk (a0 : ByteArray) (w0 : a0.size ≤ maxLen) (w : World) (m : Int) (hm : Mx w m) :
    Calls Tryd.prog 8 #[.string a0] w fun e w' => e = .returned (.bool true) ∧ Below w.heap.size w w' := by
  obtain ⟨a, rfl⟩ := list_of a0
  have ha : a.length ≤ maxLen := w0
  clear w0
  unfold maxLen at ha
  have Z := ba_size
  have K := Lib.hid (fun w h => known4_any w m h)
  have HM := Lib.hid hm
  clear hm
  by_cases c1 : 2000 < a.length
  · go_enter Tryd.func8, Tryd.ntmps8
    go_wp2_with fail
    refine (K.out _ HM.out).mono ?_
    rintro e w1 ⟨rfl, k1⟩
    go_wp2_with fail
    go_ret
    exact ⟨rfl, (by repeat (first | with_reducible exact Kept.refl _ | with_reducible apply Kept.drew | with_reducible apply Kept.drewN | with_reducible apply Kept.alloc | (with_reducible refine Kept.setCellX ?_ ?_ _; focus (first | (simp; done) | (simp; omega))) | (with_reducible refine Kept.trans ?_ (by assumption))))⟩
  · have C := Lib.hid (fun w => check_any a w (by omega))
    have RC := Lib.hid (fun w => rcheck_any a w (by omega))
    have U := Lib.hid (fun w => upper_any a w (by omega))
    have RU := Lib.hid (fun w => rupper_any a w (by omega))
    have L := Lib.hid (fun w => lower_any a w (by omega))
    have RL := Lib.hid (fun w => rlower_any a w (by omega))
    have T := Lib.hid (fun w h => trim_any a w m (by omega) h)
    have RT := Lib.hid (fun w => rtrim_any a w (by omega))
    have Q := Lib.hid (fun w h => quote_any a w m (by omega) h)
    have RQ := Lib.hid (fun w => rquote_any a w (by omega))
    have N := Lib.hid (fun w => unquote_any a w (by omega))
    have RN := Lib.hid (fun w => runquote_any a w (by omega))
    generalize dCheck a = dc at *
    generalize upper a = u at *
    generalize lower a = l at *
    generalize trim a = t at *
    generalize dQuote a = q at *
    generalize dUnq a = n at *
    obtain ⟨q1, q2⟩ := q
    obtain ⟨n1, n2⟩ := n
    go_enter Tryd.func8, Tryd.ntmps8
    go_wp2_with fail
    refine (C.out _).mono ?_
    rintro e w' ⟨rfl, k1⟩
    go_wp2_with fail
    refine (RC.out _).mono ?_
    rintro e w' ⟨rfl, rfl⟩
    go_wp2_with fail
    refine (U.out _).mono ?_
    rintro e w' ⟨rfl, k2⟩
    go_wp2_with fail
    refine (RU.out _).mono ?_
    rintro e w' ⟨rfl, k3⟩
    go_wp2_with fail
    refine (L.out _).mono ?_
    rintro e w' ⟨rfl, k4⟩
    go_wp2_with fail
    refine (RL.out _).mono ?_
    rintro e w' ⟨rfl, k5⟩
    have kk := ((((k1.trans k2).trans k3).trans k4).trans k5)
    have mm := Lib.hid (HM.out.kept kk)
    go_wp2_with fail
    refine (T.out _ mm.out).mono ?_
    rintro e w6 ⟨rfl, k6⟩
    go_wp2_with fail
    refine (RT.out _).mono ?_
    rintro e w' ⟨rfl, k7⟩
    have kk2 := (kk.trans k6).trans k7
    have mm2 := Lib.hid (HM.out.kept kk2)
    go_wp2_with fail
    refine (Q.out _ mm2.out).mono ?_
    rintro e w8 ⟨rfl, k8⟩
    go_wp2_with fail
    refine (RQ.out _).mono ?_
    rintro e w' ⟨rfl, k9⟩
    go_wp2_with fail
    refine (N.out _).mono ?_
    rintro e w' ⟨rfl, k10⟩
    go_wp2_with fail
    refine (RN.out _).mono ?_
    rintro e w' ⟨rfl, k11⟩
    have kk3 := (((kk2.trans k8).trans k9).trans k10).trans k11
    clear k1 k2 k3 k4 k5 k6 k7 k8 k9 k10 k11
    go_wp2_with fail
    go_ret
    exact ⟨rfl, kk3⟩
end Go.Proofs.YtipkjpcedfokhaaDoor
