/- The law GlyphBack, walked. -/
import Derived.Test.YtipkjpcedfokhaaDoorGUnq
namespace Go.Proofs.YtipkjpcedfokhaaDoor
set_option linter.unusedVariables false
set_option linter.unusedSimpArgs false
open Go.RowKit Lv

theorem dCheck_ok {l : List UInt8} (h : dCheck l = 0) : l.length ≤ 256 ∧ plain l = true := by
  unfold dCheck at h
  split at h
  · omega
  · split at h
    · exact ⟨by omega, by assumption⟩
    · omega
theorem dCheck_of {l : List UInt8} (h : l.length ≤ 256) (g : plain l = true) : dCheck l = 0 := by unfold dCheck; rw [if_neg (by omega), if_pos g]

set_option maxHeartbeats 1000000 in
set_option maxRecDepth 100000 in
theorem GlyphBack_walk (a0 : ByteArray) (b0 : ByteArray) (w0 : a0.size ≤ maxLen) (w1 : b0.size ≤ maxLen) (w : World) (m : Int) (hm : Mx w m) :
    Calls Tryd.prog 7 #[.string a0, .string b0] w fun e w' => e = .returned (.bool true) ∧ Below w.heap.size w w' := by
  obtain ⟨a, rfl⟩ := list_of a0
  obtain ⟨b, rfl⟩ := list_of b0
  have ha : a.length ≤ maxLen := w0
  have hb : b.length ≤ maxLen := w1
  clear w0 w1
  unfold maxLen at ha hb
  have Z := ba_size
  have K := Lib.hid (fun w h => known4_any w m h)
  have HM := Lib.hid hm
  clear hm
  by_cases c1 : 600 < a.length
  · go_enter Tryd.func7, Tryd.ntmps7
    go_wp2_with fail
    refine (K.out _ HM.out).mono ?_
    rintro e w1 ⟨rfl, k1⟩
    go_wp2_with fail
    go_ret
    exact ⟨rfl, (by repeat (first | with_reducible exact Kept.refl _ | with_reducible apply Kept.drew | with_reducible apply Kept.drewN | with_reducible apply Kept.alloc | (with_reducible refine Kept.setCellX ?_ ?_ _; focus (first | (simp; done) | (simp; omega))) | (with_reducible refine Kept.trans ?_ (by assumption))))⟩
  by_cases c2 : 600 < b.length
  · go_enter Tryd.func7, Tryd.ntmps7
    go_wp2_with fail
    refine (K.out _ HM.out).mono ?_
    rintro e w1 ⟨rfl, k1⟩
    go_wp2_with fail
    go_ret
    exact ⟨rfl, (by repeat (first | with_reducible exact Kept.refl _ | with_reducible apply Kept.drew | with_reducible apply Kept.drewN | with_reducible apply Kept.alloc | (with_reducible refine Kept.setCellX ?_ ?_ _; focus (first | (simp; done) | (simp; omega))) | (with_reducible refine Kept.trans ?_ (by assumption))))⟩
  have Q := Lib.hid (fun w h => quote_any a w m (by omega) h)
  have C := Lib.hid (fun w => check_any a w (by omega))
  have N := Lib.hid (fun w => unquote_any b w (by omega))
  by_cases ok : (dUnq b).2 = 0
  · obtain ⟨u, hu⟩ : ∃ u, dUnq b = (u, 0) := ⟨(dUnq b).1, by rw [← ok]⟩
    obtain ⟨ul, up, uq⟩ := lit_unq hu
    have Q2 := fun w h => quote_any u w m (by omega) h
    have E2 : dQuote u = (b, 0) := by unfold dQuote; rw [if_pos (dCheck_of ul up), uq]
    rw [E2] at Q2
    rw [hu] at N
    have HQ2 := Lib.hid Q2
    clear Q2 E2 hu uq up ok
    by_cases ca : dCheck a = 0
    · obtain ⟨al, ap⟩ := dCheck_ok ca
      have e1 : dQuote a = (34 :: (qq a ++ [34]), 0) := if_pos ca
      have ql := qq_len a
      have N2 := fun w => unquote_any (34 :: (qq a ++ [34])) w (by simp; omega)
      rw [unq_lit ap al] at N2
      rw [e1] at Q
      rw [ca] at C
      have HN2 := Lib.hid N2
      clear e1 ca ql N2
      generalize (34 :: (qq a ++ [34])) = x at *
      go_enter Tryd.func7, Tryd.ntmps7
      go_wp2_with fail
      refine (Q.out _ HM.out).mono ?_
      rintro e w1 ⟨rfl, k1⟩
      go_wp2_with fail
      refine (HN2.out _).mono ?_
      rintro e w' ⟨rfl, k2⟩
      go_wp2_with fail
      refine (C.out _).mono ?_
      rintro e w' ⟨rfl, k3⟩
      go_wp2_with fail
      refine (N.out _).mono ?_
      rintro e w' ⟨rfl, k4⟩
      have kk := ((k1.trans k2).trans k3).trans k4
      have mm := Lib.hid (HM.out.kept kk)
      go_wp2_with fail
      refine (HQ2.out _ mm.out).mono ?_
      rintro e w5 ⟨rfl, k5⟩
      have kk2 := kk.trans k5
      go_wp2_with fail
      refine (K.out _ (HM.out.kept kk2)).mono ?_
      rintro e w6 ⟨rfl, k6⟩
      go_wp2_with fail
      go_ret
      exact ⟨rfl, kk2.trans k6⟩
    · have e1 : dQuote a = ([], dCheck a) := if_neg ca
      rw [e1] at Q
      have b1 : (dCheck a == 0) = false := by simpa using ca
      clear e1 ca
      generalize dCheck a = dc at *
      go_enter Tryd.func7, Tryd.ntmps7
      go_wp2_with fail
      refine (Q.out _ HM.out).mono ?_
      rintro e w1 ⟨rfl, k1⟩
      go_wp2_with fail
      refine (C.out _).mono ?_
      rintro e w' ⟨rfl, k3⟩
      go_wp2_with fail
      refine (N.out _).mono ?_
      rintro e w' ⟨rfl, k4⟩
      have kk := (k1.trans k3).trans k4
      have mm := Lib.hid (HM.out.kept kk)
      go_wp2_with fail
      refine (HQ2.out _ mm.out).mono ?_
      rintro e w5 ⟨rfl, k5⟩
      have kk2 := kk.trans k5
      go_wp2_with fail
      refine (K.out _ (HM.out.kept kk2)).mono ?_
      rintro e w6 ⟨rfl, k6⟩
      go_wp2_with fail
      go_ret
      exact ⟨rfl, kk2.trans k6⟩
  · have b2 : ((dUnq b).2 != 0) = true := by simpa using ok
    generalize dUnq b = n at *
    obtain ⟨n1, n2⟩ := n
    clear ok
    by_cases ca : dCheck a = 0
    · obtain ⟨al, ap⟩ := dCheck_ok ca
      have e1 : dQuote a = (34 :: (qq a ++ [34]), 0) := if_pos ca
      have ql := qq_len a
      have N2 := fun w => unquote_any (34 :: (qq a ++ [34])) w (by simp; omega)
      rw [unq_lit ap al] at N2
      rw [e1] at Q
      rw [ca] at C
      have HN2 := Lib.hid N2
      clear e1 ca ql N2
      generalize (34 :: (qq a ++ [34])) = x at *
      go_enter Tryd.func7, Tryd.ntmps7
      go_wp2_with fail
      refine (Q.out _ HM.out).mono ?_
      rintro e w1 ⟨rfl, k1⟩
      go_wp2_with fail
      refine (HN2.out _).mono ?_
      rintro e w' ⟨rfl, k2⟩
      go_wp2_with fail
      refine (C.out _).mono ?_
      rintro e w' ⟨rfl, k3⟩
      go_wp2_with fail
      refine (N.out _).mono ?_
      rintro e w' ⟨rfl, k4⟩
      have kk := ((k1.trans k2).trans k3).trans k4
      go_wp2_with fail
      refine (K.out _ (HM.out.kept kk)).mono ?_
      rintro e w6 ⟨rfl, k6⟩
      go_wp2_with fail
      go_ret
      exact ⟨rfl, kk.trans k6⟩
    · have e1 : dQuote a = ([], dCheck a) := if_neg ca
      rw [e1] at Q
      have b1 : (dCheck a == 0) = false := by simpa using ca
      clear e1 ca
      generalize dCheck a = dc at *
      go_enter Tryd.func7, Tryd.ntmps7
      go_wp2_with fail
      refine (Q.out _ HM.out).mono ?_
      rintro e w1 ⟨rfl, k1⟩
      go_wp2_with fail
      refine (C.out _).mono ?_
      rintro e w' ⟨rfl, k3⟩
      go_wp2_with fail
      refine (N.out _).mono ?_
      rintro e w' ⟨rfl, k4⟩
      have kk := (k1.trans k3).trans k4
      go_wp2_with fail
      refine (K.out _ (HM.out.kept kk)).mono ?_
      rintro e w6 ⟨rfl, k6⟩
      go_wp2_with fail
      go_ret
      exact ⟨rfl, kk.trans k6⟩
end Go.Proofs.YtipkjpcedfokhaaDoor
