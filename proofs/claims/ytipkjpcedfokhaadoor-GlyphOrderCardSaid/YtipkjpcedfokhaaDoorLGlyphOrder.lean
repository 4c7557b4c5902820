/- The law GlyphOrder, walked. -/
import Derived.Test.YtipkjpcedfokhaaDoorGKnown
import Derived.Test.YtipkjpcedfokhaaDoorMCaps
namespace Go.Proofs.YtipkjpcedfokhaaDoor
set_option linter.unusedVariables false
set_option linter.unusedSimpArgs false
open Go.RowKit Lv

theorem list_of (s : ByteArray) : ∃ l : List UInt8, s = ⟨l.toArray⟩ := ⟨s.data.toList, bytes_of rfl⟩

set_option maxHeartbeats 1000000 in
theorem GlyphOrder_walk (a0 : ByteArray) (a1 : ByteArray) (a2 : ByteArray) (w0 : a0.size ≤ maxLen) (w1 : a1.size ≤ maxLen) (w2 : a2.size ≤ maxLen) (w : World) (m : Int) (hm : Mx w m) :
    Calls Tryd.prog 6 #[.string a0, .string a1, .string a2] w fun e w' => e = .returned (.bool true) ∧ Below w.heap.size w w' := by
  obtain ⟨a, rfl⟩ := list_of a0
  obtain ⟨b, rfl⟩ := list_of a1
  obtain ⟨c, rfl⟩ := list_of a2
  have ha : a.length ≤ maxLen := w0
  have hb : b.length ≤ maxLen := w1
  have hc : c.length ≤ maxLen := w2
  clear w0 w1 w2
  unfold maxLen at ha hb hc
  have Z := ba_size
  have X := ba_append
  have K := Lib.hid (fun w h => known4_any w m h)
  have HM := Lib.hid hm
  clear hm
  by_cases c1 : 300 < a.length
  · go_enter Tryd.func6, Tryd.ntmps6
    go_wp2_with fail
    refine (K.out _ HM.out).mono ?_
    rintro e w1 ⟨rfl, k1⟩
    go_wp2_with fail
    go_ret
    exact ⟨rfl, (by repeat (first | with_reducible exact Kept.refl _ | with_reducible apply Kept.drew | with_reducible apply Kept.drewN | with_reducible apply Kept.alloc | (with_reducible refine Kept.setCellX ?_ ?_ _; focus (first | (simp; done) | (simp; omega))) | (with_reducible refine Kept.trans ?_ (by assumption))))⟩
  · by_cases c2 : 300 < b.length
    · go_enter Tryd.func6, Tryd.ntmps6
      go_wp2_with fail
      refine (K.out _ HM.out).mono ?_
      rintro e w1 ⟨rfl, k1⟩
      go_wp2_with fail
      go_ret
      exact ⟨rfl, (by repeat (first | with_reducible exact Kept.refl _ | with_reducible apply Kept.drew | with_reducible apply Kept.drewN | with_reducible apply Kept.alloc | (with_reducible refine Kept.setCellX ?_ ?_ _; focus (first | (simp; done) | (simp; omega))) | (with_reducible refine Kept.trans ?_ (by assumption))))⟩
    · by_cases c3 : 300 < c.length
      · go_enter Tryd.func6, Tryd.ntmps6
        go_wp2_with fail
        refine (K.out _ HM.out).mono ?_
        rintro e w1 ⟨rfl, k1⟩
        go_wp2_with fail
        go_ret
        exact ⟨rfl, (by repeat (first | with_reducible exact Kept.refl _ | with_reducible apply Kept.drew | with_reducible apply Kept.drewN | with_reducible apply Kept.alloc | (with_reducible refine Kept.setCellX ?_ ?_ _; focus (first | (simp; done) | (simp; omega))) | (with_reducible refine Kept.trans ?_ (by assumption))))⟩
      · have AB := Lib.hid (fun w => compare_any a b w (by omega) (by omega))
        have BA := fun w => compare_any b a w (by omega) (by omega)
        rw [show dComp b a = -dComp a b from cmp_anti _ _] at BA
        have HBA := Lib.hid BA
        have BC := Lib.hid (fun w => compare_any b c w (by omega) (by omega))
        have AC := Lib.hid (fun w => compare_any a c w (by omega) (by omega))
        have UA := Lib.hid (fun w => upper_any a w (by omega))
        have UB := Lib.hid (fun w => upper_any b w (by omega))
        have LA := Lib.hid (fun w => lower_any a w (by omega))
        have P := Lib.hid (fun w => compare_any a (a ++ b) w (by omega) (by rw [List.length_append]; omega))
        have LU := fun w => compare_any (lower a) (upper b) w (by rw [lower_len]; omega) (by rw [upper_len]; omega)
        rw [show dComp (lower a) (upper b) = dComp a b by unfold dComp; rw [upper_lower, upper_upper]] at LU
        have HLU := Lib.hid LU
        have p0 : dComp a (a ++ b) ≤ 0 := by unfold dComp; rw [upper_append]; exact cmp_prefix _ _
        have rg := cmp_range (upper a) (upper b)
        have rp := cmp_range (upper a) (upper (a ++ b))
        have tr := cmp_trans (upper a) (upper b) (upper c)
        have z0 := cmp_zero (x := upper a) (y := upper b)
        have r1 : -1 ≤ dComp a b ∧ dComp a b ≤ 1 := rg
        have r2 : -1 ≤ dComp a (a ++ b) := rp.1
        have r3 : dComp a b ≤ 0 → dComp b c ≤ 0 → dComp a c ≤ 0 ∧ (dComp a c = 0 → dComp a b = 0 ∧ dComp b c = 0) := tr
        have z1 : dComp a b = 0 ↔ upper a = upper b := z0
        have rbc := cmp_range (upper b) (upper c)
        have rac := cmp_range (upper a) (upper c)
        have r4 : -1 ≤ dComp b c ∧ dComp b c ≤ 1 := rbc
        have r5 : -1 ≤ dComp a c ∧ dComp a c ≤ 1 := rac
        clear BA LU rg rp tr z0 rbc rac
        generalize dComp a b = x at *
        generalize dComp b c = y at *
        generalize dComp a c = z at *
        generalize dComp a (a ++ b) = t at *
        obtain ⟨x1, x2⟩ := r1
        have cs : (0 < x) ∨ (x ≤ 0 ∧ 0 < y) ∨ (x ≤ 0 ∧ y ≤ 0 ∧ z < 0) ∨ (x = 0 ∧ y = 0 ∧ z = 0) := by
          rcases Int.lt_or_le 0 x with h | h
          · exact Or.inl h
          · rcases Int.lt_or_le 0 y with g | g
            · exact Or.inr (Or.inl ⟨h, g⟩)
            · have := r3 h g
              rcases Int.lt_or_le z 0 with k | k
              · exact Or.inr (Or.inr (Or.inl ⟨h, g, k⟩))
              · have e : z = 0 := by omega
                have := this.2 e
                exact Or.inr (Or.inr (Or.inr ⟨this.1, this.2, e⟩))
        by_cases xz : x = 0
        · have ue := z1.1 xz
          have u2 : (upper a == upper b) = true := by simpa using ue
          subst xz
          clear z1 r3
          generalize upper a = A at *
          generalize upper b = B at *
          clear ue
          rcases cs with h | ⟨h1, h2⟩ | ⟨h1, h2, h3⟩ | ⟨h1, h2, h3⟩
          · exact absurd h (by omega)
          · go_enter Tryd.func6, Tryd.ntmps6
            go_wp2_with fail
            refine (AB.out _).mono ?_
            rintro e w' ⟨rfl, k1⟩
            go_wp2_with fail
            refine (HBA.out _).mono ?_
            rintro e w' ⟨rfl, k2⟩
            go_wp2_with fail
            refine (BC.out _).mono ?_
            rintro e w' ⟨rfl, k3⟩
            go_wp2_with fail
            refine (AC.out _).mono ?_
            rintro e w' ⟨rfl, k4⟩
            go_wp2_with fail
            refine (UA.out _).mono ?_
            rintro e w' ⟨rfl, k5⟩
            go_wp2_with fail
            refine (UB.out _).mono ?_
            rintro e w' ⟨rfl, k6⟩
            go_wp2_with fail
            refine (P.out _).mono ?_
            rintro e w' ⟨rfl, k7⟩
            go_wp2_with fail
            refine (LA.out _).mono ?_
            rintro e w' ⟨rfl, k8⟩
            go_wp2_with fail
            refine (UB.out _).mono ?_
            rintro e w' ⟨rfl, k9⟩
            go_wp2_with fail
            refine (HLU.out _).mono ?_
            rintro e w' ⟨rfl, k10⟩
            go_wp2_with fail
            refine (K.out _ ((((((((((HM.out.kept k1).kept k2).kept k3).kept k4).kept k5).kept k6).kept k7).kept k8).kept k9).kept k10)).mono ?_
            rintro e w1 ⟨rfl, k11⟩
            go_wp2_with fail
            go_ret
            exact ⟨rfl, (((((((((k1.trans k2).trans k3).trans k4).trans k5).trans k6).trans k7).trans k8).trans k9).trans k10).trans k11⟩
          · have zf : (z == 0) = false := by rw [beq_eq_false_iff_ne]; omega
            go_enter Tryd.func6, Tryd.ntmps6
            go_wp2_with fail
            refine (AB.out _).mono ?_
            rintro e w' ⟨rfl, k1⟩
            go_wp2_with fail
            refine (HBA.out _).mono ?_
            rintro e w' ⟨rfl, k2⟩
            go_wp2_with fail
            refine (BC.out _).mono ?_
            rintro e w' ⟨rfl, k3⟩
            go_wp2_with fail
            refine (AC.out _).mono ?_
            rintro e w' ⟨rfl, k4⟩
            go_wp2_with fail
            refine (UA.out _).mono ?_
            rintro e w' ⟨rfl, k5⟩
            go_wp2_with fail
            refine (UB.out _).mono ?_
            rintro e w' ⟨rfl, k6⟩
            go_wp2_with fail
            refine (P.out _).mono ?_
            rintro e w' ⟨rfl, k7⟩
            go_wp2_with fail
            refine (LA.out _).mono ?_
            rintro e w' ⟨rfl, k8⟩
            go_wp2_with fail
            refine (UB.out _).mono ?_
            rintro e w' ⟨rfl, k9⟩
            go_wp2_with fail
            refine (HLU.out _).mono ?_
            rintro e w' ⟨rfl, k10⟩
            go_wp2_with fail
            refine (K.out _ ((((((((((HM.out.kept k1).kept k2).kept k3).kept k4).kept k5).kept k6).kept k7).kept k8).kept k9).kept k10)).mono ?_
            rintro e w1 ⟨rfl, k11⟩
            go_wp2_with fail
            go_ret
            exact ⟨rfl, (((((((((k1.trans k2).trans k3).trans k4).trans k5).trans k6).trans k7).trans k8).trans k9).trans k10).trans k11⟩
          · subst h2; subst h3
            go_enter Tryd.func6, Tryd.ntmps6
            go_wp2_with fail
            refine (AB.out _).mono ?_
            rintro e w' ⟨rfl, k1⟩
            go_wp2_with fail
            refine (HBA.out _).mono ?_
            rintro e w' ⟨rfl, k2⟩
            go_wp2_with fail
            refine (BC.out _).mono ?_
            rintro e w' ⟨rfl, k3⟩
            go_wp2_with fail
            refine (AC.out _).mono ?_
            rintro e w' ⟨rfl, k4⟩
            go_wp2_with fail
            refine (UA.out _).mono ?_
            rintro e w' ⟨rfl, k5⟩
            go_wp2_with fail
            refine (UB.out _).mono ?_
            rintro e w' ⟨rfl, k6⟩
            go_wp2_with fail
            refine (P.out _).mono ?_
            rintro e w' ⟨rfl, k7⟩
            go_wp2_with fail
            refine (LA.out _).mono ?_
            rintro e w' ⟨rfl, k8⟩
            go_wp2_with fail
            refine (UB.out _).mono ?_
            rintro e w' ⟨rfl, k9⟩
            go_wp2_with fail
            refine (HLU.out _).mono ?_
            rintro e w' ⟨rfl, k10⟩
            go_wp2_with fail
            refine (K.out _ ((((((((((HM.out.kept k1).kept k2).kept k3).kept k4).kept k5).kept k6).kept k7).kept k8).kept k9).kept k10)).mono ?_
            rintro e w1 ⟨rfl, k11⟩
            go_wp2_with fail
            go_ret
            exact ⟨rfl, (((((((((k1.trans k2).trans k3).trans k4).trans k5).trans k6).trans k7).trans k8).trans k9).trans k10).trans k11⟩
        · have ue : ¬ upper a = upper b := fun e => xz (z1.2 e)
          have u2 : (upper a == upper b) = false := by simpa using ue
          have xf : (x == 0) = false := by rw [beq_eq_false_iff_ne]; exact xz
          clear z1 r3
          generalize upper a = A at *
          generalize upper b = B at *
          clear ue
          rcases cs with h | ⟨h1, h2⟩ | ⟨h1, h2, h3⟩ | ⟨h1, h2, h3⟩
          · go_enter Tryd.func6, Tryd.ntmps6
            go_wp2_with fail
            refine (AB.out _).mono ?_
            rintro e w' ⟨rfl, k1⟩
            go_wp2_with fail
            refine (HBA.out _).mono ?_
            rintro e w' ⟨rfl, k2⟩
            go_wp2_with fail
            refine (BC.out _).mono ?_
            rintro e w' ⟨rfl, k3⟩
            go_wp2_with fail
            refine (AC.out _).mono ?_
            rintro e w' ⟨rfl, k4⟩
            go_wp2_with fail
            refine (UA.out _).mono ?_
            rintro e w' ⟨rfl, k5⟩
            go_wp2_with fail
            refine (UB.out _).mono ?_
            rintro e w' ⟨rfl, k6⟩
            go_wp2_with fail
            refine (P.out _).mono ?_
            rintro e w' ⟨rfl, k7⟩
            go_wp2_with fail
            refine (LA.out _).mono ?_
            rintro e w' ⟨rfl, k8⟩
            go_wp2_with fail
            refine (UB.out _).mono ?_
            rintro e w' ⟨rfl, k9⟩
            go_wp2_with fail
            refine (HLU.out _).mono ?_
            rintro e w' ⟨rfl, k10⟩
            go_wp2_with fail
            refine (K.out _ ((((((((((HM.out.kept k1).kept k2).kept k3).kept k4).kept k5).kept k6).kept k7).kept k8).kept k9).kept k10)).mono ?_
            rintro e w1 ⟨rfl, k11⟩
            go_wp2_with fail
            go_ret
            exact ⟨rfl, (((((((((k1.trans k2).trans k3).trans k4).trans k5).trans k6).trans k7).trans k8).trans k9).trans k10).trans k11⟩
          · go_enter Tryd.func6, Tryd.ntmps6
            go_wp2_with fail
            refine (AB.out _).mono ?_
            rintro e w' ⟨rfl, k1⟩
            go_wp2_with fail
            refine (HBA.out _).mono ?_
            rintro e w' ⟨rfl, k2⟩
            go_wp2_with fail
            refine (BC.out _).mono ?_
            rintro e w' ⟨rfl, k3⟩
            go_wp2_with fail
            refine (AC.out _).mono ?_
            rintro e w' ⟨rfl, k4⟩
            go_wp2_with fail
            refine (UA.out _).mono ?_
            rintro e w' ⟨rfl, k5⟩
            go_wp2_with fail
            refine (UB.out _).mono ?_
            rintro e w' ⟨rfl, k6⟩
            go_wp2_with fail
            refine (P.out _).mono ?_
            rintro e w' ⟨rfl, k7⟩
            go_wp2_with fail
            refine (LA.out _).mono ?_
            rintro e w' ⟨rfl, k8⟩
            go_wp2_with fail
            refine (UB.out _).mono ?_
            rintro e w' ⟨rfl, k9⟩
            go_wp2_with fail
            refine (HLU.out _).mono ?_
            rintro e w' ⟨rfl, k10⟩
            go_wp2_with fail
            refine (K.out _ ((((((((((HM.out.kept k1).kept k2).kept k3).kept k4).kept k5).kept k6).kept k7).kept k8).kept k9).kept k10)).mono ?_
            rintro e w1 ⟨rfl, k11⟩
            go_wp2_with fail
            go_ret
            exact ⟨rfl, (((((((((k1.trans k2).trans k3).trans k4).trans k5).trans k6).trans k7).trans k8).trans k9).trans k10).trans k11⟩
          · have zf : (z == 0) = false := by rw [beq_eq_false_iff_ne]; omega
            go_enter Tryd.func6, Tryd.ntmps6
            go_wp2_with fail
            refine (AB.out _).mono ?_
            rintro e w' ⟨rfl, k1⟩
            go_wp2_with fail
            refine (HBA.out _).mono ?_
            rintro e w' ⟨rfl, k2⟩
            go_wp2_with fail
            refine (BC.out _).mono ?_
            rintro e w' ⟨rfl, k3⟩
            go_wp2_with fail
            refine (AC.out _).mono ?_
            rintro e w' ⟨rfl, k4⟩
            go_wp2_with fail
            refine (UA.out _).mono ?_
            rintro e w' ⟨rfl, k5⟩
            go_wp2_with fail
            refine (UB.out _).mono ?_
            rintro e w' ⟨rfl, k6⟩
            go_wp2_with fail
            refine (P.out _).mono ?_
            rintro e w' ⟨rfl, k7⟩
            go_wp2_with fail
            refine (LA.out _).mono ?_
            rintro e w' ⟨rfl, k8⟩
            go_wp2_with fail
            refine (UB.out _).mono ?_
            rintro e w' ⟨rfl, k9⟩
            go_wp2_with fail
            refine (HLU.out _).mono ?_
            rintro e w' ⟨rfl, k10⟩
            go_wp2_with fail
            refine (K.out _ ((((((((((HM.out.kept k1).kept k2).kept k3).kept k4).kept k5).kept k6).kept k7).kept k8).kept k9).kept k10)).mono ?_
            rintro e w1 ⟨rfl, k11⟩
            go_wp2_with fail
            go_ret
            exact ⟨rfl, (((((((((k1.trans k2).trans k3).trans k4).trans k5).trans k6).trans k7).trans k8).trans k9).trans k10).trans k11⟩
          · exact absurd h1 xz
end Go.Proofs.YtipkjpcedfokhaaDoor
