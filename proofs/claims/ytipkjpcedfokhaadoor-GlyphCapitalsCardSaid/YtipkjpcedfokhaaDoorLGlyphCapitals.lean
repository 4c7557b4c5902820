/- The law GlyphCapitals, walked. -/
import Derived.Test.YtipkjpcedfokhaaDoorGKnown
import Derived.Test.YtipkjpcedfokhaaDoorMCaps
namespace Go.Proofs.YtipkjpcedfokhaaDoor
set_option linter.unusedVariables false
set_option linter.unusedSimpArgs false
open Go.RowKit Lv

theorem list_of (s : ByteArray) : ∃ l : List UInt8, s = ⟨l.toArray⟩ := ⟨s.data.toList, bytes_of rfl⟩

set_option maxHeartbeats 1000000 in
theorem GlyphCapitals_walk (a0 : ByteArray) (w0 : a0.size ≤ maxLen) (w : World) (m : Int) (hm : Mx w m) :
    Calls Tryd.prog 5 #[.string a0] w fun e w' => e = .returned (.bool true) ∧ Below w.heap.size w w' := by
  obtain ⟨a, rfl⟩ := list_of a0
  have ha : a.length ≤ maxLen := w0
  clear w0
  unfold maxLen at ha
  have Z := ba_size
  have K := Lib.hid (fun w h => known4_any w m h)
  have HM := Lib.hid hm
  clear hm
  by_cases c1 : 600 < a.length
  · go_enter Tryd.func5, Tryd.ntmps5
    go_wp2_with fail
    refine (K.out _ HM.out).mono ?_
    rintro e w1 ⟨rfl, k1⟩
    go_wp2_with fail
    go_ret
    exact ⟨rfl, (by repeat (first | with_reducible exact Kept.refl _ | with_reducible apply Kept.drew | with_reducible apply Kept.drewN | with_reducible apply Kept.alloc | (with_reducible refine Kept.setCellX ?_ ?_ _; focus (first | (simp; done) | (simp; omega))) | (with_reducible refine Kept.trans ?_ (by assumption))))⟩
  · have ul := upper_len a
    have ll := lower_len a
    have U := Lib.hid (fun w => upper_any a w (by omega))
    have L := Lib.hid (fun w => lower_any a w (by omega))
    have UU := fun w => upper_any (upper a) w (by rw [upper_len]; omega)
    rw [upper_upper] at UU
    have LL := fun w => lower_any (lower a) w (by rw [lower_len]; omega)
    rw [lower_lower] at LL
    have UL := fun w => upper_any (lower a) w (by rw [lower_len]; omega)
    rw [upper_lower] at UL
    have LU := fun w => lower_any (upper a) w (by rw [upper_len]; omega)
    rw [lower_upper] at LU
    have HUU := Lib.hid UU; have HLL := Lib.hid LL; have HUL := Lib.hid UL; have HLU := Lib.hid LU
    clear UU LL UL LU
    have AT : Hid (∀ k (h : k < a.length), ∃ c : Nat, a[k].toNat = c ∧ (∀ h', (((ByteArray.mk (upper a).toArray)[k]'h').toNat : Int) = up8 c) ∧ (∀ h', (((ByteArray.mk (lower a).toArray)[k]'h').toNat : Int) = lo8 c)) := fun k h => by
      refine ⟨a[k].toNat, rfl, fun h' => ?_, fun h' => ?_⟩
      · have e : (ByteArray.mk (upper a).toArray)[k]'h' = upB a[k] := by show (a.map upB)[k]'(by rw [List.length_map]; exact h) = _; rw [List.getElem_map]
        rw [e, upB_toNat]
      · have e : (ByteArray.mk (lower a).toArray)[k]'h' = loB a[k] := by show (a.map loB)[k]'(by rw [List.length_map]; exact h) = _; rw [List.getElem_map]
        rw [e, loB_toNat]
    generalize upper a = x at *
    generalize lower a = y at *
    go_enter Tryd.func5, Tryd.ntmps5
    go_wp2_with fail
    refine (U.out _).mono ?_
    rintro e w' ⟨rfl, k1⟩
    go_wp2_with fail
    refine (L.out _).mono ?_
    rintro e w' ⟨rfl, k2⟩
    go_wp2_with fail
    refine (HUU.out _).mono ?_
    rintro e w' ⟨rfl, k3⟩
    go_wp2_with fail
    refine (HLL.out _).mono ?_
    rintro e w' ⟨rfl, k4⟩
    go_wp2_with fail
    refine (HUL.out _).mono ?_
    rintro e w' ⟨rfl, k5⟩
    go_wp2_with fail
    refine (HLU.out _).mono ?_
    rintro e w' ⟨rfl, k6⟩
    have kk := (((((k1.trans k2).trans k3).trans k4).trans k5).trans k6)
    have mm := Lib.hid (HM.out.kept kk)
    clear k1 k2 k3 k4 k5 k6
    go_wp2_with fail
    go_loopw [5] (fun i wr => ∃ k : Nat, k ≤ a.length ∧ i = .int .i64 k ∧ Kept w wr) (fun i _ => a.length - (intOf i).toNat)
    case atStart => exact ⟨0, by omega, rfl, kk⟩
    case round =>
      obtain ⟨k, hk, rfl, kr⟩ := hrel
      by_cases c : k < a.length
      · obtain ⟨ch, e1, e2, e3⟩ := AT.out k c
        have e0 : ∀ h', (((ByteArray.mk a.toArray)[k]'h').toNat : Int) = ch := fun h' => by rw [← e1]; rfl
        have cu : decide ((97 : Int) ≤ (up8 ch : Int)) = false ∨ (decide ((97 : Int) ≤ (up8 ch : Int)) = true ∧ decide ((up8 ch : Int) ≤ 122) = false) := by simp only [decide_eq_false_iff_not, decide_eq_true_eq]; unfold up8; split <;> omega
        have cl : decide ((65 : Int) ≤ (lo8 ch : Int)) = false ∨ (decide ((65 : Int) ≤ (lo8 ch : Int)) = true ∧ decide ((lo8 ch : Int) ≤ 90) = false) := by simp only [decide_eq_false_iff_not, decide_eq_true_eq]; unfold lo8; split <;> omega
        have cc : ch = up8 ch ∨ (ch ≠ up8 ch ∧ ch = lo8 ch) := by unfold up8 lo8; split <;> split <;> omega
        generalize up8 ch = uc at *
        generalize lo8 ch = lc at *
        clear e1
        rcases cc with cc | ⟨c5, cc⟩
        · subst cc
          rcases cu with cu | ⟨cv, cu⟩ <;> rcases cl with cl | ⟨cm, cl⟩
          · go_wp2_with fail
            go_region
            go_wp2_with fail
            go_roundw
            case rel => exact ⟨k + 1, by omega, by go_num, kr.drew⟩
            case measure => (simp [intOf]; try omega)
          · go_wp2_with fail
            go_region
            go_wp2_with fail
            go_roundw
            case rel => exact ⟨k + 1, by omega, by go_num, kr.drew⟩
            case measure => (simp [intOf]; try omega)
          · go_wp2_with fail
            go_region
            go_wp2_with fail
            go_roundw
            case rel => exact ⟨k + 1, by omega, by go_num, kr.drew⟩
            case measure => (simp [intOf]; try omega)
          · go_wp2_with fail
            go_region
            go_wp2_with fail
            go_roundw
            case rel => exact ⟨k + 1, by omega, by go_num, kr.drew⟩
            case measure => (simp [intOf]; try omega)
        · have c6 : ((ch : Int) != (uc : Int)) = true := by rw [bne_iff_ne]; omega
          subst cc
          rcases cu with cu | ⟨cv, cu⟩ <;> rcases cl with cl | ⟨cm, cl⟩
          · go_wp2_with fail
            go_region
            go_wp2_with fail
            go_roundw
            case rel => exact ⟨k + 1, by omega, by go_num, kr.drew⟩
            case measure => (simp [intOf]; try omega)
          · go_wp2_with fail
            go_region
            go_wp2_with fail
            go_roundw
            case rel => exact ⟨k + 1, by omega, by go_num, kr.drew⟩
            case measure => (simp [intOf]; try omega)
          · go_wp2_with fail
            go_region
            go_wp2_with fail
            go_roundw
            case rel => exact ⟨k + 1, by omega, by go_num, kr.drew⟩
            case measure => (simp [intOf]; try omega)
          · go_wp2_with fail
            go_region
            go_wp2_with fail
            go_roundw
            case rel => exact ⟨k + 1, by omega, by go_num, kr.drew⟩
            case measure => (simp [intOf]; try omega)
      · obtain rfl : k = a.length := by omega
        go_wp2_with fail
        refine (K.out _ (HM.out.kept kr)).mono ?_
        rintro e w1 ⟨rfl, k7⟩
        go_wp2_with fail
        go_ret
        exact ⟨rfl, kr.trans k7⟩
end Go.Proofs.YtipkjpcedfokhaaDoor
