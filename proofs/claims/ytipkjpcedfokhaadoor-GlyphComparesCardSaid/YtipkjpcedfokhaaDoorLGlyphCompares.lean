/- The law GlyphCompares, walked. -/
import Derived.Test.YtipkjpcedfokhaaDoorGKnown
namespace Go.Proofs.YtipkjpcedfokhaaDoor
set_option linter.unusedVariables false
set_option linter.unusedSimpArgs false
open Go.RowKit Lv

theorem list_of (s : ByteArray) : ∃ l : List UInt8, s = ⟨l.toArray⟩ := ⟨s.data.toList, bytes_of rfl⟩
theorem cmp_self : ∀ l : List UInt8, Lib.compareBytes l l = 0
  | [] => rfl
  | c :: l => by
    have h : ¬ c < c := fun h => absurd (show c.toNat < c.toNat from h) (by omega)
    unfold Lib.compareBytes
    rw [if_neg h, if_neg h, cmp_self l]

theorem GlyphCompares_walk (a0 : ByteArray) (a1 : ByteArray) (w0 : a0.size ≤ maxLen) (w1 : a1.size ≤ maxLen) (w : World) (m : Int) (hm : Mx w m) :
    Calls Tryd.prog 3 #[.string a0, .string a1] w fun e w' => e = .returned (.bool true) ∧ Below w.heap.size w w' := by
  obtain ⟨a, rfl⟩ := list_of a0
  obtain ⟨b, rfl⟩ := list_of a1
  have ha : a.length ≤ maxLen := w0
  have hb : b.length ≤ maxLen := w1
  clear w0 w1
  unfold maxLen at ha hb
  have Z := ba_size
  have K := Lib.hid (known4_any w m hm)
  clear hm
  by_cases c1 : 2000 < a.length
  · go_enter Tryd.func3, Tryd.ntmps3
    go_wp2_with fail
    refine K.out.mono ?_
    rintro e w1 ⟨rfl, k1⟩
    go_wp2_with fail
    go_ret
    exact ⟨rfl, (by repeat (first | with_reducible exact Kept.refl _ | with_reducible apply Kept.drew | with_reducible apply Kept.drewN | with_reducible apply Kept.alloc | (with_reducible refine Kept.setCellX ?_ ?_ _; focus (first | (simp; done) | (simp; omega))) | (with_reducible refine Kept.trans ?_ (by assumption))))⟩
  · by_cases c2 : 2000 < b.length
    · go_enter Tryd.func3, Tryd.ntmps3
      go_wp2_with fail
      refine K.out.mono ?_
      rintro e w1 ⟨rfl, k1⟩
      go_wp2_with fail
      go_ret
      exact ⟨rfl, (by repeat (first | with_reducible exact Kept.refl _ | with_reducible apply Kept.drew | with_reducible apply Kept.drewN | with_reducible apply Kept.alloc | (with_reducible refine Kept.setCellX ?_ ?_ _; focus (first | (simp; done) | (simp; omega))) | (with_reducible refine Kept.trans ?_ (by assumption))))⟩
    · have C := Lib.hid (fun w => compare_any a b w (by omega) (by omega))
      have R := Lib.hid (fun w => rcompare_any a b w (by omega) (by omega))
      have S := fun w => compare_any a a w (by omega) (by omega)
      rw [show dComp a a = 0 from cmp_self _] at S
      have HS := Lib.hid S
      have e1 : (dComp a b == dComp a b) = true := by simp
      generalize dComp a b = d at *
      clear S
      go_enter Tryd.func3, Tryd.ntmps3
      go_wp2_with fail
      refine (C.out _).mono ?_
      rintro e w' ⟨rfl, k1⟩
      go_wp2_with fail
      refine (R.out _).mono ?_
      rintro e w' ⟨rfl, k2⟩
      go_wp2_with fail
      refine (HS.out _).mono ?_
      rintro e w' ⟨rfl, k3⟩
      go_wp2_with fail
      go_ret
      exact ⟨rfl, (by repeat (first | with_reducible exact Kept.refl _ | with_reducible apply Kept.drew | with_reducible apply Kept.drewN | with_reducible apply Kept.alloc | (with_reducible refine Kept.setCellX ?_ ?_ _; focus (first | (simp; done) | (simp; omega))) | (with_reducible refine Kept.trans ?_ (by assumption))))⟩
end Go.Proofs.YtipkjpcedfokhaaDoor
