/- Layer 4: Compare, in the program and in the reference. -/
import Derived.Test.YtipkjpcedfokhaaDoorGRef1
import Derived.Test.YtipkjpcedfokhaaDoorMComp
import Derived.Laws.Cover1
namespace Go.Proofs.YtipkjpcedfokhaaDoor
set_option linter.unusedVariables false
set_option linter.unusedSimpArgs false
open Go.RowKit Lv

def dComp (a b : List UInt8) : Int := Lib.compareBytes (upper a) (upper b)

theorem compare_any (a b : List UInt8) (w : World) (ha : a.length ≤ 1000000) (hb : b.length ≤ 1000000) : Calls Tryd.prog 23 #[.string ⟨a.toArray⟩, .string ⟨b.toArray⟩] w fun e w' => e = .returned (.int .i64 (dComp a b)) ∧ Kept w w' := by
  have U := Lib.hid (fun w => upper_any a w ha)
  have V := Lib.hid (fun w => upper_any b w hb)
  have C := Lib.hid (fun w => Tryd.strings_Compare ⟨(upper a).toArray⟩ ⟨(upper b).toArray⟩ w)
  have E : Hid (Lib.compareBytes (upper a) (upper b) = dComp a b) := rfl
  go_enter Tryd.func23, Tryd.ntmps23
  go_wp2_with fail
  refine (U.out _).mono ?_
  rintro e w' ⟨rfl, k1⟩
  go_wp2_with fail
  refine (V.out _).mono ?_
  rintro e w' ⟨rfl, k2⟩
  go_wp2_with fail
  refine (C.out _).mono ?_
  rintro e w' ⟨rfl, k3⟩
  subst k3
  go_wp2_with fail
  go_ret
  exact ⟨ret_int E.out, (by repeat (first | with_reducible exact Kept.refl _ | with_reducible apply Kept.drew | with_reducible apply Kept.drewN | with_reducible apply Kept.alloc | (with_reducible refine Kept.setCellX ?_ ?_ _; focus (first | (simp; done) | (simp; omega))) | (with_reducible refine Kept.trans ?_ (by assumption))))⟩

theorem rcompare_any (a b : List UInt8) (w : World) (ha : a.length ≤ 1000000) (hb : b.length ≤ 1000000) : Calls Tryd.prog 24 #[.string ⟨a.toArray⟩, .string ⟨b.toArray⟩] w fun e w' => e = .returned (.int .i64 (dComp a b)) ∧ Kept w w' := by
  have U := Lib.hid (fun w => rupper_any a w ha)
  have V := Lib.hid (fun w => rupper_any b w hb)
  have E : Hid (Lib.compareBytes (upper a) (upper b) = dComp a b) := rfl
  have S := cmp_spec (upper a) (upper b)
  generalize upper a = x at *
  generalize upper b = y at *
  generalize dComp a b = r at *
  have TL : ∀ l : List UInt8, (ByteArray.mk l.toArray).toList = l := fun l => by rw [Lib.toList_data]
  rcases S with ⟨h1, h2⟩ | ⟨h1, h2, h3⟩ | ⟨h1, h2, h3⟩
  · rw [h2] at E
    clear h2
    go_enter Tryd.func24, Tryd.ntmps24
    go_wp2_with fail
    refine (U.out _).mono ?_
    rintro e w' ⟨rfl, k1⟩
    go_wp2_with fail
    refine (V.out _).mono ?_
    rintro e w' ⟨rfl, k2⟩
    go_wp2_with fail
    go_ret
    exact ⟨ret_int E.out, (by repeat (first | with_reducible exact Kept.refl _ | with_reducible apply Kept.drew | with_reducible apply Kept.drewN | with_reducible apply Kept.alloc | (with_reducible refine Kept.setCellX ?_ ?_ _; focus (first | (simp; done) | (simp; omega))) | (with_reducible refine Kept.trans ?_ (by assumption))))⟩
  · rw [h3] at E
    subst h2
    clear h3
    go_enter Tryd.func24, Tryd.ntmps24
    go_wp2_with fail
    refine (U.out _).mono ?_
    rintro e w' ⟨rfl, k1⟩
    go_wp2_with fail
    refine (V.out _).mono ?_
    rintro e w' ⟨rfl, k2⟩
    go_wp2_with fail
    go_ret
    exact ⟨ret_int E.out, (by repeat (first | with_reducible exact Kept.refl _ | with_reducible apply Kept.drew | with_reducible apply Kept.drewN | with_reducible apply Kept.alloc | (with_reducible refine Kept.setCellX ?_ ?_ _; focus (first | (simp; done) | (simp; omega))) | (with_reducible refine Kept.trans ?_ (by assumption))))⟩
  · rw [h3] at E
    have h4 : (x == y) = false := by simpa using h2
    clear h3 h2
    go_enter Tryd.func24, Tryd.ntmps24
    go_wp2_with fail
    refine (U.out _).mono ?_
    rintro e w' ⟨rfl, k1⟩
    go_wp2_with fail
    refine (V.out _).mono ?_
    rintro e w' ⟨rfl, k2⟩
    go_wp2_with fail
    go_ret
    exact ⟨ret_int E.out, (by repeat (first | with_reducible exact Kept.refl _ | with_reducible apply Kept.drew | with_reducible apply Kept.drewN | with_reducible apply Kept.alloc | (with_reducible refine Kept.setCellX ?_ ?_ _; focus (first | (simp; done) | (simp; omega))) | (with_reducible refine Kept.trans ?_ (by assumption))))⟩
end Go.Proofs.YtipkjpcedfokhaaDoor
