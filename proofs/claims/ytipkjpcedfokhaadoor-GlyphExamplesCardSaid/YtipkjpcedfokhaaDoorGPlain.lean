/- Layer 4: printable and Check, in the program and in the reference. -/
import Derived.Test.YtipkjpcedfokhaaDoorGUpper
import Derived.Test.YtipkjpcedfokhaaDoorMPrint
import Derived.Test.YtipkjpcedfokhaaDoorShelf
namespace Go.Proofs.YtipkjpcedfokhaaDoor
set_option linter.unusedVariables false
set_option linter.unusedSimpArgs false
open Go.RowKit Lv

theorem p2_pred (w : World) : PredAt Tryd.prog 120 #[] encR (fun n => decide (n = 0)) w := fun W x _ =>
  (p2_any x W).mono fun _ _ ⟨h1, h2⟩ => ⟨h1, 0, h2.symm⟩
theorem p2_enters : ∀ args w, (callFunc 120 args).run Tryd.prog w = .ok (.enter 120 args) w := enters_of Tryd.func120 (by kernel_rfl) rfl

set_option maxHeartbeats 400000 in
set_option maxRecDepth 100000 in
theorem printable_any (l : List UInt8) (w : World) (hl : l.length ≤ 1000000) : Calls Tryd.prog 78 #[.string ⟨l.toArray⟩] w fun e w' => e = .returned (.bool (plain l)) ∧ Kept w w' := by
  have E := Lib.hid (idx_plain l)
  have I := Lib.hid (fun w => Tryd.strings_IndexFunc 120 #[] p2_enters (fun n => decide (n = 0)) ⟨(l.map prB).toArray⟩ w (p2_pred w))
  go_enter Tryd.func78, Tryd.ntmps78
  go_wp2_with fail
  refine (changed_p1 pr8 l _ hl (Lib.hid fun W c hc _ => (p1_any c W hc).mono fun _ _ ⟨h1, h2⟩ => ⟨h1, by subst h2; exact Kept.refl _⟩) (fun c hc => by unfold pr8; split <;> omega)).mono ?_
  rintro e w1 ⟨cap, cs, f, rfl, k1, lot, tel⟩
  have hcv := conv_lot (cap := cap) (l.map prB) lot (tells_map prB_toNat tel)
  rw [List.length_map] at hcv
  clear lot tel
  go_wp2_with fail
  refine (I.out _).mono ?_
  rintro e w2 ⟨rfl, k2⟩
  go_wp2_with fail
  go_ret
  exact ⟨ret_bool E.out, k1.trans k2⟩

def dCheck (l : List UInt8) : Int := if 256 < l.length then 5 else if plain l then 0 else 4
theorem check_any (l : List UInt8) (w : World) (hl : l.length ≤ 1000000) : Calls Tryd.prog 31 #[.string ⟨l.toArray⟩] w fun e w' => e = .returned (.int .i64 (dCheck l)) ∧ Kept w w' := by
  have Z := ba_size
  have P := Lib.hid (fun w => printable_any l w hl)
  have E : Hid (dCheck l = if 256 < l.length then 5 else if plain l then 0 else 4) := rfl
  generalize dCheck l = d at *
  by_cases c : 256 < l.length
  · rw [if_pos c] at E
    go_enter Tryd.func31, Tryd.ntmps31
    go_wp2_with fail
    go_ret
    exact ⟨ret_int E.out.symm, (by repeat (first | with_reducible exact Kept.refl _ | with_reducible apply Kept.drew | with_reducible apply Kept.drewN | with_reducible apply Kept.alloc | (with_reducible refine Kept.setCellX ?_ ?_ _; focus (first | (simp; done) | (simp; omega))) | (with_reducible refine Kept.trans ?_ (by assumption))))⟩
  · rw [if_neg c] at E
    generalize plain l = b at *
    cases b
    · go_enter Tryd.func31, Tryd.ntmps31
      go_wp2_with fail
      refine (P.out _).mono ?_
      rintro e w' ⟨rfl, k1⟩
      go_wp2_with fail
      go_ret
      exact ⟨ret_int E.out.symm, (by repeat (first | with_reducible exact Kept.refl _ | with_reducible apply Kept.drew | with_reducible apply Kept.drewN | with_reducible apply Kept.alloc | (with_reducible refine Kept.setCellX ?_ ?_ _; focus (first | (simp; done) | (simp; omega))) | (with_reducible refine Kept.trans ?_ (by assumption))))⟩
    · go_enter Tryd.func31, Tryd.ntmps31
      go_wp2_with fail
      refine (P.out _).mono ?_
      rintro e w' ⟨rfl, k1⟩
      go_wp2_with fail
      go_ret
      exact ⟨ret_int E.out.symm, (by repeat (first | with_reducible exact Kept.refl _ | with_reducible apply Kept.drew | with_reducible apply Kept.drewN | with_reducible apply Kept.alloc | (with_reducible refine Kept.setCellX ?_ ?_ _; focus (first | (simp; done) | (simp; omega))) | (with_reducible refine Kept.trans ?_ (by assumption))))⟩
end Go.Proofs.YtipkjpcedfokhaaDoor
