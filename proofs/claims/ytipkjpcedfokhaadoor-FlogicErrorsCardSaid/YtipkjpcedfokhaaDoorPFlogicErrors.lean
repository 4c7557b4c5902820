/- For every input the law FlogicErrors returns true, and its arguments read behind the call as before; the tied card. No condition. -/
import Derived.Test.YtipkjpcedfokhaaDoorRows
import Derived.Test.YtipkjpcedfokhaaDoorCards
import Derived.Test.YtipkjpcedfokhaaDoorTie
import Derived.Test.YtipkjpcedfokhaaDoorLift
import Derived.Test.YtipkjpcedfokhaaDoorCardK
import Derived.Test.YtipkjpcedfokhaaDoorLFlogicErrors
import Derived.Test.YtipkjpcedfokhaaDoorGArgs
import Derived.SevenTiedAt
import Derived.Stop.Joined
import Derived.WalkKit
import Derived.ProofKit
import Derived.OpenShut
import Derived.Below
import Derived.ShutString
import Derived.ChangeOld
import Derived.Carry
namespace Go.Proofs.YtipkjpcedfokhaaDoor.flogicErrors
open Go.ChangeShapes Go.WideShapes Go.ChangeAt Go.RowKit Lv
open Go.ChangeMaps (open_string shut_string)
set_option linter.unusedVariables false

theorem own : ownKnob Tryd.prog.godebug = none := by kernel_rfl

noncomputable def listed : List (String × DataW Unit) := [("unicode/utf8.acceptRanges", Rows.laid_unicode_utf8_acceptRanges), ("unicode/utf8.first", Rows.laid_unicode_utf8_first)]

theorem walk (a0 : Option Addr) (len0 cap0 : Nat) (l0 : List Vl) (w : World) (w0 : ValsIn w a0 len0 cap0 l0) (m : Int) (hm : Mx w m)  :
    Calls Tryd.prog 16 #[.slice a0 len0 cap0] w fun e w' => e = .returned (.bool true) ∧ Below w.heap.size w w' :=
  FlogicErrors_walk a0 len0 cap0 l0 w w0 m hm

set_option maxRecDepth 100000 in
theorem lifted (os : Os) (started : os.Started) (H : Type) (enc : TypeId × Value → H) :
    ReturnsInHanded {} Tryd.checked os 16 .any (fun w args => (Rows.flogicErrorsSpec.pre enc Tryd.prog Tryd.f16 Rows.flogicErrorsRow.domain false w args ∧ laidMetH Tryd.prog listed w) ∧ sizedMet enc Tryd.prog Tryd.f16 (OpenSpec.ofChange Rows.flogicErrorsSpec) false w args) (Rows.flogicErrorsSpec.post enc Tryd.prog Tryd.f16 false true false false) := by
  refine lift_and (C := Tryd.checked) (X := fun w => laidMetH Tryd.prog listed w) (fun _ _ hh h => h.of_heap hh) own started (by kernel_rfl) Tryd.func16
    (ChangeSpec.witness_shaped (enc := enc) (C := Tryd.checked) (os := os) (X := fun w _ => laidMetH Tryd.prog listed w) false (World.laidAll Tryd.prog os listed) #[.slice none 0 0] 8 (World.laidAll_os _ _ _)
      (World.shaped_of_ZipB (by kernel_rfl) (by kernel_rfl)) (by kernel_rfl) (by kernel_rfl) (by kernel_rfl)
      (by rw [MakeChecks.laidMetH_plain _ _ _ (by kernel_rfl)]; exact laidMet_laidAll _ (by kernel_rfl) (by kernel_rfl))) ?_
  intro W base args ds gs before hval0 hW hsh hlaid
  obtain ⟨m, hm⟩ := Tryd.laysM154.s1_3 W hsh
  have hval : ∀ (j : Nat) t v, Tryd.f16.params[j]? = some t → args[j]? = some v → Value.okWide Tryd.prog W .any base t v := hval0
  have hW' := hW
  obtain ⟨p, q, hA0, hV, rfl, hfz, hnd⟩ := hW
  have hA : DataW.TrodAll enc Tryd.prog W 0 (fun _ => true) true Tryd.f16.params.toList args.toList ds p := hA0
  rw [Tryd.params16] at hA hval
  obtain ⟨v0, vs0, d0, ds0, p0, q0, hargs, rfl, rfl, h0, r0⟩ := trodAll_cons hA
  obtain ⟨rfl, rfl, rfl⟩ := trodAll_nil r0
  obtain rfl : args = #[v0] := by cases args; simp_all
  obtain ⟨rfl, rfl⟩ := trodVars_none hV
  have kk0 := h0
  have lt0 : ∀ x ∈ p0, x.block < W.heap.size := by obtain ⟨m, hm⟩ := kk0; exact DataW.trod_lt m _ _ _ hm
  obtain ⟨a0, len0, cap0, l0, rfl, w0⟩ := open_vals (hval 0 41 v0 rfl rfl) h0
  clear hA0 hval0
  simp only [List.append_nil] at hW'
  refine (walk a0 len0 cap0 l0 W w0 m hm).mono fun e W' ⟨he, hg⟩ => ?_
  subst he
  exact ⟨_, rfl, _, _, _, [], _, [], hW', trodAll_mk1 (shut_bool Tryd.underlying4 _), (trodAll_cons_mk (Below.trod laidOut (by kernel_rfl) (of_decide_eq_true (by kernel_rfl)) kk0 hg lt0) trodAll_mk0), rfl, hg.frame _, fun h => by cases h⟩

theorem c_name : Tryd.prog.funcNamed "louvre/louvrelaw15.FlogicErrors" = some 16 := by kernel_rfl
theorem c_closed : joinedFacts Tryd.pinned.checked.prog 16 Tryd.f16 Rows.flogicErrorsSpec Rows.flogicErrorsRow = true := by kernel_rfl
theorem c_inst : Tryd.f16.isInstance Tryd.pinned.checked.prog Rows.flogicErrorsRow.origin Rows.flogicErrorsRow.targs := of_decide_eq_true (by kernel_rfl)
theorem c_wrap : Tryd.f16.isWrapper Tryd.pinned.checked.prog Rows.flogicErrorsRow.wrapper Rows.flogicErrorsRow.mainSum := by
  unfold Func.isWrapper; first | (rw [if_pos (by decide +kernel)]; kernel_rfl) | (rw [if_neg (by decide +kernel)]; exact ⟨rfl, rfl⟩)
theorem over : Rows.flogicErrorsRow.holds Tryd.pinned (OpenSpec.ofChange Rows.flogicErrorsSpec) :=
  OpenClaim.holds_of_wide 16 Tryd.f16 rfl rfl rfl rfl rfl rfl rfl ⟨rfl, rfl, rfl, rfl, rfl⟩ rfl rfl rfl rfl rfl c_name Tryd.func16 c_closed c_inst c_wrap
    (fun os started H enc _ => lifted os started H enc)

theorem c_wf : Rows.flogicErrorsRow.wfByText (OpenSpec.ofChange Rows.flogicErrorsSpec) = true := by kernel_rfl
theorem c_goes : false = Rows.flogicErrorsRow.goesBy Tryd.pinned.checked.prog := by kernel_rfl
theorem c_stand : (([41] : List TypeId).all fun u => !Tryd.prog.wantsStandIn u) = true := by kernel_rfl
theorem proved : Rows.FlogicErrorsCardSaid :=
  Claim7.holds_tied_plain_at .later [] [.data, .pinned] true (true, "e926cc5e3d0bcdcabbb3b564ba0e312d31d7650b98360f7228b2154a947ba908") false over (fun _ h => by cases h) c_wf (fun _ h => by cases h) flogicErrors_row_tie rfl ⟨rfl, rfl⟩ card_main rfl
    (fun f fn hf hfn => by
      obtain rfl : f = 16 := Option.some.inj (c_name.symm.trans hf) |>.symm
      obtain rfl : fn = Tryd.f16 := (Option.some.inj (Tryd.func16.symm.trans hfn)).symm
      exact ⟨card_looks, fun j t ht => by
        rw [Tryd.params16] at ht
        have hm : t ∈ ([41] : List TypeId) := by simpa using Array.mem_of_getElem? ht
        exact (show Tryd.prog.wantsStandIn t = false by simpa using List.all_eq_true.1 c_stand t hm)⟩)
    c_goes
#print axioms proved
end Go.Proofs.YtipkjpcedfokhaaDoor.flogicErrors
