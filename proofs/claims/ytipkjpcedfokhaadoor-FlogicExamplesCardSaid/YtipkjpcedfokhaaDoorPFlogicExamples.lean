/- For every input the law FlogicExamples returns true, and its arguments read behind the call as before; the tied card. No condition. -/
import Derived.Test.YtipkjpcedfokhaaDoorRows
import Derived.Test.YtipkjpcedfokhaaDoorCards
import Derived.Test.YtipkjpcedfokhaaDoorTie
import Derived.Test.YtipkjpcedfokhaaDoorLift
import Derived.Test.YtipkjpcedfokhaaDoorCardK
import Derived.Test.YtipkjpcedfokhaaDoorLFlogicExamples
import Derived.Test.YtipkjpcedfokhaaDoorBunC
import Derived.SevenTiedAt
import Derived.Stop.Joined
import Derived.WalkKit
import Derived.ProofKit
import Derived.OpenShut
import Derived.Below
import Derived.ShutString
import Derived.ChangeOld
import Derived.Carry
namespace Go.Proofs.YtipkjpcedfokhaaDoor.flogicExamples
open Go.ChangeShapes Go.WideShapes Go.ChangeAt Go.RowKit Lv
open Go.ChangeMaps (open_string shut_string)
set_option linter.unusedVariables false

theorem own : ownKnob Tryd.prog.godebug = none := by kernel_rfl

noncomputable def listed : List (String × DataW Unit) := [("unicode/utf8.acceptRanges", Rows.laid_unicode_utf8_acceptRanges), ("unicode/utf8.first", Rows.laid_unicode_utf8_first)]

theorem walk   (w : World) (m : Int) (hm : Mx w m)  :
    Calls Tryd.prog 13 #[] w fun e w' => e = .returned (.bool true) ∧ Below w.heap.size w w' :=
  FlogicExamples_walk w m hm

set_option maxRecDepth 100000 in
theorem lifted (os : Os) (started : os.Started) (H : Type) (enc : TypeId × Value → H) :
    ReturnsInHanded {} Tryd.checked os 13 .any (fun w args => (Rows.flogicExamplesSpec.pre enc Tryd.prog Tryd.f13 Rows.flogicExamplesRow.domain false w args ∧ laidMetH Tryd.prog listed w) ∧ sizedMet enc Tryd.prog Tryd.f13 (OpenSpec.ofChange Rows.flogicExamplesSpec) false w args) (Rows.flogicExamplesSpec.post enc Tryd.prog Tryd.f13 false true false false) := by
  refine lift_and (C := Tryd.checked) (X := fun w => laidMetH Tryd.prog listed w) (fun _ _ hh h => h.of_heap hh) own started (by kernel_rfl) Tryd.func13
    (ChangeSpec.witness_shaped (enc := enc) (C := Tryd.checked) (os := os) (X := fun w _ => laidMetH Tryd.prog listed w) false (World.laidAll Tryd.prog os listed) #[] 8 (World.laidAll_os _ _ _)
      (World.shaped_of_ZipB (by kernel_rfl) (by kernel_rfl)) (by kernel_rfl) (by kernel_rfl) (by kernel_rfl)
      (by rw [MakeChecks.laidMetH_plain _ _ _ (by kernel_rfl)]; exact laidMet_laidAll _ (by kernel_rfl) (by kernel_rfl))) ?_
  intro W base args ds gs before hval0 hW hsh hlaid
  obtain ⟨m, hm⟩ := Tryd.laysM154.s1_3 W hsh
  have hval : ∀ (j : Nat) t v, Tryd.f13.params[j]? = some t → args[j]? = some v → Value.okWide Tryd.prog W .any base t v := hval0
  have hW' := hW
  obtain ⟨p, q, hA0, hV, rfl, hfz, hnd⟩ := hW
  have hA : DataW.TrodAll enc Tryd.prog W 0 (fun _ => true) true Tryd.f13.params.toList args.toList ds p := hA0
  rw [Tryd.params13] at hA hval
  obtain ⟨hargs, rfl, rfl⟩ := trodAll_nil hA
  obtain rfl : args = #[] := by cases args; simp_all
  obtain ⟨rfl, rfl⟩ := trodVars_none hV
  clear hA0 hval0
  simp only [List.append_nil] at hW'
  refine (walk W m hm).mono fun e W' ⟨he, hg⟩ => ?_
  subst he
  exact ⟨_, rfl, _, _, _, [], _, [], hW', trodAll_mk1 (shut_bool Tryd.underlying4 _), trodAll_mk0, rfl, hg.frame _, fun h => by cases h⟩

theorem c_name : Tryd.prog.funcNamed "louvre/louvrelaw15.FlogicExamples" = some 13 := by kernel_rfl
theorem c_closed : joinedFacts Tryd.pinned.checked.prog 13 Tryd.f13 Rows.flogicExamplesSpec Rows.flogicExamplesRow = true := by kernel_rfl
theorem c_inst : Tryd.f13.isInstance Tryd.pinned.checked.prog Rows.flogicExamplesRow.origin Rows.flogicExamplesRow.targs := of_decide_eq_true (by kernel_rfl)
theorem c_wrap : Tryd.f13.isWrapper Tryd.pinned.checked.prog Rows.flogicExamplesRow.wrapper Rows.flogicExamplesRow.mainSum := by
  unfold Func.isWrapper; first | (rw [if_pos (by decide +kernel)]; kernel_rfl) | (rw [if_neg (by decide +kernel)]; exact ⟨rfl, rfl⟩)
theorem over : Rows.flogicExamplesRow.holds Tryd.pinned (OpenSpec.ofChange Rows.flogicExamplesSpec) :=
  OpenClaim.holds_of_wide 13 Tryd.f13 rfl rfl rfl rfl rfl rfl rfl ⟨rfl, rfl, rfl, rfl, rfl⟩ rfl rfl rfl rfl rfl c_name Tryd.func13 c_closed c_inst c_wrap
    (fun os started H enc _ => lifted os started H enc)

theorem c_wf : Rows.flogicExamplesRow.wfByText (OpenSpec.ofChange Rows.flogicExamplesSpec) = true := by kernel_rfl
theorem c_goes : false = Rows.flogicExamplesRow.goesBy Tryd.pinned.checked.prog := by kernel_rfl
theorem c_stand : (([] : List TypeId).all fun u => !Tryd.prog.wantsStandIn u) = true := by kernel_rfl
theorem proved : Rows.FlogicExamplesCardSaid :=
  Claim7.holds_tied_plain_at .later [] [.data, .pinned] true (true, "e926cc5e3d0bcdcabbb3b564ba0e312d31d7650b98360f7228b2154a947ba908") false over (fun _ h => by cases h) c_wf (fun _ h => by cases h) flogicExamples_row_tie rfl ⟨rfl, rfl⟩ card_main rfl
    (fun f fn hf hfn => by
      obtain rfl : f = 13 := Option.some.inj (c_name.symm.trans hf) |>.symm
      obtain rfl : fn = Tryd.f13 := (Option.some.inj (Tryd.func13.symm.trans hfn)).symm
      exact ⟨card_looks, fun j t ht => by
        rw [Tryd.params13] at ht
        have hm : t ∈ ([] : List TypeId) := by simpa using Array.mem_of_getElem? ht
        exact (show Tryd.prog.wantsStandIn t = false by simpa using List.all_eq_true.1 c_stand t hm)⟩)
    c_goes
#print axioms proved
end Go.Proofs.YtipkjpcedfokhaaDoor.flogicExamples
