/- For every input the law FnumExamples returns true, and its arguments read behind the call as before; the tied card. No condition. -/
import Derived.Test.YtbpkfnoenkoabaaGreatDoorRows
import Derived.Test.YtbpkfnoenkoabaaGreatDoorCards
import Derived.Test.YtbpkfnoenkoabaaGreatDoorTie
import Derived.Test.YtbpkfnoenkoabaaGreatDoorFgLift
import Derived.Test.YtbpkfnoenkoabaaGreatDoorFgCardK
import Derived.Test.YtbpkfnoenkoabaaGreatDoorFgLFnumExamples
import Derived.Test.YtbpkfnoenkoabaaGreatDoorFgBunC
import Derived.SevenTiedAt
import Derived.Stop.Joined
import Derived.WalkKit
import Derived.ProofKit
import Derived.OpenShut
import Derived.Below
import Derived.ShutString
import Derived.ChangeOld
import Derived.Carry
namespace Go.Proofs.YtbpkfnoenkoabaaGreatDoor.fnumExamples
open Go.ChangeShapes Go.WideShapes Go.ChangeAt Go.RowKit Lv
open Go.ChangeMaps (open_string shut_string)
set_option linter.unusedVariables false
theorem own : ownKnob Tryz.prog.godebug = none := by kernel_rfl
noncomputable def listed : List (String × DataW Unit) := [("unicode/utf8.acceptRanges", Rows.laid_unicode_utf8_acceptRanges), ("unicode/utf8.first", Rows.laid_unicode_utf8_first)]
theorem walk   (w : World) (m : Int) (hm : Mx w m)  :
    Calls Tryz.prog 8 #[] w fun e w' => e = .returned (.bool true) ∧ Below w.heap.size w w' :=
  FnumExamples_walk w m hm
set_option maxRecDepth 100000 in
theorem lifted (os : Os) (started : os.Started) (H : Type) (enc : TypeId × Value → H) :
    ReturnsInHanded {} Tryz.checked os 8 .any (fun w args => (Rows.fnumExamplesSpec.pre enc Tryz.prog Tryz.f8 Rows.fnumExamplesRow.domain false w args ∧ laidMetH Tryz.prog listed w) ∧ sizedMet enc Tryz.prog Tryz.f8 (OpenSpec.ofChange Rows.fnumExamplesSpec) false w args) (Rows.fnumExamplesSpec.post enc Tryz.prog Tryz.f8 false true false false) := by
  refine lift_and (C := Tryz.checked) (X := fun w => laidMetH Tryz.prog listed w) (fun _ _ hh h => h.of_heap hh) own started (by kernel_rfl) Tryz.func8
    (ChangeSpec.witness_shaped (enc := enc) (C := Tryz.checked) (os := os) (X := fun w _ => laidMetH Tryz.prog listed w) false (World.laidAll Tryz.prog os listed) #[] 8 (World.laidAll_os _ _ _)
      (World.shaped_of_ZipB (by kernel_rfl) (by kernel_rfl)) (by kernel_rfl) (by kernel_rfl) (by kernel_rfl)
      (by rw [MakeChecks.laidMetH_plain _ _ _ (by kernel_rfl)]; exact laidMet_laidAll _ (by kernel_rfl) (by kernel_rfl))) ?_
  intro W base args ds gs before hval0 hW hsh hlaid; obtain ⟨m, hm⟩ := Tryz.laysM219.s1_3 W hsh; have hval : ∀ (j : Nat) t v, Tryz.f8.params[j]? = some t → args[j]? = some v → Value.okWide Tryz.prog W .any base t v := hval0; have hW' := hW; obtain ⟨p, q, hA0, hV, rfl, hfz, hnd⟩ := hW; have hA : DataW.TrodAll enc Tryz.prog W 0 (fun _ => true) true Tryz.f8.params.toList args.toList ds p := hA0; rw [Tryz.params8] at hA hval; obtain ⟨hargs, rfl, rfl⟩ := trodAll_nil hA; obtain rfl : args = #[] := by cases args; simp_all
  obtain ⟨rfl, rfl⟩ := trodVars_none hV; clear hA0 hval0
  simp only [List.append_nil] at hW'
  refine (walk W m hm).mono fun e W' ⟨he, hg⟩ => ?_; subst he; exact ⟨_, rfl, _, _, _, [], _, [], hW', trodAll_mk1 (shut_bool Tryz.underlying4 _), trodAll_mk0, rfl, hg.frame _, fun h => by cases h⟩
theorem c_name : Tryz.prog.funcNamed "louvre/louvrelaw13.FnumExamples" = some 8 := by kernel_rfl
theorem c_k1 : (Rows.fnumExamplesRow.wf (OpenSpec.ofChange Rows.fnumExamplesSpec)) = true := by kernel_rfl
theorem c_k2 : (laidOutB Tryz.pinned.checked.prog) = true := card_k2
theorem c_k3 : (mapsRowed Tryz.pinned.checked.prog) = true := card_k3
theorem c_k4 : (Tryz.f8.params.all (Tryz.pinned.checked.prog.readableRec ·)) = true := by kernel_rfl
theorem c_k5 : (namedTie Tryz.pinned.checked.prog Rows.fnumExamplesRow.named Rows.fnumExamplesSpec.vars) = true := by kernel_rfl
theorem c_k6 : ((Rows.fnumExamplesRow.stops == [])) = true := by kernel_rfl
theorem c_k7 : ((Tryz.pinned.checked.prog.stops == [])) = true := card_k7
theorem c_k8 : ((Rows.fnumExamplesRow.knobs == [])) = true := by kernel_rfl
theorem c_k9 : ((Tryz.pinned.checked.prog.stopKnobs == [])) = true := card_k9
theorem c_k10 : ((Rows.fnumExamplesRow.inPlace == Tryz.pinned.checked.prog.inPlace 8)) = true := by kernel_rfl
theorem c_k11 : ((Rows.fnumExamplesRow.unfollowed == Tryz.pinned.checked.prog.unfollowed 8)) = true := by kernel_rfl
theorem c_k12 : ((Rows.fnumExamplesRow.recurses == Tryz.pinned.checked.prog.recurses 8)) = true := by kernel_rfl
theorem c_k13 : ((Rows.fnumExamplesRow.named == Tryz.pinned.checked.prog.varsNamed 8)) = true := by kernel_rfl
theorem c_k14 : ((Rows.fnumExamplesRow.maps == (Tryz.f8.params.toList ++ Rows.fnumExamplesSpec.plain.varTypes Tryz.pinned.checked.prog).any (Tryz.pinned.checked.prog.mapsRec ·))) = true := by kernel_rfl
theorem c_k15 : ((Rows.fnumExamplesRow.ifaces == (Tryz.f8.params.toList ++ Rows.fnumExamplesSpec.plain.varTypes Tryz.pinned.checked.prog).any (Tryz.pinned.checked.prog.ifacesRec ·))) = true := by kernel_rfl
theorem c_k16 : ((Rows.fnumExamplesRow.mapsOut == Tryz.pinned.checked.prog.mapsAmong Tryz.f8.resultTypes.toList)) = true := by kernel_rfl
theorem c_k17 : ((Rows.fnumExamplesRow.loops == (Tryz.f8.params.toList ++ Rows.fnumExamplesSpec.plain.varTypes Tryz.pinned.checked.prog).any (Tryz.pinned.checked.prog.loopsFrom ·))) = true := by kernel_rfl
theorem c_k18 : ((Rows.fnumExamplesRow.wideKeys == (Tryz.f8.params.toList ++ Rows.fnumExamplesSpec.plain.varTypes Tryz.pinned.checked.prog ++ Tryz.f8.resultTypes.toList).any (Tryz.pinned.checked.prog.wideKeysFrom ·))) = true := by kernel_rfl
theorem c_k19 : (Rows.fnumExamplesSpec.vars.all (Tryz.pinned.checked.prog.varReadable ·)) = true := by kernel_rfl
theorem c_k20 : (Tryz.f8.resultTypes.all (fun t => Tryz.pinned.checked.prog.readableRec t && decide (t < Tryz.pinned.checked.prog.types.size))) = true := by kernel_rfl
theorem c_k21 : ((Rows.fnumExamplesRow.ifacesOut == Tryz.f8.resultTypes.toList.any (Tryz.pinned.checked.prog.ifacesRec ·))) = true := by kernel_rfl
theorem c_k22 : ((Rows.fnumExamplesRow.loopsOut == Tryz.f8.resultTypes.toList.any (Tryz.pinned.checked.prog.loopsFrom ·))) = true := by kernel_rfl
theorem c_k23 : ((Rows.fnumExamplesRow.plainKeys == Tryz.pinned.checked.prog.plainKeys)) = true := card_k23
theorem c_k24 : (Rows.fnumExamplesRow.shortTexts.isNone) = true := by kernel_rfl
theorem c_k25 : (Tryz.pinned.checked.prog.stopsHeard) = true := card_k25
theorem c_k26 : (Tryz.pinned.checked.prog.mayEnter) = true := card_k26
theorem c_k27 : ((Rows.fnumExamplesRow.lifted == Tryz.pinned.checked.prog.liftsFinal)) = true := card_k27
theorem c_k28 : ((Tryz.pinned.checked.prog.make == some Rows.fnumExamplesRow.make)) = true := card_k28
theorem c_k29 : ((Rows.fnumExamplesRow.kinds == (if Rows.fnumExamplesRow.domain.isEmpty then [] else Tryz.f8.params.toList.map fun t => match Tryz.pinned.checked.prog.underlying t with | some (.int k) => some k | _ => none))) = true := by kernel_rfl
theorem c_k30 : ((Rows.fnumExamplesRow.pinned == Rows.fnumExamplesRow.pinnedBy)) = true := by kernel_rfl
theorem c_k31 : ((Rows.fnumExamplesRow.veiled == (Tryz.f8.params.toList ++ Rows.fnumExamplesSpec.plain.varTypes Tryz.pinned.checked.prog ++ Tryz.f8.resultTypes.toList).any (Tryz.pinned.checked.prog.veiledRec ·))) = true := by kernel_rfl
theorem c_k32 : (Rows.fnumExamplesRow.veiledFits Tryz.pinned.checked.prog Tryz.f8.params.toList (Tryz.f8.params.toList ++ Rows.fnumExamplesSpec.plain.varTypes Tryz.pinned.checked.prog ++ Tryz.f8.resultTypes.toList)) = true := by kernel_rfl
set_option maxRecDepth 100000 in
theorem c_closed : joinedFacts Tryz.pinned.checked.prog 8 Tryz.f8 Rows.fnumExamplesSpec Rows.fnumExamplesRow = true := card_and (card_and (card_and (card_and (card_and (card_and (card_and (card_and (card_and (card_and (card_and (card_and (card_and (card_and (card_and (card_and (card_and (card_and (card_and (card_and (card_and (card_and (card_and (card_and (card_and (card_and (card_and (card_and (card_and (card_and (card_and (c_k1) c_k2) c_k3) c_k4) c_k5) c_k6) c_k7) c_k8) c_k9) c_k10) c_k11) c_k12) c_k13) c_k14) c_k15) c_k16) c_k17) c_k18) c_k19) c_k20) c_k21) c_k22) c_k23) c_k24) c_k25) c_k26) c_k27) c_k28) c_k29) c_k30) c_k31) c_k32
theorem c_inst : Tryz.f8.isInstance Tryz.pinned.checked.prog Rows.fnumExamplesRow.origin Rows.fnumExamplesRow.targs := of_decide_eq_true (by kernel_rfl)
theorem c_wrap : Tryz.f8.isWrapper Tryz.pinned.checked.prog Rows.fnumExamplesRow.wrapper Rows.fnumExamplesRow.mainSum := by
  unfold Func.isWrapper; first | (rw [if_pos (by decide +kernel)]; kernel_rfl) | (rw [if_neg (by decide +kernel)]; exact ⟨rfl, rfl⟩)
theorem over : Rows.fnumExamplesRow.holds Tryz.pinned (OpenSpec.ofChange Rows.fnumExamplesSpec) :=
  OpenClaim.holds_of_wide 8 Tryz.f8 rfl rfl rfl rfl rfl rfl rfl ⟨rfl, rfl, rfl, rfl, rfl⟩ rfl rfl rfl rfl rfl c_name Tryz.func8 c_closed c_inst c_wrap
    (fun os started H enc _ => lifted os started H enc)
theorem c_wf : Rows.fnumExamplesRow.wfByText (OpenSpec.ofChange Rows.fnumExamplesSpec) = true := by kernel_rfl
theorem c_goes : false = Rows.fnumExamplesRow.goesBy Tryz.pinned.checked.prog := by kernel_rfl
theorem c_stand : (([] : List TypeId).all fun u => !Tryz.prog.wantsStandIn u) = true := by kernel_rfl
theorem proved : Rows.FnumExamplesCardSaid :=
  Claim7.holds_tied_plain_at .later [] [.data, .pinned] true (true, "30c6a06cc591ecf64db396f563d12e8e74dc28a00db673817544fd851996db2c") false over (fun _ h => by cases h) c_wf (fun _ h => by cases h) fnumExamples_row_tie rfl ⟨rfl, rfl⟩ card_main rfl
    (fun f fn hf hfn => by
      obtain rfl : f = 8 := Option.some.inj (c_name.symm.trans hf) |>.symm
      obtain rfl : fn = Tryz.f8 := (Option.some.inj (Tryz.func8.symm.trans hfn)).symm
      exact ⟨card_looks, fun j t ht => by
        rw [Tryz.params8] at ht; have hm : t ∈ ([] : List TypeId) := by simpa using Array.mem_of_getElem? ht
        exact (show Tryz.prog.wantsStandIn t = false by simpa using List.all_eq_true.1 c_stand t hm)⟩)
    c_goes
#print axioms proved
end Go.Proofs.YtbpkfnoenkoabaaGreatDoor.fnumExamples
