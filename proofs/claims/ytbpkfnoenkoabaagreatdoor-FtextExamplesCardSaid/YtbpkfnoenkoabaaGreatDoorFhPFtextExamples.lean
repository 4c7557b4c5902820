/- For every input the law FtextExamples returns true, and its arguments read behind the call as before; the tied card. No condition. -/
import Derived.Test.YtbpkfnoenkoabaaGreatDoorRows
import Derived.Test.YtbpkfnoenkoabaaGreatDoorCards
import Derived.Test.YtbpkfnoenkoabaaGreatDoorTie
import Derived.Test.YtbpkfnoenkoabaaGreatDoorFhLift
import Derived.Test.YtbpkfnoenkoabaaGreatDoorFhCardK
import Derived.Test.YtbpkfnoenkoabaaGreatDoorFhLFtextExamples
import Derived.Test.YtbpkfnoenkoabaaGreatDoorFhBunC
import Derived.SevenTiedAt
import Derived.Stop.Joined
import Derived.WalkKit
import Derived.ProofKit
import Derived.OpenShut
import Derived.Below
import Derived.ShutString
import Derived.ChangeOld
import Derived.Carry
namespace Go.Proofs.YtbpkfnoenkoabaaGreatDoor.ftextExamples
open Go.ChangeShapes Go.WideShapes Go.ChangeAt Go.RowKit Lv
open Go.ChangeMaps (open_string shut_string)
set_option linter.unusedVariables false
theorem own : ownKnob Tryz.prog.godebug = none := by kernel_rfl
noncomputable def listed : List (String × DataW Unit) := [("unicode/utf8.acceptRanges", Rows.laid_unicode_utf8_acceptRanges), ("unicode/utf8.first", Rows.laid_unicode_utf8_first)]
theorem walk   (w : World) (m : Int) (hm : Mx w m)  :
    Calls Tryz.prog 4 #[] w fun e w' => e = .returned (.bool true) ∧ Below w.heap.size w w' :=
  FtextExamples_walk w m hm
set_option maxRecDepth 100000 in
theorem lifted (os : Os) (started : os.Started) (H : Type) (enc : TypeId × Value → H) :
    ReturnsInHanded {} Tryz.checked os 4 .any (fun w args => (Rows.ftextExamplesSpec.pre enc Tryz.prog Tryz.f4 Rows.ftextExamplesRow.domain false w args ∧ laidMetH Tryz.prog listed w) ∧ sizedMet enc Tryz.prog Tryz.f4 (OpenSpec.ofChange Rows.ftextExamplesSpec) false w args) (Rows.ftextExamplesSpec.post enc Tryz.prog Tryz.f4 false true false false) := by
  refine lift_and (C := Tryz.checked) (X := fun w => laidMetH Tryz.prog listed w) (fun _ _ hh h => h.of_heap hh) own started (by kernel_rfl) Tryz.func4
    (ChangeSpec.witness_shaped (enc := enc) (C := Tryz.checked) (os := os) (X := fun w _ => laidMetH Tryz.prog listed w) false (World.laidAll Tryz.prog os listed) #[] 8 (World.laidAll_os _ _ _)
      (World.shaped_of_ZipB (by kernel_rfl) (by kernel_rfl)) (by kernel_rfl) (by kernel_rfl) (by kernel_rfl)
      (by rw [MakeChecks.laidMetH_plain _ _ _ (by kernel_rfl)]; exact laidMet_laidAll _ (by kernel_rfl) (by kernel_rfl))) ?_
  intro W base args ds gs before hval0 hW hsh hlaid; obtain ⟨m, hm⟩ := Tryz.laysM219.s1_3 W hsh; have hval : ∀ (j : Nat) t v, Tryz.f4.params[j]? = some t → args[j]? = some v → Value.okWide Tryz.prog W .any base t v := hval0; have hW' := hW; obtain ⟨p, q, hA0, hV, rfl, hfz, hnd⟩ := hW; have hA : DataW.TrodAll enc Tryz.prog W 0 (fun _ => true) true Tryz.f4.params.toList args.toList ds p := hA0; rw [Tryz.params4] at hA hval; obtain ⟨hargs, rfl, rfl⟩ := trodAll_nil hA; obtain rfl : args = #[] := by cases args; simp_all
  obtain ⟨rfl, rfl⟩ := trodVars_none hV; clear hA0 hval0
  simp only [List.append_nil] at hW'
  refine (walk W m hm).mono fun e W' ⟨he, hg⟩ => ?_; subst he; exact ⟨_, rfl, _, _, _, [], _, [], hW', trodAll_mk1 (shut_bool Tryz.underlying4 _), trodAll_mk0, rfl, hg.frame _, fun h => by cases h⟩
theorem c_name : Tryz.prog.funcNamed "louvre/louvrelaw14.FtextExamples" = some 4 := by kernel_rfl
theorem c_k1 : (Rows.ftextExamplesRow.wf (OpenSpec.ofChange Rows.ftextExamplesSpec)) = true := by kernel_rfl
theorem c_k2 : (laidOutB Tryz.pinned.checked.prog) = true := card_k2
theorem c_k3 : (mapsRowed Tryz.pinned.checked.prog) = true := card_k3
theorem c_k4 : (Tryz.f4.params.all (Tryz.pinned.checked.prog.readableRec ·)) = true := by kernel_rfl
theorem c_k5 : (namedTie Tryz.pinned.checked.prog Rows.ftextExamplesRow.named Rows.ftextExamplesSpec.vars) = true := by kernel_rfl
theorem c_k6 : ((Rows.ftextExamplesRow.stops == [])) = true := by kernel_rfl
theorem c_k7 : ((Tryz.pinned.checked.prog.stops == [])) = true := card_k7
theorem c_k8 : ((Rows.ftextExamplesRow.knobs == [])) = true := by kernel_rfl
theorem c_k9 : ((Tryz.pinned.checked.prog.stopKnobs == [])) = true := card_k9
theorem c_k10 : ((Rows.ftextExamplesRow.inPlace == Tryz.pinned.checked.prog.inPlace 4)) = true := by kernel_rfl
theorem c_k11 : ((Rows.ftextExamplesRow.unfollowed == Tryz.pinned.checked.prog.unfollowed 4)) = true := by kernel_rfl
theorem c_k12 : ((Rows.ftextExamplesRow.recurses == Tryz.pinned.checked.prog.recurses 4)) = true := by kernel_rfl
theorem c_k13 : ((Rows.ftextExamplesRow.named == Tryz.pinned.checked.prog.varsNamed 4)) = true := by kernel_rfl
theorem c_k14 : ((Rows.ftextExamplesRow.maps == (Tryz.f4.params.toList ++ Rows.ftextExamplesSpec.plain.varTypes Tryz.pinned.checked.prog).any (Tryz.pinned.checked.prog.mapsRec ·))) = true := by kernel_rfl
theorem c_k15 : ((Rows.ftextExamplesRow.ifaces == (Tryz.f4.params.toList ++ Rows.ftextExamplesSpec.plain.varTypes Tryz.pinned.checked.prog).any (Tryz.pinned.checked.prog.ifacesRec ·))) = true := by kernel_rfl
theorem c_k16 : ((Rows.ftextExamplesRow.mapsOut == Tryz.pinned.checked.prog.mapsAmong Tryz.f4.resultTypes.toList)) = true := by kernel_rfl
theorem c_k17 : ((Rows.ftextExamplesRow.loops == (Tryz.f4.params.toList ++ Rows.ftextExamplesSpec.plain.varTypes Tryz.pinned.checked.prog).any (Tryz.pinned.checked.prog.loopsFrom ·))) = true := by kernel_rfl
theorem c_k18 : ((Rows.ftextExamplesRow.wideKeys == (Tryz.f4.params.toList ++ Rows.ftextExamplesSpec.plain.varTypes Tryz.pinned.checked.prog ++ Tryz.f4.resultTypes.toList).any (Tryz.pinned.checked.prog.wideKeysFrom ·))) = true := by kernel_rfl
theorem c_k19 : (Rows.ftextExamplesSpec.vars.all (Tryz.pinned.checked.prog.varReadable ·)) = true := by kernel_rfl
theorem c_k20 : (Tryz.f4.resultTypes.all (fun t => Tryz.pinned.checked.prog.readableRec t && decide (t < Tryz.pinned.checked.prog.types.size))) = true := by kernel_rfl
theorem c_k21 : ((Rows.ftextExamplesRow.ifacesOut == Tryz.f4.resultTypes.toList.any (Tryz.pinned.checked.prog.ifacesRec ·))) = true := by kernel_rfl
theorem c_k22 : ((Rows.ftextExamplesRow.loopsOut == Tryz.f4.resultTypes.toList.any (Tryz.pinned.checked.prog.loopsFrom ·))) = true := by kernel_rfl
theorem c_k23 : ((Rows.ftextExamplesRow.plainKeys == Tryz.pinned.checked.prog.plainKeys)) = true := card_k23
theorem c_k24 : (Rows.ftextExamplesRow.shortTexts.isNone) = true := by kernel_rfl
theorem c_k25 : (Tryz.pinned.checked.prog.stopsHeard) = true := card_k25
theorem c_k26 : (Tryz.pinned.checked.prog.mayEnter) = true := card_k26
theorem c_k27 : ((Rows.ftextExamplesRow.lifted == Tryz.pinned.checked.prog.liftsFinal)) = true := card_k27
theorem c_k28 : ((Tryz.pinned.checked.prog.make == some Rows.ftextExamplesRow.make)) = true := card_k28
theorem c_k29 : ((Rows.ftextExamplesRow.kinds == (if Rows.ftextExamplesRow.domain.isEmpty then [] else Tryz.f4.params.toList.map fun t => match Tryz.pinned.checked.prog.underlying t with | some (.int k) => some k | _ => none))) = true := by kernel_rfl
theorem c_k30 : ((Rows.ftextExamplesRow.pinned == Rows.ftextExamplesRow.pinnedBy)) = true := by kernel_rfl
theorem c_k31 : ((Rows.ftextExamplesRow.veiled == (Tryz.f4.params.toList ++ Rows.ftextExamplesSpec.plain.varTypes Tryz.pinned.checked.prog ++ Tryz.f4.resultTypes.toList).any (Tryz.pinned.checked.prog.veiledRec ·))) = true := by kernel_rfl
theorem c_k32 : (Rows.ftextExamplesRow.veiledFits Tryz.pinned.checked.prog Tryz.f4.params.toList (Tryz.f4.params.toList ++ Rows.ftextExamplesSpec.plain.varTypes Tryz.pinned.checked.prog ++ Tryz.f4.resultTypes.toList)) = true := by kernel_rfl
set_option maxRecDepth 100000 in
theorem c_closed : joinedFacts Tryz.pinned.checked.prog 4 Tryz.f4 Rows.ftextExamplesSpec Rows.ftextExamplesRow = true := card_and (card_and (card_and (card_and (card_and (card_and (card_and (card_and (card_and (card_and (card_and (card_and (card_and (card_and (card_and (card_and (card_and (card_and (card_and (card_and (card_and (card_and (card_and (card_and (card_and (card_and (card_and (card_and (card_and (card_and (card_and (c_k1) c_k2) c_k3) c_k4) c_k5) c_k6) c_k7) c_k8) c_k9) c_k10) c_k11) c_k12) c_k13) c_k14) c_k15) c_k16) c_k17) c_k18) c_k19) c_k20) c_k21) c_k22) c_k23) c_k24) c_k25) c_k26) c_k27) c_k28) c_k29) c_k30) c_k31) c_k32
theorem c_inst : Tryz.f4.isInstance Tryz.pinned.checked.prog Rows.ftextExamplesRow.origin Rows.ftextExamplesRow.targs := of_decide_eq_true (by kernel_rfl)
theorem c_wrap : Tryz.f4.isWrapper Tryz.pinned.checked.prog Rows.ftextExamplesRow.wrapper Rows.ftextExamplesRow.mainSum := by
  unfold Func.isWrapper; first | (rw [if_pos (by decide +kernel)]; kernel_rfl) | (rw [if_neg (by decide +kernel)]; exact ⟨rfl, rfl⟩)
theorem over : Rows.ftextExamplesRow.holds Tryz.pinned (OpenSpec.ofChange Rows.ftextExamplesSpec) :=
  OpenClaim.holds_of_wide 4 Tryz.f4 rfl rfl rfl rfl rfl rfl rfl ⟨rfl, rfl, rfl, rfl, rfl⟩ rfl rfl rfl rfl rfl c_name Tryz.func4 c_closed c_inst c_wrap
    (fun os started H enc _ => lifted os started H enc)
theorem c_wf : Rows.ftextExamplesRow.wfByText (OpenSpec.ofChange Rows.ftextExamplesSpec) = true := by kernel_rfl
theorem c_goes : false = Rows.ftextExamplesRow.goesBy Tryz.pinned.checked.prog := by kernel_rfl
theorem c_stand : (([] : List TypeId).all fun u => !Tryz.prog.wantsStandIn u) = true := by kernel_rfl
theorem proved : Rows.FtextExamplesCardSaid :=
  Claim7.holds_tied_plain_at .later [] [.data, .pinned] true (true, "30c6a06cc591ecf64db396f563d12e8e74dc28a00db673817544fd851996db2c") false over (fun _ h => by cases h) c_wf (fun _ h => by cases h) ftextExamples_row_tie rfl ⟨rfl, rfl⟩ card_main rfl
    (fun f fn hf hfn => by
      obtain rfl : f = 4 := Option.some.inj (c_name.symm.trans hf) |>.symm
      obtain rfl : fn = Tryz.f4 := (Option.some.inj (Tryz.func4.symm.trans hfn)).symm
      exact ⟨card_looks, fun j t ht => by
        rw [Tryz.params4] at ht; have hm : t ∈ ([] : List TypeId) := by simpa using Array.mem_of_getElem? ht
        exact (show Tryz.prog.wantsStandIn t = false by simpa using List.all_eq_true.1 c_stand t hm)⟩)
    c_goes
#print axioms proved
end Go.Proofs.YtbpkfnoenkoabaaGreatDoor.ftextExamples
