/- For every input the law AggNumbers returns true, and its arguments bl behind the call as before; the tied card. No condition. -/
import Derived.Test.YtbkjdcpfkepheaaGreatDoorRows
import Derived.Test.YtbkjdcpfkepheaaGreatDoorCards
import Derived.Test.YtbkjdcpfkepheaaGreatDoorTie
import Derived.Test.YtbkjdcpfkepheaaGreatDoorVLift
import Derived.Test.YtbkjdcpfkepheaaGreatDoorVCardK
import Derived.Test.YtbkjdcpfkepheaaGreatDoorVLAggNumbers
import Derived.Test.YtbkjdcpfkepheaaGreatDoorVMixBG
import Derived.SevenTiedAt
import Derived.Stop.Joined
import Derived.WalkKit
import Derived.ProofKit
import Derived.OpenShut
import Derived.Below
import Derived.ShutString
import Derived.ChangeOld
import Derived.Carry
namespace Go.Proofs.YtbkjdcpfkepheaaGreatDoor.aggNumbers
open Go.ChangeShapes Go.WideShapes Go.ChangeAt Go.RowKit Lv
open Go.ChangeMaps (open_string shut_string)
set_option linter.unusedVariables false
theorem own : ownKnob Tryz.prog.godebug = none := by kernel_rfl
noncomputable def listed : List (String × DataW Unit) := [("unicode/utf8.acceptRanges", Rows.laid_unicode_utf8_acceptRanges), ("unicode/utf8.first", Rows.laid_unicode_utf8_first)]
theorem walk (a0 : Option Addr) (len0 cap0 : Nat) (l0 : List Ar) (w : World) (w0 : ArgsW w a0 len0 cap0 l0) (m : Int) (hm : Mx w m)  :
    Calls Tryz.prog 6 #[.slice a0 len0 cap0] w fun e w' => e = .returned (.bool true) ∧ Below w.heap.size w w' :=
  lB a0 len0 cap0 l0 w w0 m hm
set_option maxRecDepth 100000 in
theorem lifted (os : Os) (started : os.Started) (H : Type) (enc : TypeId × Value → H) :
    ReturnsInHanded {} Tryz.checked os 6 .any (fun w args => (Rows.aggNumbersSpec.pre enc Tryz.prog Tryz.f6 Rows.aggNumbersRow.domain false w args ∧ laidMetH Tryz.prog listed w) ∧ sizedMet enc Tryz.prog Tryz.f6 (OpenSpec.ofChange Rows.aggNumbersSpec) false w args) (Rows.aggNumbersSpec.post enc Tryz.prog Tryz.f6 false true false false) := by
  refine tB (C := Tryz.checked) (X := fun w => laidMetH Tryz.prog listed w) (fun _ _ hh h => h.of_heap hh) own started (by kernel_rfl) Tryz.func6
    (ChangeSpec.witness_shaped (enc := enc) (C := Tryz.checked) (os := os) (X := fun w _ => laidMetH Tryz.prog listed w) false (World.laidAll Tryz.prog os listed) #[.slice none 0 0] 8 (World.laidAll_os _ _ _)
      (World.shaped_of_ZipB (by kernel_rfl) (by kernel_rfl)) (by kernel_rfl) (by kernel_rfl) (by kernel_rfl)
      (by rw [MakeChecks.laidMetH_plain _ _ _ (by kernel_rfl)]; exact laidMet_laidAll _ (by kernel_rfl) (by kernel_rfl))) ?_
  intro W base args ds gs before hval0 hW hz hsh hlaid; obtain ⟨m, hm⟩ := Tryz.laysM219.s1_3 W hsh; have hval : ∀ (j : Nat) t v, Tryz.f6.params[j]? = some t → args[j]? = some v → Value.okWide Tryz.prog W .any base t v := hval0; have hW' := hW; obtain ⟨p, q, hA0, hV, rfl, hfz, hnd⟩ := hW; have hA : DataW.TrodAll enc Tryz.prog W 0 (fun _ => true) true Tryz.f6.params.toList args.toList ds p := hA0; rw [Tryz.params6] at hA hval hz; obtain ⟨v0, vs0, d0, ds0, p0, q0, hargs, rfl, rfl, h0, r0⟩ := trodAll_cons hA; obtain ⟨rfl, rfl, rfl⟩ := trodAll_nil r0; obtain rfl : args = #[v0] := by cases args; simp_all
  obtain ⟨rfl, rfl⟩ := trodVars_none hV; have hz : (DataW.weightsEach Tryz.prog ([22] ++ _) ([d0] ++ [])).all (· ≤ reachBytes) = true := hz
  simp only [List.cons_append, List.nil_append, DataW.weightsEach, List.all_append, Bool.and_eq_true] at hz
  have kk0 := h0; have lt0 : ∀ x ∈ p0, x.block < W.heap.size := by obtain ⟨m, hm⟩ := kk0; exact DataW.trod_lt m _ _ _ hm
  obtain ⟨a0, len0, cap0, l0, rfl, w0⟩ := qM (hval 0 22 v0 rfl rfl) h0 hz.1; clear hA0 hval0
  simp only [List.append_nil] at hW'
  refine (walk a0 len0 cap0 l0 W w0 m hm).mono fun e W' ⟨he, hg⟩ => ?_; subst he; exact ⟨_, rfl, _, _, _, [], _, [], hW', trodAll_mk1 (shut_bool Tryz.underlying4 _), (trodAll_cons_mk (Below.trod zY (by kernel_rfl) (of_decide_eq_true (by kernel_rfl)) kk0 hg lt0) trodAll_mk0), rfl, hg.frame _, fun h => by cases h⟩
theorem c_name : Tryz.prog.funcNamed "louvre/louvrelaw16.AggNumbers" = some 6 := by kernel_rfl
theorem c_k1 : (Rows.aggNumbersRow.wf (OpenSpec.ofChange Rows.aggNumbersSpec)) = true := by kernel_rfl
theorem c_k2 : (laidOutB Tryz.pinned.checked.prog) = true := zF
theorem c_k3 : (mapsRowed Tryz.pinned.checked.prog) = true := zG
theorem c_k4 : (Tryz.f6.params.all (Tryz.pinned.checked.prog.readableRec ·)) = true := by kernel_rfl
theorem c_k5 : (namedTie Tryz.pinned.checked.prog Rows.aggNumbersRow.named Rows.aggNumbersSpec.vars) = true := by kernel_rfl
theorem c_k6 : ((Rows.aggNumbersRow.stops == [])) = true := by kernel_rfl
theorem c_k7 : ((Tryz.pinned.checked.prog.stops == [])) = true := zH
theorem c_k8 : ((Rows.aggNumbersRow.knobs == [])) = true := by kernel_rfl
theorem c_k9 : ((Tryz.pinned.checked.prog.stopKnobs == [])) = true := zI
theorem c_k10 : ((Rows.aggNumbersRow.inPlace == Tryz.pinned.checked.prog.inPlace 6)) = true := by kernel_rfl
theorem c_k11 : ((Rows.aggNumbersRow.unfollowed == Tryz.pinned.checked.prog.unfollowed 6)) = true := by kernel_rfl
theorem c_k12 : ((Rows.aggNumbersRow.recurses == Tryz.pinned.checked.prog.recurses 6)) = true := by kernel_rfl
theorem c_k13 : ((Rows.aggNumbersRow.named == Tryz.pinned.checked.prog.varsNamed 6)) = true := by kernel_rfl
theorem c_k14 : ((Rows.aggNumbersRow.maps == (Tryz.f6.params.toList ++ Rows.aggNumbersSpec.plain.varTypes Tryz.pinned.checked.prog).any (Tryz.pinned.checked.prog.mapsRec ·))) = true := by kernel_rfl
theorem c_k15 : ((Rows.aggNumbersRow.ifaces == (Tryz.f6.params.toList ++ Rows.aggNumbersSpec.plain.varTypes Tryz.pinned.checked.prog).any (Tryz.pinned.checked.prog.ifacesRec ·))) = true := by kernel_rfl
theorem c_k16 : ((Rows.aggNumbersRow.mapsOut == Tryz.pinned.checked.prog.mapsAmong Tryz.f6.resultTypes.toList)) = true := by kernel_rfl
theorem c_k17 : ((Rows.aggNumbersRow.loops == (Tryz.f6.params.toList ++ Rows.aggNumbersSpec.plain.varTypes Tryz.pinned.checked.prog).any (Tryz.pinned.checked.prog.loopsFrom ·))) = true := by kernel_rfl
theorem c_k18 : ((Rows.aggNumbersRow.wideKeys == (Tryz.f6.params.toList ++ Rows.aggNumbersSpec.plain.varTypes Tryz.pinned.checked.prog ++ Tryz.f6.resultTypes.toList).any (Tryz.pinned.checked.prog.wideKeysFrom ·))) = true := by kernel_rfl
theorem c_k19 : (Rows.aggNumbersSpec.vars.all (Tryz.pinned.checked.prog.varReadable ·)) = true := by kernel_rfl
theorem c_k20 : (Tryz.f6.resultTypes.all (fun t => Tryz.pinned.checked.prog.readableRec t && decide (t < Tryz.pinned.checked.prog.types.size))) = true := by kernel_rfl
theorem c_k21 : ((Rows.aggNumbersRow.ifacesOut == Tryz.f6.resultTypes.toList.any (Tryz.pinned.checked.prog.ifacesRec ·))) = true := by kernel_rfl
theorem c_k22 : ((Rows.aggNumbersRow.loopsOut == Tryz.f6.resultTypes.toList.any (Tryz.pinned.checked.prog.loopsFrom ·))) = true := by kernel_rfl
theorem c_k23 : ((Rows.aggNumbersRow.plainKeys == Tryz.pinned.checked.prog.plainKeys)) = true := xq
theorem c_k24 : (Rows.aggNumbersRow.shortTexts.isNone) = true := by kernel_rfl
theorem c_k25 : (Tryz.pinned.checked.prog.stopsHeard) = true := xr
theorem c_k26 : (Tryz.pinned.checked.prog.mayEnter) = true := xt
theorem c_k27 : ((Rows.aggNumbersRow.lifted == Tryz.pinned.checked.prog.liftsFinal)) = true := xu
theorem c_k28 : ((Tryz.pinned.checked.prog.make == some Rows.aggNumbersRow.make)) = true := xv
theorem c_k29 : ((Rows.aggNumbersRow.kinds == (if Rows.aggNumbersRow.domain.isEmpty then [] else Tryz.f6.params.toList.map fun t => match Tryz.pinned.checked.prog.underlying t with | some (.int k) => some k | _ => none))) = true := by kernel_rfl
theorem c_k30 : ((Rows.aggNumbersRow.pinned == Rows.aggNumbersRow.pinnedBy)) = true := by kernel_rfl
theorem c_k31 : ((Rows.aggNumbersRow.veiled == (Tryz.f6.params.toList ++ Rows.aggNumbersSpec.plain.varTypes Tryz.pinned.checked.prog ++ Tryz.f6.resultTypes.toList).any (Tryz.pinned.checked.prog.veiledRec ·))) = true := by kernel_rfl
theorem c_k32 : (Rows.aggNumbersRow.veiledFits Tryz.pinned.checked.prog Tryz.f6.params.toList (Tryz.f6.params.toList ++ Rows.aggNumbersSpec.plain.varTypes Tryz.pinned.checked.prog ++ Tryz.f6.resultTypes.toList)) = true := by kernel_rfl
set_option maxRecDepth 100000 in
theorem c_closed : joinedFacts Tryz.pinned.checked.prog 6 Tryz.f6 Rows.aggNumbersSpec Rows.aggNumbersRow = true := aQ (aQ (aQ (aQ (aQ (aQ (aQ (aQ (aQ (aQ (aQ (aQ (aQ (aQ (aQ (aQ (aQ (aQ (aQ (aQ (aQ (aQ (aQ (aQ (aQ (aQ (aQ (aQ (aQ (aQ (aQ (c_k1) c_k2) c_k3) c_k4) c_k5) c_k6) c_k7) c_k8) c_k9) c_k10) c_k11) c_k12) c_k13) c_k14) c_k15) c_k16) c_k17) c_k18) c_k19) c_k20) c_k21) c_k22) c_k23) c_k24) c_k25) c_k26) c_k27) c_k28) c_k29) c_k30) c_k31) c_k32
theorem c_inst : Tryz.f6.isInstance Tryz.pinned.checked.prog Rows.aggNumbersRow.origin Rows.aggNumbersRow.targs := of_decide_eq_true (by kernel_rfl)
theorem c_wrap : Tryz.f6.isWrapper Tryz.pinned.checked.prog Rows.aggNumbersRow.wrapper Rows.aggNumbersRow.mainSum := by
  unfold Func.isWrapper; first | (rw [if_pos (by decide +kernel)]; kernel_rfl) | (rw [if_neg (by decide +kernel)]; exact ⟨rfl, rfl⟩)
theorem over : Rows.aggNumbersRow.holds Tryz.pinned (OpenSpec.ofChange Rows.aggNumbersSpec) :=
  OpenClaim.holds_of_wide 6 Tryz.f6 rfl rfl rfl rfl rfl rfl rfl ⟨rfl, rfl, rfl, rfl, rfl⟩ rfl rfl rfl rfl rfl c_name Tryz.func6 c_closed c_inst c_wrap
    (fun os started H enc _ => lifted os started H enc)
theorem c_wf : Rows.aggNumbersRow.wfByText (OpenSpec.ofChange Rows.aggNumbersSpec) = true := by kernel_rfl
theorem c_goes : false = Rows.aggNumbersRow.goesBy Tryz.pinned.checked.prog := by kernel_rfl
theorem c_stand : (([22] : List TypeId).all fun u => !Tryz.prog.wantsStandIn u) = true := by kernel_rfl
theorem proved : Rows.AggNumbersCardSaid :=
  Claim7.holds_tied_plain_at .later [] [.data, .pinned] true (true, "52ad84f54f18c672dabbd8f9703a819174e834668a0cbf91661f9eb63f4e0eb5") false over (fun _ h => by cases h) c_wf (fun _ h => by cases h) aggNumbers_row_tie rfl ⟨rfl, rfl⟩ tK rfl
    (fun f fn hf hfn => by
      obtain rfl : f = 6 := Option.some.inj (c_name.symm.trans hf) |>.symm
      obtain rfl : fn = Tryz.f6 := (Option.some.inj (Tryz.func6.symm.trans hfn)).symm
      exact ⟨sj, fun j t ht => by
        rw [Tryz.params6] at ht; have hm : t ∈ ([22] : List TypeId) := by simpa using Array.mem_of_getElem? ht
        exact (show Tryz.prog.wantsStandIn t = false by simpa using List.all_eq_true.1 c_stand t hm)⟩)
    c_goes
#print axioms proved
end Go.Proofs.YtbkjdcpfkepheaaGreatDoor.aggNumbers
