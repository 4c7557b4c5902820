/- For every input the law AggOrder returns true, and its arguments read behind the call as before; the tied card. No condition. -/
import Derived.Test.YtbkjdcpfkepheaaGreatDoorRows
import Derived.Test.YtbkjdcpfkepheaaGreatDoorCards
import Derived.Test.YtbkjdcpfkepheaaGreatDoorTie
import Derived.Test.YtbkjdcpfkepheaaGreatDoorULift
import Derived.Test.YtbkjdcpfkepheaaGreatDoorUCardK
import Derived.Test.YtbkjdcpfkepheaaGreatDoorULAggOrder
import Derived.Test.YtbkjdcpfkepheaaGreatDoorUMixBF
import Derived.SevenTiedAt
import Derived.Stop.Joined
import Derived.WalkKit
import Derived.ProofKit
import Derived.OpenShut
import Derived.Below
import Derived.ShutString
import Derived.ChangeOld
import Derived.Carry
namespace Go.Proofs.YtbkjdcpfkepheaaGreatDoor.aggOrder
open Go.ChangeShapes Go.WideShapes Go.ChangeAt Go.RowKit Lv
open Go.ChangeMaps (open_string shut_string)
set_option linter.unusedVariables false
theorem own : ownKnob Tryz.prog.godebug = none := by kernel_rfl
noncomputable def listed : List (String × DataW Unit) := [("unicode/utf8.acceptRanges", Rows.laid_unicode_utf8_acceptRanges), ("unicode/utf8.first", Rows.laid_unicode_utf8_first)]
theorem walk (a0 : Option Addr) (len0 cap0 : Nat) (l0 : List Ar) (a1 : Int) (w : World) (w0 : ArgsW w a0 len0 cap0 l0) (w1 : (Lit.int .i64 a1).wf = true) (m : Int) (hm : Mx w m)  :
    Calls Tryz.prog 8 #[.slice a0 len0 cap0, .int .i64 a1] w fun e w' => e = .returned (.bool true) ∧ Below w.heap.size w w' :=
  AggOrder_walk a0 len0 cap0 l0 a1 w w0 w1 m hm
set_option maxRecDepth 100000 in
theorem lifted (os : Os) (started : os.Started) (H : Type) (enc : TypeId × Value → H) :
    ReturnsInHanded {} Tryz.checked os 8 .any (fun w args => (Rows.aggOrderSpec.pre enc Tryz.prog Tryz.f8 Rows.aggOrderRow.domain false w args ∧ laidMetH Tryz.prog listed w) ∧ sizedMet enc Tryz.prog Tryz.f8 (OpenSpec.ofChange Rows.aggOrderSpec) false w args) (Rows.aggOrderSpec.post enc Tryz.prog Tryz.f8 false true false false) := by
  refine lift_sized (C := Tryz.checked) (X := fun w => laidMetH Tryz.prog listed w) (fun _ _ hh h => h.of_heap hh) own started (by kernel_rfl) Tryz.func8
    (ChangeSpec.witness_shaped (enc := enc) (C := Tryz.checked) (os := os) (X := fun w _ => laidMetH Tryz.prog listed w) false (World.laidAll Tryz.prog os listed) #[.slice none 0 0, .int .i64 0] 8 (World.laidAll_os _ _ _)
      (World.shaped_of_ZipB (by kernel_rfl) (by kernel_rfl)) (by kernel_rfl) (by kernel_rfl) (by kernel_rfl)
      (by rw [MakeChecks.laidMetH_plain _ _ _ (by kernel_rfl)]; exact laidMet_laidAll _ (by kernel_rfl) (by kernel_rfl))) ?_
  intro W base args ds gs before hval0 hW hz hsh hlaid; obtain ⟨m, hm⟩ := Tryz.laysM219.s1_3 W hsh; have hval : ∀ (j : Nat) t v, Tryz.f8.params[j]? = some t → args[j]? = some v → Value.okWide Tryz.prog W .any base t v := hval0; have hW' := hW; obtain ⟨p, q, hA0, hV, rfl, hfz, hnd⟩ := hW; have hA : DataW.TrodAll enc Tryz.prog W 0 (fun _ => true) true Tryz.f8.params.toList args.toList ds p := hA0; rw [Tryz.params8] at hA hval hz; obtain ⟨v0, vs0, d0, ds0, p0, q0, hargs, rfl, rfl, h0, r0⟩ := trodAll_cons hA; obtain ⟨v1, vs1, d1, ds1, p1, q1, rfl, rfl, rfl, h1, r1⟩ := trodAll_cons r0; obtain ⟨rfl, rfl, rfl⟩ := trodAll_nil r1; obtain rfl : args = #[v0, v1] := by cases args; simp_all
  obtain ⟨rfl, rfl⟩ := trodVars_none hV; have hz : (DataW.weightsEach Tryz.prog ([22, 3] ++ _) ([d0, d1] ++ [])).all (· ≤ reachBytes) = true := hz
  simp only [List.cons_append, List.nil_append, DataW.weightsEach, List.all_append, Bool.and_eq_true] at hz
  have kk0 := h0; have lt0 : ∀ x ∈ p0, x.block < W.heap.size := by obtain ⟨m, hm⟩ := kk0; exact DataW.trod_lt m _ _ _ hm
  obtain ⟨a0, len0, cap0, l0, rfl, w0⟩ := open_args16 (hval 0 22 v0 rfl rfl) h0 hz.1; obtain ⟨a1, rfl, rfl, rfl, w1⟩ := open_int Tryz.underlying3 (hval 1 3 v1 rfl rfl) h1; clear hA0 hval0
  simp only [List.append_nil] at hW'
  refine (walk a0 len0 cap0 l0 a1 W w0 w1 m hm).mono fun e W' ⟨he, hg⟩ => ?_; subst he; exact ⟨_, rfl, _, _, _, [], _, [], hW', trodAll_mk1 (shut_bool Tryz.underlying4 _), (trodAll_cons_mk (Below.trod laidOut (by kernel_rfl) (of_decide_eq_true (by kernel_rfl)) kk0 hg lt0) (trodAll_cons_mk (shut_int Tryz.underlying3 w1) trodAll_mk0)), rfl, hg.frame _, fun h => by cases h⟩
theorem c_name : Tryz.prog.funcNamed "louvre/louvrelaw16.AggOrder" = some 8 := by kernel_rfl
theorem c_k1 : (Rows.aggOrderRow.wf (OpenSpec.ofChange Rows.aggOrderSpec)) = true := by kernel_rfl
theorem c_k2 : (laidOutB Tryz.pinned.checked.prog) = true := card_k2
theorem c_k3 : (mapsRowed Tryz.pinned.checked.prog) = true := card_k3
theorem c_k4 : (Tryz.f8.params.all (Tryz.pinned.checked.prog.readableRec ·)) = true := by kernel_rfl
theorem c_k5 : (namedTie Tryz.pinned.checked.prog Rows.aggOrderRow.named Rows.aggOrderSpec.vars) = true := by kernel_rfl
theorem c_k6 : ((Rows.aggOrderRow.stops == [])) = true := by kernel_rfl
theorem c_k7 : ((Tryz.pinned.checked.prog.stops == [])) = true := card_k7
theorem c_k8 : ((Rows.aggOrderRow.knobs == [])) = true := by kernel_rfl
theorem c_k9 : ((Tryz.pinned.checked.prog.stopKnobs == [])) = true := card_k9
theorem c_k10 : ((Rows.aggOrderRow.inPlace == Tryz.pinned.checked.prog.inPlace 8)) = true := by kernel_rfl
theorem c_k11 : ((Rows.aggOrderRow.unfollowed == Tryz.pinned.checked.prog.unfollowed 8)) = true := by kernel_rfl
theorem c_k12 : ((Rows.aggOrderRow.recurses == Tryz.pinned.checked.prog.recurses 8)) = true := by kernel_rfl
theorem c_k13 : ((Rows.aggOrderRow.named == Tryz.pinned.checked.prog.varsNamed 8)) = true := by kernel_rfl
theorem c_k14 : ((Rows.aggOrderRow.maps == (Tryz.f8.params.toList ++ Rows.aggOrderSpec.plain.varTypes Tryz.pinned.checked.prog).any (Tryz.pinned.checked.prog.mapsRec ·))) = true := by kernel_rfl
theorem c_k15 : ((Rows.aggOrderRow.ifaces == (Tryz.f8.params.toList ++ Rows.aggOrderSpec.plain.varTypes Tryz.pinned.checked.prog).any (Tryz.pinned.checked.prog.ifacesRec ·))) = true := by kernel_rfl
theorem c_k16 : ((Rows.aggOrderRow.mapsOut == Tryz.pinned.checked.prog.mapsAmong Tryz.f8.resultTypes.toList)) = true := by kernel_rfl
theorem c_k17 : ((Rows.aggOrderRow.loops == (Tryz.f8.params.toList ++ Rows.aggOrderSpec.plain.varTypes Tryz.pinned.checked.prog).any (Tryz.pinned.checked.prog.loopsFrom ·))) = true := by kernel_rfl
theorem c_k18 : ((Rows.aggOrderRow.wideKeys == (Tryz.f8.params.toList ++ Rows.aggOrderSpec.plain.varTypes Tryz.pinned.checked.prog ++ Tryz.f8.resultTypes.toList).any (Tryz.pinned.checked.prog.wideKeysFrom ·))) = true := by kernel_rfl
theorem c_k19 : (Rows.aggOrderSpec.vars.all (Tryz.pinned.checked.prog.varReadable ·)) = true := by kernel_rfl
theorem c_k20 : (Tryz.f8.resultTypes.all (fun t => Tryz.pinned.checked.prog.readableRec t && decide (t < Tryz.pinned.checked.prog.types.size))) = true := by kernel_rfl
theorem c_k21 : ((Rows.aggOrderRow.ifacesOut == Tryz.f8.resultTypes.toList.any (Tryz.pinned.checked.prog.ifacesRec ·))) = true := by kernel_rfl
theorem c_k22 : ((Rows.aggOrderRow.loopsOut == Tryz.f8.resultTypes.toList.any (Tryz.pinned.checked.prog.loopsFrom ·))) = true := by kernel_rfl
theorem c_k23 : ((Rows.aggOrderRow.plainKeys == Tryz.pinned.checked.prog.plainKeys)) = true := card_k23
theorem c_k24 : (Rows.aggOrderRow.shortTexts.isNone) = true := by kernel_rfl
theorem c_k25 : (Tryz.pinned.checked.prog.stopsHeard) = true := card_k25
theorem c_k26 : (Tryz.pinned.checked.prog.mayEnter) = true := card_k26
theorem c_k27 : ((Rows.aggOrderRow.lifted == Tryz.pinned.checked.prog.liftsFinal)) = true := card_k27
theorem c_k28 : ((Tryz.pinned.checked.prog.make == some Rows.aggOrderRow.make)) = true := card_k28
theorem c_k29 : ((Rows.aggOrderRow.kinds == (if Rows.aggOrderRow.domain.isEmpty then [] else Tryz.f8.params.toList.map fun t => match Tryz.pinned.checked.prog.underlying t with | some (.int k) => some k | _ => none))) = true := by kernel_rfl
theorem c_k30 : ((Rows.aggOrderRow.pinned == Rows.aggOrderRow.pinnedBy)) = true := by kernel_rfl
theorem c_k31 : ((Rows.aggOrderRow.veiled == (Tryz.f8.params.toList ++ Rows.aggOrderSpec.plain.varTypes Tryz.pinned.checked.prog ++ Tryz.f8.resultTypes.toList).any (Tryz.pinned.checked.prog.veiledRec ·))) = true := by kernel_rfl
theorem c_k32 : (Rows.aggOrderRow.veiledFits Tryz.pinned.checked.prog Tryz.f8.params.toList (Tryz.f8.params.toList ++ Rows.aggOrderSpec.plain.varTypes Tryz.pinned.checked.prog ++ Tryz.f8.resultTypes.toList)) = true := by kernel_rfl
set_option maxRecDepth 100000 in
theorem c_closed : joinedFacts Tryz.pinned.checked.prog 8 Tryz.f8 Rows.aggOrderSpec Rows.aggOrderRow = true := card_and (card_and (card_and (card_and (card_and (card_and (card_and (card_and (card_and (card_and (card_and (card_and (card_and (card_and (card_and (card_and (card_and (card_and (card_and (card_and (card_and (card_and (card_and (card_and (card_and (card_and (card_and (card_and (card_and (card_and (card_and (c_k1) c_k2) c_k3) c_k4) c_k5) c_k6) c_k7) c_k8) c_k9) c_k10) c_k11) c_k12) c_k13) c_k14) c_k15) c_k16) c_k17) c_k18) c_k19) c_k20) c_k21) c_k22) c_k23) c_k24) c_k25) c_k26) c_k27) c_k28) c_k29) c_k30) c_k31) c_k32
theorem c_inst : Tryz.f8.isInstance Tryz.pinned.checked.prog Rows.aggOrderRow.origin Rows.aggOrderRow.targs := of_decide_eq_true (by kernel_rfl)
theorem c_wrap : Tryz.f8.isWrapper Tryz.pinned.checked.prog Rows.aggOrderRow.wrapper Rows.aggOrderRow.mainSum := by
  unfold Func.isWrapper; first | (rw [if_pos (by decide +kernel)]; kernel_rfl) | (rw [if_neg (by decide +kernel)]; exact ⟨rfl, rfl⟩)
theorem over : Rows.aggOrderRow.holds Tryz.pinned (OpenSpec.ofChange Rows.aggOrderSpec) :=
  OpenClaim.holds_of_wide 8 Tryz.f8 rfl rfl rfl rfl rfl rfl rfl ⟨rfl, rfl, rfl, rfl, rfl⟩ rfl rfl rfl rfl rfl c_name Tryz.func8 c_closed c_inst c_wrap
    (fun os started H enc _ => lifted os started H enc)
theorem c_wf : Rows.aggOrderRow.wfByText (OpenSpec.ofChange Rows.aggOrderSpec) = true := by kernel_rfl
theorem c_goes : false = Rows.aggOrderRow.goesBy Tryz.pinned.checked.prog := by kernel_rfl
theorem c_stand : (([22, 3] : List TypeId).all fun u => !Tryz.prog.wantsStandIn u) = true := by kernel_rfl
theorem proved : Rows.AggOrderCardSaid :=
  Claim7.holds_tied_plain_at .later [] [.data, .pinned] true (true, "52ad84f54f18c672dabbd8f9703a819174e834668a0cbf91661f9eb63f4e0eb5") false over (fun _ h => by cases h) c_wf (fun _ h => by cases h) aggOrder_row_tie rfl ⟨rfl, rfl⟩ card_main rfl
    (fun f fn hf hfn => by
      obtain rfl : f = 8 := Option.some.inj (c_name.symm.trans hf) |>.symm
      obtain rfl : fn = Tryz.f8 := (Option.some.inj (Tryz.func8.symm.trans hfn)).symm
      exact ⟨card_looks, fun j t ht => by
        rw [Tryz.params8] at ht; have hm : t ∈ ([22, 3] : List TypeId) := by simpa using Array.mem_of_getElem? ht
        exact (show Tryz.prog.wantsStandIn t = false by simpa using List.all_eq_true.1 c_stand t hm)⟩)
    c_goes
#print axioms proved
end Go.Proofs.YtbkjdcpfkepheaaGreatDoor.aggOrder
