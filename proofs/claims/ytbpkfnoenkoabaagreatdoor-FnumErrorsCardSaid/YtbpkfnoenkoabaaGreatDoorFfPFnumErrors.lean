/- For every input the law FnumErrors returns true, and its arguments read behind the call as before; the tied card. No condition. -/
import Derived.Test.YtbpkfnoenkoabaaGreatDoorRows
import Derived.Test.YtbpkfnoenkoabaaGreatDoorCards
import Derived.Test.YtbpkfnoenkoabaaGreatDoorTie
import Derived.Test.YtbpkfnoenkoabaaGreatDoorFfLift
import Derived.Test.YtbpkfnoenkoabaaGreatDoorFfCardK
import Derived.Test.YtbpkfnoenkoabaaGreatDoorFfLFnumErrors
import Derived.Test.YtbpkfnoenkoabaaGreatDoorFfMixAL
import Derived.SevenTiedAt
import Derived.Stop.Joined
import Derived.WalkKit
import Derived.ProofKit
import Derived.OpenShut
import Derived.Below
import Derived.ShutString
import Derived.ChangeOld
import Derived.Carry
namespace Go.Proofs.YtbpkfnoenkoabaaGreatDoor.fnumErrors
open Go.ChangeShapes Go.WideShapes Go.ChangeAt Go.RowKit Lv
open Go.ChangeMaps (open_string shut_string)
set_option linter.unusedVariables false
theorem own : ownKnob Tryz.prog.godebug = none := by kernel_rfl
noncomputable def listed : List (String × DataW Unit) := [("unicode/utf8.acceptRanges", Rows.laid_unicode_utf8_acceptRanges), ("unicode/utf8.first", Rows.laid_unicode_utf8_first)]
theorem walk (a0 : Int) (a1 : Int) (a2 : Vl) (a3 : Vl) (w0 : (Lit.int .u8 a0).wf = true) (w1 : (Lit.int .i64 a1).wf = true) (w2 : Wide a2) (w3 : Wide a3) (w : World) (m : Int) (hm : Mx w m)  :
    Calls Tryz.prog 9 #[.int .u8 a0, .int .i64 a1, aggV a2, aggV a3] w fun e w' => e = .returned (.bool true) ∧ Below w.heap.size w w' :=
  FnumErrors_walk a0 a1 a2 a3 w0 w1 w2 w3 w m hm
set_option maxRecDepth 100000 in
theorem lifted (os : Os) (started : os.Started) (H : Type) (enc : TypeId × Value → H) :
    ReturnsInHanded {} Tryz.checked os 9 .any (fun w args => (Rows.fnumErrorsSpec.pre enc Tryz.prog Tryz.f9 Rows.fnumErrorsRow.domain false w args ∧ laidMetH Tryz.prog listed w) ∧ sizedMet enc Tryz.prog Tryz.f9 (OpenSpec.ofChange Rows.fnumErrorsSpec) false w args) (Rows.fnumErrorsSpec.post enc Tryz.prog Tryz.f9 false true false false) := by
  refine lift_and (C := Tryz.checked) (X := fun w => laidMetH Tryz.prog listed w) (fun _ _ hh h => h.of_heap hh) own started (by kernel_rfl) Tryz.func9
    (ChangeSpec.witness_shaped (enc := enc) (C := Tryz.checked) (os := os) (X := fun w _ => laidMetH Tryz.prog listed w) false (World.laidAll Tryz.prog os listed) #[.int .u8 0, .int .i64 0, .agg #[.int .u8 0, .int .i64 0, .string ByteArray.empty], .agg #[.int .u8 0, .int .i64 0, .string ByteArray.empty]] 8 (World.laidAll_os _ _ _)
      (World.shaped_of_ZipB (by kernel_rfl) (by kernel_rfl)) (by kernel_rfl) (by kernel_rfl) (by kernel_rfl)
      (by rw [MakeChecks.laidMetH_plain _ _ _ (by kernel_rfl)]; exact laidMet_laidAll _ (by kernel_rfl) (by kernel_rfl))) ?_
  intro W base args ds gs before hval0 hW hsh hlaid; obtain ⟨m, hm⟩ := Tryz.laysM219.s1_3 W hsh; have hval : ∀ (j : Nat) t v, Tryz.f9.params[j]? = some t → args[j]? = some v → Value.okWide Tryz.prog W .any base t v := hval0; have hW' := hW; obtain ⟨p, q, hA0, hV, rfl, hfz, hnd⟩ := hW; have hA : DataW.TrodAll enc Tryz.prog W 0 (fun _ => true) true Tryz.f9.params.toList args.toList ds p := hA0; rw [Tryz.params9] at hA hval; obtain ⟨v0, vs0, d0, ds0, p0, q0, hargs, rfl, rfl, h0, r0⟩ := trodAll_cons hA; obtain ⟨v1, vs1, d1, ds1, p1, q1, rfl, rfl, rfl, h1, r1⟩ := trodAll_cons r0; obtain ⟨v2, vs2, d2, ds2, p2, q2, rfl, rfl, rfl, h2, r2⟩ := trodAll_cons r1; obtain ⟨v3, vs3, d3, ds3, p3, q3, rfl, rfl, rfl, h3, r3⟩ := trodAll_cons r2; obtain ⟨rfl, rfl, rfl⟩ := trodAll_nil r3; obtain rfl : args = #[v0, v1, v2, v3] := by cases args; simp_all
  obtain ⟨rfl, rfl⟩ := trodVars_none hV; obtain ⟨a0, rfl, rfl, rfl, w0⟩ := open_int Tryz.underlying5 (hval 0 5 v0 rfl rfl) h0; obtain ⟨a1, rfl, rfl, rfl, w1⟩ := open_int Tryz.underlying2 (hval 1 2 v1 rfl rfl) h1; obtain ⟨k2, n2, l2, rfl, kb2, nb2, lb2, rfl, sh2⟩ := open_val (hval 2 25 v2 rfl rfl) h2; obtain ⟨k3, n3, l3, rfl, kb3, nb3, lb3, rfl, sh3⟩ := open_val (hval 3 25 v3 rfl rfl) h3; clear hA0 hval0
  simp only [List.append_nil] at hW'
  refine (walk a0 a1 ⟨k2, n2, l2⟩ ⟨k3, n3, l3⟩ w0 w1 ⟨kb2, nb2, lb2⟩ ⟨kb3, nb3, lb3⟩ W m hm).mono fun e W' ⟨he, hg⟩ => ?_; subst he; exact ⟨_, rfl, _, _, _, [], _, [], hW', trodAll_mk1 (shut_bool Tryz.underlying4 _), (trodAll_cons_mk (shut_int Tryz.underlying5 w0) (trodAll_cons_mk (shut_int Tryz.underlying2 w1) (trodAll_cons_mk (sh2 _ _ _ _) (trodAll_cons_mk (sh3 _ _ _ _) trodAll_mk0)))), rfl, hg.frame _, fun h => by cases h⟩
theorem c_name : Tryz.prog.funcNamed "louvre/louvrelaw13.FnumErrors" = some 9 := by kernel_rfl
theorem c_k1 : (Rows.fnumErrorsRow.wf (OpenSpec.ofChange Rows.fnumErrorsSpec)) = true := by kernel_rfl
theorem c_k2 : (laidOutB Tryz.pinned.checked.prog) = true := card_k2
theorem c_k3 : (mapsRowed Tryz.pinned.checked.prog) = true := card_k3
theorem c_k4 : (Tryz.f9.params.all (Tryz.pinned.checked.prog.readableRec ·)) = true := by kernel_rfl
theorem c_k5 : (namedTie Tryz.pinned.checked.prog Rows.fnumErrorsRow.named Rows.fnumErrorsSpec.vars) = true := by kernel_rfl
theorem c_k6 : ((Rows.fnumErrorsRow.stops == [])) = true := by kernel_rfl
theorem c_k7 : ((Tryz.pinned.checked.prog.stops == [])) = true := card_k7
theorem c_k8 : ((Rows.fnumErrorsRow.knobs == [])) = true := by kernel_rfl
theorem c_k9 : ((Tryz.pinned.checked.prog.stopKnobs == [])) = true := card_k9
theorem c_k10 : ((Rows.fnumErrorsRow.inPlace == Tryz.pinned.checked.prog.inPlace 9)) = true := by kernel_rfl
theorem c_k11 : ((Rows.fnumErrorsRow.unfollowed == Tryz.pinned.checked.prog.unfollowed 9)) = true := by kernel_rfl
theorem c_k12 : ((Rows.fnumErrorsRow.recurses == Tryz.pinned.checked.prog.recurses 9)) = true := by kernel_rfl
theorem c_k13 : ((Rows.fnumErrorsRow.named == Tryz.pinned.checked.prog.varsNamed 9)) = true := by kernel_rfl
theorem c_k14 : ((Rows.fnumErrorsRow.maps == (Tryz.f9.params.toList ++ Rows.fnumErrorsSpec.plain.varTypes Tryz.pinned.checked.prog).any (Tryz.pinned.checked.prog.mapsRec ·))) = true := by kernel_rfl
theorem c_k15 : ((Rows.fnumErrorsRow.ifaces == (Tryz.f9.params.toList ++ Rows.fnumErrorsSpec.plain.varTypes Tryz.pinned.checked.prog).any (Tryz.pinned.checked.prog.ifacesRec ·))) = true := by kernel_rfl
theorem c_k16 : ((Rows.fnumErrorsRow.mapsOut == Tryz.pinned.checked.prog.mapsAmong Tryz.f9.resultTypes.toList)) = true := by kernel_rfl
theorem c_k17 : ((Rows.fnumErrorsRow.loops == (Tryz.f9.params.toList ++ Rows.fnumErrorsSpec.plain.varTypes Tryz.pinned.checked.prog).any (Tryz.pinned.checked.prog.loopsFrom ·))) = true := by kernel_rfl
theorem c_k18 : ((Rows.fnumErrorsRow.wideKeys == (Tryz.f9.params.toList ++ Rows.fnumErrorsSpec.plain.varTypes Tryz.pinned.checked.prog ++ Tryz.f9.resultTypes.toList).any (Tryz.pinned.checked.prog.wideKeysFrom ·))) = true := by kernel_rfl
theorem c_k19 : (Rows.fnumErrorsSpec.vars.all (Tryz.pinned.checked.prog.varReadable ·)) = true := by kernel_rfl
theorem c_k20 : (Tryz.f9.resultTypes.all (fun t => Tryz.pinned.checked.prog.readableRec t && decide (t < Tryz.pinned.checked.prog.types.size))) = true := by kernel_rfl
theorem c_k21 : ((Rows.fnumErrorsRow.ifacesOut == Tryz.f9.resultTypes.toList.any (Tryz.pinned.checked.prog.ifacesRec ·))) = true := by kernel_rfl
theorem c_k22 : ((Rows.fnumErrorsRow.loopsOut == Tryz.f9.resultTypes.toList.any (Tryz.pinned.checked.prog.loopsFrom ·))) = true := by kernel_rfl
theorem c_k23 : ((Rows.fnumErrorsRow.plainKeys == Tryz.pinned.checked.prog.plainKeys)) = true := card_k23
theorem c_k24 : (Rows.fnumErrorsRow.shortTexts.isNone) = true := by kernel_rfl
theorem c_k25 : (Tryz.pinned.checked.prog.stopsHeard) = true := card_k25
theorem c_k26 : (Tryz.pinned.checked.prog.mayEnter) = true := card_k26
theorem c_k27 : ((Rows.fnumErrorsRow.lifted == Tryz.pinned.checked.prog.liftsFinal)) = true := card_k27
theorem c_k28 : ((Tryz.pinned.checked.prog.make == some Rows.fnumErrorsRow.make)) = true := card_k28
theorem c_k29 : ((Rows.fnumErrorsRow.kinds == (if Rows.fnumErrorsRow.domain.isEmpty then [] else Tryz.f9.params.toList.map fun t => match Tryz.pinned.checked.prog.underlying t with | some (.int k) => some k | _ => none))) = true := by kernel_rfl
theorem c_k30 : ((Rows.fnumErrorsRow.pinned == Rows.fnumErrorsRow.pinnedBy)) = true := by kernel_rfl
theorem c_k31 : ((Rows.fnumErrorsRow.veiled == (Tryz.f9.params.toList ++ Rows.fnumErrorsSpec.plain.varTypes Tryz.pinned.checked.prog ++ Tryz.f9.resultTypes.toList).any (Tryz.pinned.checked.prog.veiledRec ·))) = true := by kernel_rfl
theorem c_k32 : (Rows.fnumErrorsRow.veiledFits Tryz.pinned.checked.prog Tryz.f9.params.toList (Tryz.f9.params.toList ++ Rows.fnumErrorsSpec.plain.varTypes Tryz.pinned.checked.prog ++ Tryz.f9.resultTypes.toList)) = true := by kernel_rfl
set_option maxRecDepth 100000 in
theorem c_closed : joinedFacts Tryz.pinned.checked.prog 9 Tryz.f9 Rows.fnumErrorsSpec Rows.fnumErrorsRow = true := card_and (card_and (card_and (card_and (card_and (card_and (card_and (card_and (card_and (card_and (card_and (card_and (card_and (card_and (card_and (card_and (card_and (card_and (card_and (card_and (card_and (card_and (card_and (card_and (card_and (card_and (card_and (card_and (card_and (card_and (card_and (c_k1) c_k2) c_k3) c_k4) c_k5) c_k6) c_k7) c_k8) c_k9) c_k10) c_k11) c_k12) c_k13) c_k14) c_k15) c_k16) c_k17) c_k18) c_k19) c_k20) c_k21) c_k22) c_k23) c_k24) c_k25) c_k26) c_k27) c_k28) c_k29) c_k30) c_k31) c_k32
theorem c_inst : Tryz.f9.isInstance Tryz.pinned.checked.prog Rows.fnumErrorsRow.origin Rows.fnumErrorsRow.targs := of_decide_eq_true (by kernel_rfl)
theorem c_wrap : Tryz.f9.isWrapper Tryz.pinned.checked.prog Rows.fnumErrorsRow.wrapper Rows.fnumErrorsRow.mainSum := by
  unfold Func.isWrapper; first | (rw [if_pos (by decide +kernel)]; kernel_rfl) | (rw [if_neg (by decide +kernel)]; exact ⟨rfl, rfl⟩)
theorem over : Rows.fnumErrorsRow.holds Tryz.pinned (OpenSpec.ofChange Rows.fnumErrorsSpec) :=
  OpenClaim.holds_of_wide 9 Tryz.f9 rfl rfl rfl rfl rfl rfl rfl ⟨rfl, rfl, rfl, rfl, rfl⟩ rfl rfl rfl rfl rfl c_name Tryz.func9 c_closed c_inst c_wrap
    (fun os started H enc _ => lifted os started H enc)
theorem c_wf : Rows.fnumErrorsRow.wfByText (OpenSpec.ofChange Rows.fnumErrorsSpec) = true := by kernel_rfl
theorem c_goes : false = Rows.fnumErrorsRow.goesBy Tryz.pinned.checked.prog := by kernel_rfl
theorem c_stand : (([5, 2, 25, 25] : List TypeId).all fun u => !Tryz.prog.wantsStandIn u) = true := by kernel_rfl
theorem proved : Rows.FnumErrorsCardSaid :=
  Claim7.holds_tied_plain_at .later [] [.data, .pinned] true (true, "30c6a06cc591ecf64db396f563d12e8e74dc28a00db673817544fd851996db2c") false over (fun _ h => by cases h) c_wf (fun _ h => by cases h) fnumErrors_row_tie rfl ⟨rfl, rfl⟩ card_main rfl
    (fun f fn hf hfn => by
      obtain rfl : f = 9 := Option.some.inj (c_name.symm.trans hf) |>.symm
      obtain rfl : fn = Tryz.f9 := (Option.some.inj (Tryz.func9.symm.trans hfn)).symm
      exact ⟨card_looks, fun j t ht => by
        rw [Tryz.params9] at ht; have hm : t ∈ ([5, 2, 25, 25] : List TypeId) := by simpa using Array.mem_of_getElem? ht
        exact (show Tryz.prog.wantsStandIn t = false by simpa using List.all_eq_true.1 c_stand t hm)⟩)
    c_goes
#print axioms proved
end Go.Proofs.YtbpkfnoenkoabaaGreatDoor.fnumErrors
