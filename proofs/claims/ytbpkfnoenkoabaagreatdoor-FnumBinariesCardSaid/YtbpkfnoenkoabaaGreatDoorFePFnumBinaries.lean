/- For every input the law FnumBinaries returns true, and its arguments read behind the call as before; the tied card. No condition. -/
import Derived.Test.YtbpkfnoenkoabaaGreatDoorRows
import Derived.Test.YtbpkfnoenkoabaaGreatDoorCards
import Derived.Test.YtbpkfnoenkoabaaGreatDoorTie
import Derived.Test.YtbpkfnoenkoabaaGreatDoorFeLift
import Derived.Test.YtbpkfnoenkoabaaGreatDoorFeCardK
import Derived.Test.YtbpkfnoenkoabaaGreatDoorFeLFnumBinaries
import Derived.Test.YtbpkfnoenkoabaaGreatDoorFeMixAM
import Derived.SevenTiedAt
import Derived.Stop.Joined
import Derived.WalkKit
import Derived.ProofKit
import Derived.OpenShut
import Derived.Below
import Derived.ShutString
import Derived.ChangeOld
import Derived.Carry
namespace Go.Proofs.YtbpkfnoenkoabaaGreatDoor.fnumBinaries
open Go.ChangeShapes Go.WideShapes Go.ChangeAt Go.RowKit Lv
open Go.ChangeMaps (open_string shut_string)
set_option linter.unusedVariables false
theorem own : ownKnob Tryz.prog.godebug = none := by kernel_rfl
noncomputable def listed : List (String × DataW Unit) := [("unicode/utf8.acceptRanges", Rows.laid_unicode_utf8_acceptRanges), ("unicode/utf8.first", Rows.laid_unicode_utf8_first)]
theorem walk (a0 : Int) (a1 : Vl) (a2 : Vl) (w0 : (Lit.int .i64 a0).wf = true) (w1 : Wide a1) (w2 : Wide a2) (w : World) (m : Int) (hm : Mx w m)  :
    Calls Tryz.prog 6 #[.int .i64 a0, aggV a1, aggV a2] w fun e w' => e = .returned (.bool true) ∧ Below w.heap.size w w' :=
  FnumBinaries_walk a0 a1 a2 w0 w1 w2 w m hm
set_option maxRecDepth 100000 in
theorem lifted (os : Os) (started : os.Started) (H : Type) (enc : TypeId × Value → H) :
    ReturnsInHanded {} Tryz.checked os 6 .any (fun w args => (Rows.fnumBinariesSpec.pre enc Tryz.prog Tryz.f6 Rows.fnumBinariesRow.domain false w args ∧ laidMetH Tryz.prog listed w) ∧ sizedMet enc Tryz.prog Tryz.f6 (OpenSpec.ofChange Rows.fnumBinariesSpec) false w args) (Rows.fnumBinariesSpec.post enc Tryz.prog Tryz.f6 false true false false) := by
  refine lift_and (C := Tryz.checked) (X := fun w => laidMetH Tryz.prog listed w) (fun _ _ hh h => h.of_heap hh) own started (by kernel_rfl) Tryz.func6
    (ChangeSpec.witness_shaped (enc := enc) (C := Tryz.checked) (os := os) (X := fun w _ => laidMetH Tryz.prog listed w) false (World.laidAll Tryz.prog os listed) #[.int .i64 0, .agg #[.int .u8 0, .int .i64 0, .string ByteArray.empty], .agg #[.int .u8 0, .int .i64 0, .string ByteArray.empty]] 8 (World.laidAll_os _ _ _)
      (World.shaped_of_ZipB (by kernel_rfl) (by kernel_rfl)) (by kernel_rfl) (by kernel_rfl) (by kernel_rfl)
      (by rw [MakeChecks.laidMetH_plain _ _ _ (by kernel_rfl)]; exact laidMet_laidAll _ (by kernel_rfl) (by kernel_rfl))) ?_
  intro W base args ds gs before hval0 hW hsh hlaid; obtain ⟨m, hm⟩ := Tryz.laysM219.s1_3 W hsh; have hval : ∀ (j : Nat) t v, Tryz.f6.params[j]? = some t → args[j]? = some v → Value.okWide Tryz.prog W .any base t v := hval0; have hW' := hW; obtain ⟨p, q, hA0, hV, rfl, hfz, hnd⟩ := hW; have hA : DataW.TrodAll enc Tryz.prog W 0 (fun _ => true) true Tryz.f6.params.toList args.toList ds p := hA0; rw [Tryz.params6] at hA hval; obtain ⟨v0, vs0, d0, ds0, p0, q0, hargs, rfl, rfl, h0, r0⟩ := trodAll_cons hA; obtain ⟨v1, vs1, d1, ds1, p1, q1, rfl, rfl, rfl, h1, r1⟩ := trodAll_cons r0; obtain ⟨v2, vs2, d2, ds2, p2, q2, rfl, rfl, rfl, h2, r2⟩ := trodAll_cons r1; obtain ⟨rfl, rfl, rfl⟩ := trodAll_nil r2; obtain rfl : args = #[v0, v1, v2] := by cases args; simp_all
  obtain ⟨rfl, rfl⟩ := trodVars_none hV; obtain ⟨a0, rfl, rfl, rfl, w0⟩ := open_int Tryz.underlying2 (hval 0 2 v0 rfl rfl) h0; obtain ⟨k1, n1, l1, rfl, kb1, nb1, lb1, rfl, sh1⟩ := open_val (hval 1 25 v1 rfl rfl) h1; obtain ⟨k2, n2, l2, rfl, kb2, nb2, lb2, rfl, sh2⟩ := open_val (hval 2 25 v2 rfl rfl) h2; clear hA0 hval0
  simp only [List.append_nil] at hW'
  refine (walk a0 ⟨k1, n1, l1⟩ ⟨k2, n2, l2⟩ w0 ⟨kb1, nb1, lb1⟩ ⟨kb2, nb2, lb2⟩ W m hm).mono fun e W' ⟨he, hg⟩ => ?_; subst he; exact ⟨_, rfl, _, _, _, [], _, [], hW', trodAll_mk1 (shut_bool Tryz.underlying4 _), (trodAll_cons_mk (shut_int Tryz.underlying2 w0) (trodAll_cons_mk (sh1 _ _ _ _) (trodAll_cons_mk (sh2 _ _ _ _) trodAll_mk0))), rfl, hg.frame _, fun h => by cases h⟩
theorem c_name : Tryz.prog.funcNamed "louvre/louvrelaw13.FnumBinaries" = some 6 := by kernel_rfl
theorem c_k1 : (Rows.fnumBinariesRow.wf (OpenSpec.ofChange Rows.fnumBinariesSpec)) = true := by kernel_rfl
theorem c_k2 : (laidOutB Tryz.pinned.checked.prog) = true := card_k2
theorem c_k3 : (mapsRowed Tryz.pinned.checked.prog) = true := card_k3
theorem c_k4 : (Tryz.f6.params.all (Tryz.pinned.checked.prog.readableRec ·)) = true := by kernel_rfl
theorem c_k5 : (namedTie Tryz.pinned.checked.prog Rows.fnumBinariesRow.named Rows.fnumBinariesSpec.vars) = true := by kernel_rfl
theorem c_k6 : ((Rows.fnumBinariesRow.stops == [])) = true := by kernel_rfl
theorem c_k7 : ((Tryz.pinned.checked.prog.stops == [])) = true := card_k7
theorem c_k8 : ((Rows.fnumBinariesRow.knobs == [])) = true := by kernel_rfl
theorem c_k9 : ((Tryz.pinned.checked.prog.stopKnobs == [])) = true := card_k9
theorem c_k10 : ((Rows.fnumBinariesRow.inPlace == Tryz.pinned.checked.prog.inPlace 6)) = true := by kernel_rfl
theorem c_k11 : ((Rows.fnumBinariesRow.unfollowed == Tryz.pinned.checked.prog.unfollowed 6)) = true := by kernel_rfl
theorem c_k12 : ((Rows.fnumBinariesRow.recurses == Tryz.pinned.checked.prog.recurses 6)) = true := by kernel_rfl
theorem c_k13 : ((Rows.fnumBinariesRow.named == Tryz.pinned.checked.prog.varsNamed 6)) = true := by kernel_rfl
theorem c_k14 : ((Rows.fnumBinariesRow.maps == (Tryz.f6.params.toList ++ Rows.fnumBinariesSpec.plain.varTypes Tryz.pinned.checked.prog).any (Tryz.pinned.checked.prog.mapsRec ·))) = true := by kernel_rfl
theorem c_k15 : ((Rows.fnumBinariesRow.ifaces == (Tryz.f6.params.toList ++ Rows.fnumBinariesSpec.plain.varTypes Tryz.pinned.checked.prog).any (Tryz.pinned.checked.prog.ifacesRec ·))) = true := by kernel_rfl
theorem c_k16 : ((Rows.fnumBinariesRow.mapsOut == Tryz.pinned.checked.prog.mapsAmong Tryz.f6.resultTypes.toList)) = true := by kernel_rfl
theorem c_k17 : ((Rows.fnumBinariesRow.loops == (Tryz.f6.params.toList ++ Rows.fnumBinariesSpec.plain.varTypes Tryz.pinned.checked.prog).any (Tryz.pinned.checked.prog.loopsFrom ·))) = true := by kernel_rfl
theorem c_k18 : ((Rows.fnumBinariesRow.wideKeys == (Tryz.f6.params.toList ++ Rows.fnumBinariesSpec.plain.varTypes Tryz.pinned.checked.prog ++ Tryz.f6.resultTypes.toList).any (Tryz.pinned.checked.prog.wideKeysFrom ·))) = true := by kernel_rfl
theorem c_k19 : (Rows.fnumBinariesSpec.vars.all (Tryz.pinned.checked.prog.varReadable ·)) = true := by kernel_rfl
theorem c_k20 : (Tryz.f6.resultTypes.all (fun t => Tryz.pinned.checked.prog.readableRec t && decide (t < Tryz.pinned.checked.prog.types.size))) = true := by kernel_rfl
theorem c_k21 : ((Rows.fnumBinariesRow.ifacesOut == Tryz.f6.resultTypes.toList.any (Tryz.pinned.checked.prog.ifacesRec ·))) = true := by kernel_rfl
theorem c_k22 : ((Rows.fnumBinariesRow.loopsOut == Tryz.f6.resultTypes.toList.any (Tryz.pinned.checked.prog.loopsFrom ·))) = true := by kernel_rfl
theorem c_k23 : ((Rows.fnumBinariesRow.plainKeys == Tryz.pinned.checked.prog.plainKeys)) = true := card_k23
theorem c_k24 : (Rows.fnumBinariesRow.shortTexts.isNone) = true := by kernel_rfl
theorem c_k25 : (Tryz.pinned.checked.prog.stopsHeard) = true := card_k25
theorem c_k26 : (Tryz.pinned.checked.prog.mayEnter) = true := card_k26
theorem c_k27 : ((Rows.fnumBinariesRow.lifted == Tryz.pinned.checked.prog.liftsFinal)) = true := card_k27
theorem c_k28 : ((Tryz.pinned.checked.prog.make == some Rows.fnumBinariesRow.make)) = true := card_k28
theorem c_k29 : ((Rows.fnumBinariesRow.kinds == (if Rows.fnumBinariesRow.domain.isEmpty then [] else Tryz.f6.params.toList.map fun t => match Tryz.pinned.checked.prog.underlying t with | some (.int k) => some k | _ => none))) = true := by kernel_rfl
theorem c_k30 : ((Rows.fnumBinariesRow.pinned == Rows.fnumBinariesRow.pinnedBy)) = true := by kernel_rfl
theorem c_k31 : ((Rows.fnumBinariesRow.veiled == (Tryz.f6.params.toList ++ Rows.fnumBinariesSpec.plain.varTypes Tryz.pinned.checked.prog ++ Tryz.f6.resultTypes.toList).any (Tryz.pinned.checked.prog.veiledRec ·))) = true := by kernel_rfl
theorem c_k32 : (Rows.fnumBinariesRow.veiledFits Tryz.pinned.checked.prog Tryz.f6.params.toList (Tryz.f6.params.toList ++ Rows.fnumBinariesSpec.plain.varTypes Tryz.pinned.checked.prog ++ Tryz.f6.resultTypes.toList)) = true := by kernel_rfl
set_option maxRecDepth 100000 in
theorem c_closed : joinedFacts Tryz.pinned.checked.prog 6 Tryz.f6 Rows.fnumBinariesSpec Rows.fnumBinariesRow = true := card_and (card_and (card_and (card_and (card_and (card_and (card_and (card_and (card_and (card_and (card_and (card_and (card_and (card_and (card_and (card_and (card_and (card_and (card_and (card_and (card_and (card_and (card_and (card_and (card_and (card_and (card_and (card_and (card_and (card_and (card_and (c_k1) c_k2) c_k3) c_k4) c_k5) c_k6) c_k7) c_k8) c_k9) c_k10) c_k11) c_k12) c_k13) c_k14) c_k15) c_k16) c_k17) c_k18) c_k19) c_k20) c_k21) c_k22) c_k23) c_k24) c_k25) c_k26) c_k27) c_k28) c_k29) c_k30) c_k31) c_k32
theorem c_inst : Tryz.f6.isInstance Tryz.pinned.checked.prog Rows.fnumBinariesRow.origin Rows.fnumBinariesRow.targs := of_decide_eq_true (by kernel_rfl)
theorem c_wrap : Tryz.f6.isWrapper Tryz.pinned.checked.prog Rows.fnumBinariesRow.wrapper Rows.fnumBinariesRow.mainSum := by
  unfold Func.isWrapper; first | (rw [if_pos (by decide +kernel)]; kernel_rfl) | (rw [if_neg (by decide +kernel)]; exact ⟨rfl, rfl⟩)
theorem over : Rows.fnumBinariesRow.holds Tryz.pinned (OpenSpec.ofChange Rows.fnumBinariesSpec) :=
  OpenClaim.holds_of_wide 6 Tryz.f6 rfl rfl rfl rfl rfl rfl rfl ⟨rfl, rfl, rfl, rfl, rfl⟩ rfl rfl rfl rfl rfl c_name Tryz.func6 c_closed c_inst c_wrap
    (fun os started H enc _ => lifted os started H enc)
theorem c_wf : Rows.fnumBinariesRow.wfByText (OpenSpec.ofChange Rows.fnumBinariesSpec) = true := by kernel_rfl
theorem c_goes : false = Rows.fnumBinariesRow.goesBy Tryz.pinned.checked.prog := by kernel_rfl
theorem c_stand : (([2, 25, 25] : List TypeId).all fun u => !Tryz.prog.wantsStandIn u) = true := by kernel_rfl
theorem proved : Rows.FnumBinariesCardSaid :=
  Claim7.holds_tied_plain_at .later [] [.data, .pinned] true (true, "30c6a06cc591ecf64db396f563d12e8e74dc28a00db673817544fd851996db2c") false over (fun _ h => by cases h) c_wf (fun _ h => by cases h) fnumBinaries_row_tie rfl ⟨rfl, rfl⟩ card_main rfl
    (fun f fn hf hfn => by
      obtain rfl : f = 6 := Option.some.inj (c_name.symm.trans hf) |>.symm
      obtain rfl : fn = Tryz.f6 := (Option.some.inj (Tryz.func6.symm.trans hfn)).symm
      exact ⟨card_looks, fun j t ht => by
        rw [Tryz.params6] at ht; have hm : t ∈ ([2, 25, 25] : List TypeId) := by simpa using Array.mem_of_getElem? ht
        exact (show Tryz.prog.wantsStandIn t = false by simpa using List.all_eq_true.1 c_stand t hm)⟩)
    c_goes
#print axioms proved
end Go.Proofs.YtbpkfnoenkoabaaGreatDoor.fnumBinaries
