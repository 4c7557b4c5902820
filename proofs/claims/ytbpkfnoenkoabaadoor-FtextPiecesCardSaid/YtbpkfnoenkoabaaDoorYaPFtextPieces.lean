/- For every input the law FtextPieces returns true, and its arguments read behind the call as before; the tied card. No condition. -/
import Derived.Test.YtbpkfnoenkoabaaDoorRows
import Derived.Test.YtbpkfnoenkoabaaDoorCards
import Derived.Test.YtbpkfnoenkoabaaDoorTie
import Derived.Test.YtbpkfnoenkoabaaDoorYaLift
import Derived.Test.YtbpkfnoenkoabaaDoorYaCardK
import Derived.Test.YtbpkfnoenkoabaaDoorYaLFtextPieces
import Derived.Test.YtbpkfnoenkoabaaDoorYaBunC
import Derived.SevenTiedAt
import Derived.Stop.Joined
import Derived.WalkKit
import Derived.ProofKit
import Derived.OpenShut
import Derived.Below
import Derived.ShutString
import Derived.ChangeOld
import Derived.Carry
namespace Go.Proofs.YtbpkfnoenkoabaaDoor.ftextPieces
open Go.ChangeShapes Go.WideShapes Go.ChangeAt Go.RowKit Lv
open Go.ChangeMaps (open_string shut_string)
set_option linter.unusedVariables false
theorem own : ownKnob Tryd.prog.godebug = none := by kernel_rfl
noncomputable def listed : List (String × DataW Unit) := [("unicode/utf8.acceptRanges", Rows.laid_unicode_utf8_acceptRanges), ("unicode/utf8.first", Rows.laid_unicode_utf8_first)]
theorem walk (a0 : ByteArray) (a1 : Int) (a2 : Int) (w0 : a0.size ≤ maxLen) (w1 : (Lit.int .i64 a1).wf = true) (w2 : (Lit.int .i64 a2).wf = true) (w : World) (m : Int) (hm : Mx w m)  :
    Calls Tryd.prog 3 #[.string a0, .int .i64 a1, .int .i64 a2] w fun e w' => e = .returned (.bool true) ∧ Below w.heap.size w w' :=
  FtextPieces_walk a0 a1 a2 w0 w1 w2 w m hm
set_option maxRecDepth 100000 in
theorem lifted (os : Os) (started : os.Started) (H : Type) (enc : TypeId × Value → H) :
    ReturnsInHanded {} Tryd.checked os 3 .any (fun w args => (Rows.ftextPiecesSpec.pre enc Tryd.prog Tryd.f3 Rows.ftextPiecesRow.domain false w args ∧ laidMetH Tryd.prog listed w) ∧ sizedMet enc Tryd.prog Tryd.f3 (OpenSpec.ofChange Rows.ftextPiecesSpec) false w args) (Rows.ftextPiecesSpec.post enc Tryd.prog Tryd.f3 false true false false) := by
  refine lift_and (C := Tryd.checked) (X := fun w => laidMetH Tryd.prog listed w) (fun _ _ hh h => h.of_heap hh) own started (by kernel_rfl) Tryd.func3
    (ChangeSpec.witness_shaped (enc := enc) (C := Tryd.checked) (os := os) (X := fun w _ => laidMetH Tryd.prog listed w) false (World.laidAll Tryd.prog os listed) #[.string ByteArray.empty, .int .i64 0, .int .i64 0] 8 (World.laidAll_os _ _ _)
      (World.shaped_of_ZipB (by kernel_rfl) (by kernel_rfl)) (by kernel_rfl) (by kernel_rfl) (by kernel_rfl)
      (by rw [MakeChecks.laidMetH_plain _ _ _ (by kernel_rfl)]; exact laidMet_laidAll _ (by kernel_rfl) (by kernel_rfl))) ?_
  intro W base args ds gs before hval0 hW hsh hlaid; obtain ⟨m, hm⟩ := Tryd.laysM219.s1_3 W hsh; have hval : ∀ (j : Nat) t v, Tryd.f3.params[j]? = some t → args[j]? = some v → Value.okWide Tryd.prog W .any base t v := hval0; have hW' := hW; obtain ⟨p, q, hA0, hV, rfl, hfz, hnd⟩ := hW; have hA : DataW.TrodAll enc Tryd.prog W 0 (fun _ => true) true Tryd.f3.params.toList args.toList ds p := hA0; rw [Tryd.params3] at hA hval; obtain ⟨v0, vs0, d0, ds0, p0, q0, hargs, rfl, rfl, h0, r0⟩ := trodAll_cons hA; obtain ⟨v1, vs1, d1, ds1, p1, q1, rfl, rfl, rfl, h1, r1⟩ := trodAll_cons r0; obtain ⟨v2, vs2, d2, ds2, p2, q2, rfl, rfl, rfl, h2, r2⟩ := trodAll_cons r1; obtain ⟨rfl, rfl, rfl⟩ := trodAll_nil r2; obtain rfl : args = #[v0, v1, v2] := by cases args; simp_all
  obtain ⟨rfl, rfl⟩ := trodVars_none hV; obtain ⟨a0, rfl, rfl, rfl, w0⟩ := open_string Tryd.underlying9 (hval 0 9 v0 rfl rfl) h0; obtain ⟨a1, rfl, rfl, rfl, w1⟩ := open_int Tryd.underlying3 (hval 1 3 v1 rfl rfl) h1; obtain ⟨a2, rfl, rfl, rfl, w2⟩ := open_int Tryd.underlying3 (hval 2 3 v2 rfl rfl) h2; clear hA0 hval0
  simp only [List.append_nil] at hW'
  refine (walk a0 a1 a2 w0 w1 w2 W m hm).mono fun e W' ⟨he, hg⟩ => ?_; subst he; exact ⟨_, rfl, _, _, _, [], _, [], hW', trodAll_mk1 (shut_bool Tryd.underlying4 _), (trodAll_cons_mk (shut_string Tryd.underlying9 w0) (trodAll_cons_mk (shut_int Tryd.underlying3 w1) (trodAll_cons_mk (shut_int Tryd.underlying3 w2) trodAll_mk0))), rfl, hg.frame _, fun h => by cases h⟩
theorem c_name : Tryd.prog.funcNamed "louvre/louvrelaw14.FtextPieces" = some 3 := by kernel_rfl
theorem c_k1 : (Rows.ftextPiecesRow.wf (OpenSpec.ofChange Rows.ftextPiecesSpec)) = true := by kernel_rfl
theorem c_k2 : (laidOutB Tryd.pinned.checked.prog) = true := card_k2
theorem c_k3 : (mapsRowed Tryd.pinned.checked.prog) = true := card_k3
theorem c_k4 : (Tryd.f3.params.all (Tryd.pinned.checked.prog.readableRec ·)) = true := by kernel_rfl
theorem c_k5 : (namedTie Tryd.pinned.checked.prog Rows.ftextPiecesRow.named Rows.ftextPiecesSpec.vars) = true := by kernel_rfl
theorem c_k6 : ((Rows.ftextPiecesRow.stops == [])) = true := by kernel_rfl
theorem c_k7 : ((Tryd.pinned.checked.prog.stops == [])) = true := card_k7
theorem c_k8 : ((Rows.ftextPiecesRow.knobs == [])) = true := by kernel_rfl
theorem c_k9 : ((Tryd.pinned.checked.prog.stopKnobs == [])) = true := card_k9
theorem c_k10 : ((Rows.ftextPiecesRow.inPlace == Tryd.pinned.checked.prog.inPlace 3)) = true := by kernel_rfl
theorem c_k11 : ((Rows.ftextPiecesRow.unfollowed == Tryd.pinned.checked.prog.unfollowed 3)) = true := by kernel_rfl
theorem c_k12 : ((Rows.ftextPiecesRow.recurses == Tryd.pinned.checked.prog.recurses 3)) = true := by kernel_rfl
theorem c_k13 : ((Rows.ftextPiecesRow.named == Tryd.pinned.checked.prog.varsNamed 3)) = true := by kernel_rfl
theorem c_k14 : ((Rows.ftextPiecesRow.maps == (Tryd.f3.params.toList ++ Rows.ftextPiecesSpec.plain.varTypes Tryd.pinned.checked.prog).any (Tryd.pinned.checked.prog.mapsRec ·))) = true := by kernel_rfl
theorem c_k15 : ((Rows.ftextPiecesRow.ifaces == (Tryd.f3.params.toList ++ Rows.ftextPiecesSpec.plain.varTypes Tryd.pinned.checked.prog).any (Tryd.pinned.checked.prog.ifacesRec ·))) = true := by kernel_rfl
theorem c_k16 : ((Rows.ftextPiecesRow.mapsOut == Tryd.pinned.checked.prog.mapsAmong Tryd.f3.resultTypes.toList)) = true := by kernel_rfl
theorem c_k17 : ((Rows.ftextPiecesRow.loops == (Tryd.f3.params.toList ++ Rows.ftextPiecesSpec.plain.varTypes Tryd.pinned.checked.prog).any (Tryd.pinned.checked.prog.loopsFrom ·))) = true := by kernel_rfl
theorem c_k18 : ((Rows.ftextPiecesRow.wideKeys == (Tryd.f3.params.toList ++ Rows.ftextPiecesSpec.plain.varTypes Tryd.pinned.checked.prog ++ Tryd.f3.resultTypes.toList).any (Tryd.pinned.checked.prog.wideKeysFrom ·))) = true := by kernel_rfl
theorem c_k19 : (Rows.ftextPiecesSpec.vars.all (Tryd.pinned.checked.prog.varReadable ·)) = true := by kernel_rfl
theorem c_k20 : (Tryd.f3.resultTypes.all (fun t => Tryd.pinned.checked.prog.readableRec t && decide (t < Tryd.pinned.checked.prog.types.size))) = true := by kernel_rfl
theorem c_k21 : ((Rows.ftextPiecesRow.ifacesOut == Tryd.f3.resultTypes.toList.any (Tryd.pinned.checked.prog.ifacesRec ·))) = true := by kernel_rfl
theorem c_k22 : ((Rows.ftextPiecesRow.loopsOut == Tryd.f3.resultTypes.toList.any (Tryd.pinned.checked.prog.loopsFrom ·))) = true := by kernel_rfl
theorem c_k23 : ((Rows.ftextPiecesRow.plainKeys == Tryd.pinned.checked.prog.plainKeys)) = true := card_k23
theorem c_k24 : (Rows.ftextPiecesRow.shortTexts.isNone) = true := by kernel_rfl
theorem c_k25 : (Tryd.pinned.checked.prog.stopsHeard) = true := card_k25
theorem c_k26 : (Tryd.pinned.checked.prog.mayEnter) = true := card_k26
theorem c_k27 : ((Rows.ftextPiecesRow.lifted == Tryd.pinned.checked.prog.liftsFinal)) = true := card_k27
theorem c_k28 : ((Tryd.pinned.checked.prog.make == some Rows.ftextPiecesRow.make)) = true := card_k28
theorem c_k29 : ((Rows.ftextPiecesRow.kinds == (if Rows.ftextPiecesRow.domain.isEmpty then [] else Tryd.f3.params.toList.map fun t => match Tryd.pinned.checked.prog.underlying t with | some (.int k) => some k | _ => none))) = true := by kernel_rfl
theorem c_k30 : ((Rows.ftextPiecesRow.pinned == Rows.ftextPiecesRow.pinnedBy)) = true := by kernel_rfl
theorem c_k31 : ((Rows.ftextPiecesRow.veiled == (Tryd.f3.params.toList ++ Rows.ftextPiecesSpec.plain.varTypes Tryd.pinned.checked.prog ++ Tryd.f3.resultTypes.toList).any (Tryd.pinned.checked.prog.veiledRec ·))) = true := by kernel_rfl
theorem c_k32 : (Rows.ftextPiecesRow.veiledFits Tryd.pinned.checked.prog Tryd.f3.params.toList (Tryd.f3.params.toList ++ Rows.ftextPiecesSpec.plain.varTypes Tryd.pinned.checked.prog ++ Tryd.f3.resultTypes.toList)) = true := by kernel_rfl
set_option maxRecDepth 100000 in
theorem c_closed : joinedFacts Tryd.pinned.checked.prog 3 Tryd.f3 Rows.ftextPiecesSpec Rows.ftextPiecesRow = true := card_and (card_and (card_and (card_and (card_and (card_and (card_and (card_and (card_and (card_and (card_and (card_and (card_and (card_and (card_and (card_and (card_and (card_and (card_and (card_and (card_and (card_and (card_and (card_and (card_and (card_and (card_and (card_and (card_and (card_and (card_and (c_k1) c_k2) c_k3) c_k4) c_k5) c_k6) c_k7) c_k8) c_k9) c_k10) c_k11) c_k12) c_k13) c_k14) c_k15) c_k16) c_k17) c_k18) c_k19) c_k20) c_k21) c_k22) c_k23) c_k24) c_k25) c_k26) c_k27) c_k28) c_k29) c_k30) c_k31) c_k32
theorem c_inst : Tryd.f3.isInstance Tryd.pinned.checked.prog Rows.ftextPiecesRow.origin Rows.ftextPiecesRow.targs := of_decide_eq_true (by kernel_rfl)
theorem c_wrap : Tryd.f3.isWrapper Tryd.pinned.checked.prog Rows.ftextPiecesRow.wrapper Rows.ftextPiecesRow.mainSum := by
  unfold Func.isWrapper; first | (rw [if_pos (by decide +kernel)]; kernel_rfl) | (rw [if_neg (by decide +kernel)]; exact ⟨rfl, rfl⟩)
theorem over : Rows.ftextPiecesRow.holds Tryd.pinned (OpenSpec.ofChange Rows.ftextPiecesSpec) :=
  OpenClaim.holds_of_wide 3 Tryd.f3 rfl rfl rfl rfl rfl rfl rfl ⟨rfl, rfl, rfl, rfl, rfl⟩ rfl rfl rfl rfl rfl c_name Tryd.func3 c_closed c_inst c_wrap
    (fun os started H enc _ => lifted os started H enc)
theorem c_wf : Rows.ftextPiecesRow.wfByText (OpenSpec.ofChange Rows.ftextPiecesSpec) = true := by kernel_rfl
theorem c_goes : false = Rows.ftextPiecesRow.goesBy Tryd.pinned.checked.prog := by kernel_rfl
theorem c_stand : (([9, 3, 3] : List TypeId).all fun u => !Tryd.prog.wantsStandIn u) = true := by kernel_rfl
theorem proved : Rows.FtextPiecesCardSaid :=
  Claim7.holds_tied_plain_at .later [] [.data, .pinned] true (true, "b0da766cad95af2c7676d5f9767815b49833987296a09893aefd2874d4688b2c") false over (fun _ h => by cases h) c_wf (fun _ h => by cases h) ftextPieces_row_tie rfl ⟨rfl, rfl⟩ card_main rfl
    (fun f fn hf hfn => by
      obtain rfl : f = 3 := Option.some.inj (c_name.symm.trans hf) |>.symm
      obtain rfl : fn = Tryd.f3 := (Option.some.inj (Tryd.func3.symm.trans hfn)).symm
      exact ⟨card_looks, fun j t ht => by
        rw [Tryd.params3] at ht; have hm : t ∈ ([9, 3, 3] : List TypeId) := by simpa using Array.mem_of_getElem? ht
        exact (show Tryd.prog.wantsStandIn t = false by simpa using List.all_eq_true.1 c_stand t hm)⟩)
    c_goes
#print axioms proved
end Go.Proofs.YtbpkfnoenkoabaaDoor.ftextPieces
