/- For every input the law FtextJoins returns true, and its arguments read behind the call as before; the tied card. No condition. -/
import Derived.Test.YtbpkfnoenkoabaaDoorRows
import Derived.Test.YtbpkfnoenkoabaaDoorCards
import Derived.Test.YtbpkfnoenkoabaaDoorTie
import Derived.Test.YtbpkfnoenkoabaaDoorYaLift
import Derived.Test.YtbpkfnoenkoabaaDoorYaCardK
import Derived.Test.YtbpkfnoenkoabaaDoorYaLFtextJoins
import Derived.Test.YtbpkfnoenkoabaaDoorYaGStr3
import Derived.SevenTiedAt
import Derived.Stop.Joined
import Derived.WalkKit
import Derived.ProofKit
import Derived.OpenShut
import Derived.Below
import Derived.ShutString
import Derived.ChangeOld
import Derived.Carry
namespace Go.Proofs.YtbpkfnoenkoabaaDoor.ftextJoins
open Go.ChangeShapes Go.WideShapes Go.ChangeAt Go.RowKit Lv
open Go.ChangeMaps (open_string shut_string)
set_option linter.unusedVariables false
theorem own : ownKnob Tryd.prog.godebug = none := by kernel_rfl
noncomputable def listed : List (String × DataW Unit) := [("unicode/utf8.acceptRanges", Rows.laid_unicode_utf8_acceptRanges), ("unicode/utf8.first", Rows.laid_unicode_utf8_first)]
theorem walk (x0 y0 z0 : ByteArray) (a1 : Int) (w0 : x0.size ≤ maxLen ∧ y0.size ≤ maxLen ∧ z0.size ≤ maxLen) (w1 : (Lit.int .i64 a1).wf = true) (w : World) (m : Int) (hm : Mx w m)  :
    Calls Tryd.prog 5 #[.agg #[.string x0, .string y0, .string z0], .int .i64 a1] w fun e w' => e = .returned (.bool true) ∧ Below w.heap.size w w' :=
  FtextJoins_walk x0 y0 z0 a1 w0 w1 w m hm
set_option maxRecDepth 100000 in
theorem lifted (os : Os) (started : os.Started) (H : Type) (enc : TypeId × Value → H) :
    ReturnsInHanded {} Tryd.checked os 5 .any (fun w args => (Rows.ftextJoinsSpec.pre enc Tryd.prog Tryd.f5 Rows.ftextJoinsRow.domain false w args ∧ laidMetH Tryd.prog listed w) ∧ sizedMet enc Tryd.prog Tryd.f5 (OpenSpec.ofChange Rows.ftextJoinsSpec) false w args) (Rows.ftextJoinsSpec.post enc Tryd.prog Tryd.f5 false true false false) := by
  refine lift_and (C := Tryd.checked) (X := fun w => laidMetH Tryd.prog listed w) (fun _ _ hh h => h.of_heap hh) own started (by kernel_rfl) Tryd.func5
    (ChangeSpec.witness_shaped (enc := enc) (C := Tryd.checked) (os := os) (X := fun w _ => laidMetH Tryd.prog listed w) false (World.laidAll Tryd.prog os listed) #[.agg #[.string ByteArray.empty, .string ByteArray.empty, .string ByteArray.empty], .int .i64 0] 8 (World.laidAll_os _ _ _)
      (World.shaped_of_ZipB (by kernel_rfl) (by kernel_rfl)) (by kernel_rfl) (by kernel_rfl) (by kernel_rfl)
      (by rw [MakeChecks.laidMetH_plain _ _ _ (by kernel_rfl)]; exact laidMet_laidAll _ (by kernel_rfl) (by kernel_rfl))) ?_
  intro W base args ds gs before hval0 hW hsh hlaid; obtain ⟨m, hm⟩ := Tryd.laysM219.s1_3 W hsh; have hval : ∀ (j : Nat) t v, Tryd.f5.params[j]? = some t → args[j]? = some v → Value.okWide Tryd.prog W .any base t v := hval0; have hW' := hW; obtain ⟨p, q, hA0, hV, rfl, hfz, hnd⟩ := hW; have hA : DataW.TrodAll enc Tryd.prog W 0 (fun _ => true) true Tryd.f5.params.toList args.toList ds p := hA0; rw [Tryd.params5] at hA hval; obtain ⟨v0, vs0, d0, ds0, p0, q0, hargs, rfl, rfl, h0, r0⟩ := trodAll_cons hA; obtain ⟨v1, vs1, d1, ds1, p1, q1, rfl, rfl, rfl, h1, r1⟩ := trodAll_cons r0; obtain ⟨rfl, rfl, rfl⟩ := trodAll_nil r1; obtain rfl : args = #[v0, v1] := by cases args; simp_all
  obtain ⟨rfl, rfl⟩ := trodVars_none hV; have kk0 := h0; have lt0 : ∀ x ∈ p0, x.block < W.heap.size := by obtain ⟨m, hm⟩ := kk0; exact DataW.trod_lt m _ _ _ hm
  obtain ⟨x0, y0, z0, rfl, wx0, wy0, wz0, _⟩ := open_str3 Tryd.underlying32 (by kernel_rfl) (hval 0 32 v0 rfl rfl) h0; obtain ⟨a1, rfl, rfl, rfl, w1⟩ := open_int Tryd.underlying3 (hval 1 3 v1 rfl rfl) h1; clear hA0 hval0
  simp only [List.append_nil] at hW'
  refine (walk x0 y0 z0 a1 ⟨wx0, wy0, wz0⟩ w1 W m hm).mono fun e W' ⟨he, hg⟩ => ?_; subst he; exact ⟨_, rfl, _, _, _, [], _, [], hW', trodAll_mk1 (shut_bool Tryd.underlying4 _), (trodAll_cons_mk (Below.trod laidOut (by kernel_rfl) (of_decide_eq_true (by kernel_rfl)) kk0 hg lt0) (trodAll_cons_mk (shut_int Tryd.underlying3 w1) trodAll_mk0)), rfl, hg.frame _, fun h => by cases h⟩
theorem c_name : Tryd.prog.funcNamed "louvre/louvrelaw14.FtextJoins" = some 5 := by kernel_rfl
theorem c_k1 : (Rows.ftextJoinsRow.wf (OpenSpec.ofChange Rows.ftextJoinsSpec)) = true := by kernel_rfl
theorem c_k2 : (laidOutB Tryd.pinned.checked.prog) = true := card_k2
theorem c_k3 : (mapsRowed Tryd.pinned.checked.prog) = true := card_k3
theorem c_k4 : (Tryd.f5.params.all (Tryd.pinned.checked.prog.readableRec ·)) = true := by kernel_rfl
theorem c_k5 : (namedTie Tryd.pinned.checked.prog Rows.ftextJoinsRow.named Rows.ftextJoinsSpec.vars) = true := by kernel_rfl
theorem c_k6 : ((Rows.ftextJoinsRow.stops == [])) = true := by kernel_rfl
theorem c_k7 : ((Tryd.pinned.checked.prog.stops == [])) = true := card_k7
theorem c_k8 : ((Rows.ftextJoinsRow.knobs == [])) = true := by kernel_rfl
theorem c_k9 : ((Tryd.pinned.checked.prog.stopKnobs == [])) = true := card_k9
theorem c_k10 : ((Rows.ftextJoinsRow.inPlace == Tryd.pinned.checked.prog.inPlace 5)) = true := by kernel_rfl
theorem c_k11 : ((Rows.ftextJoinsRow.unfollowed == Tryd.pinned.checked.prog.unfollowed 5)) = true := by kernel_rfl
theorem c_k12 : ((Rows.ftextJoinsRow.recurses == Tryd.pinned.checked.prog.recurses 5)) = true := by kernel_rfl
theorem c_k13 : ((Rows.ftextJoinsRow.named == Tryd.pinned.checked.prog.varsNamed 5)) = true := by kernel_rfl
theorem c_k14 : ((Rows.ftextJoinsRow.maps == (Tryd.f5.params.toList ++ Rows.ftextJoinsSpec.plain.varTypes Tryd.pinned.checked.prog).any (Tryd.pinned.checked.prog.mapsRec ·))) = true := by kernel_rfl
theorem c_k15 : ((Rows.ftextJoinsRow.ifaces == (Tryd.f5.params.toList ++ Rows.ftextJoinsSpec.plain.varTypes Tryd.pinned.checked.prog).any (Tryd.pinned.checked.prog.ifacesRec ·))) = true := by kernel_rfl
theorem c_k16 : ((Rows.ftextJoinsRow.mapsOut == Tryd.pinned.checked.prog.mapsAmong Tryd.f5.resultTypes.toList)) = true := by kernel_rfl
theorem c_k17 : ((Rows.ftextJoinsRow.loops == (Tryd.f5.params.toList ++ Rows.ftextJoinsSpec.plain.varTypes Tryd.pinned.checked.prog).any (Tryd.pinned.checked.prog.loopsFrom ·))) = true := by kernel_rfl
theorem c_k18 : ((Rows.ftextJoinsRow.wideKeys == (Tryd.f5.params.toList ++ Rows.ftextJoinsSpec.plain.varTypes Tryd.pinned.checked.prog ++ Tryd.f5.resultTypes.toList).any (Tryd.pinned.checked.prog.wideKeysFrom ·))) = true := by kernel_rfl
theorem c_k19 : (Rows.ftextJoinsSpec.vars.all (Tryd.pinned.checked.prog.varReadable ·)) = true := by kernel_rfl
theorem c_k20 : (Tryd.f5.resultTypes.all (fun t => Tryd.pinned.checked.prog.readableRec t && decide (t < Tryd.pinned.checked.prog.types.size))) = true := by kernel_rfl
theorem c_k21 : ((Rows.ftextJoinsRow.ifacesOut == Tryd.f5.resultTypes.toList.any (Tryd.pinned.checked.prog.ifacesRec ·))) = true := by kernel_rfl
theorem c_k22 : ((Rows.ftextJoinsRow.loopsOut == Tryd.f5.resultTypes.toList.any (Tryd.pinned.checked.prog.loopsFrom ·))) = true := by kernel_rfl
theorem c_k23 : ((Rows.ftextJoinsRow.plainKeys == Tryd.pinned.checked.prog.plainKeys)) = true := card_k23
theorem c_k24 : (Rows.ftextJoinsRow.shortTexts.isNone) = true := by kernel_rfl
theorem c_k25 : (Tryd.pinned.checked.prog.stopsHeard) = true := card_k25
theorem c_k26 : (Tryd.pinned.checked.prog.mayEnter) = true := card_k26
theorem c_k27 : ((Rows.ftextJoinsRow.lifted == Tryd.pinned.checked.prog.liftsFinal)) = true := card_k27
theorem c_k28 : ((Tryd.pinned.checked.prog.make == some Rows.ftextJoinsRow.make)) = true := card_k28
theorem c_k29 : ((Rows.ftextJoinsRow.kinds == (if Rows.ftextJoinsRow.domain.isEmpty then [] else Tryd.f5.params.toList.map fun t => match Tryd.pinned.checked.prog.underlying t with | some (.int k) => some k | _ => none))) = true := by kernel_rfl
theorem c_k30 : ((Rows.ftextJoinsRow.pinned == Rows.ftextJoinsRow.pinnedBy)) = true := by kernel_rfl
theorem c_k31 : ((Rows.ftextJoinsRow.veiled == (Tryd.f5.params.toList ++ Rows.ftextJoinsSpec.plain.varTypes Tryd.pinned.checked.prog ++ Tryd.f5.resultTypes.toList).any (Tryd.pinned.checked.prog.veiledRec ·))) = true := by kernel_rfl
theorem c_k32 : (Rows.ftextJoinsRow.veiledFits Tryd.pinned.checked.prog Tryd.f5.params.toList (Tryd.f5.params.toList ++ Rows.ftextJoinsSpec.plain.varTypes Tryd.pinned.checked.prog ++ Tryd.f5.resultTypes.toList)) = true := by kernel_rfl
set_option maxRecDepth 100000 in
theorem c_closed : joinedFacts Tryd.pinned.checked.prog 5 Tryd.f5 Rows.ftextJoinsSpec Rows.ftextJoinsRow = true := card_and (card_and (card_and (card_and (card_and (card_and (card_and (card_and (card_and (card_and (card_and (card_and (card_and (card_and (card_and (card_and (card_and (card_and (card_and (card_and (card_and (card_and (card_and (card_and (card_and (card_and (card_and (card_and (card_and (card_and (card_and (c_k1) c_k2) c_k3) c_k4) c_k5) c_k6) c_k7) c_k8) c_k9) c_k10) c_k11) c_k12) c_k13) c_k14) c_k15) c_k16) c_k17) c_k18) c_k19) c_k20) c_k21) c_k22) c_k23) c_k24) c_k25) c_k26) c_k27) c_k28) c_k29) c_k30) c_k31) c_k32
theorem c_inst : Tryd.f5.isInstance Tryd.pinned.checked.prog Rows.ftextJoinsRow.origin Rows.ftextJoinsRow.targs := of_decide_eq_true (by kernel_rfl)
theorem c_wrap : Tryd.f5.isWrapper Tryd.pinned.checked.prog Rows.ftextJoinsRow.wrapper Rows.ftextJoinsRow.mainSum := by
  unfold Func.isWrapper; first | (rw [if_pos (by decide +kernel)]; kernel_rfl) | (rw [if_neg (by decide +kernel)]; exact ⟨rfl, rfl⟩)
theorem over : Rows.ftextJoinsRow.holds Tryd.pinned (OpenSpec.ofChange Rows.ftextJoinsSpec) :=
  OpenClaim.holds_of_wide 5 Tryd.f5 rfl rfl rfl rfl rfl rfl rfl ⟨rfl, rfl, rfl, rfl, rfl⟩ rfl rfl rfl rfl rfl c_name Tryd.func5 c_closed c_inst c_wrap
    (fun os started H enc _ => lifted os started H enc)
theorem c_wf : Rows.ftextJoinsRow.wfByText (OpenSpec.ofChange Rows.ftextJoinsSpec) = true := by kernel_rfl
theorem c_goes : false = Rows.ftextJoinsRow.goesBy Tryd.pinned.checked.prog := by kernel_rfl
theorem c_stand : (([32, 3] : List TypeId).all fun u => !Tryd.prog.wantsStandIn u) = true := by kernel_rfl
theorem proved : Rows.FtextJoinsCardSaid :=
  Claim7.holds_tied_plain_at .later [] [.data, .pinned] true (true, "b0da766cad95af2c7676d5f9767815b49833987296a09893aefd2874d4688b2c") false over (fun _ h => by cases h) c_wf (fun _ h => by cases h) ftextJoins_row_tie rfl ⟨rfl, rfl⟩ card_main rfl
    (fun f fn hf hfn => by
      obtain rfl : f = 5 := Option.some.inj (c_name.symm.trans hf) |>.symm
      obtain rfl : fn = Tryd.f5 := (Option.some.inj (Tryd.func5.symm.trans hfn)).symm
      exact ⟨card_looks, fun j t ht => by
        rw [Tryd.params5] at ht; have hm : t ∈ ([32, 3] : List TypeId) := by simpa using Array.mem_of_getElem? ht
        exact (show Tryd.prog.wantsStandIn t = false by simpa using List.all_eq_true.1 c_stand t hm)⟩)
    c_goes
#print axioms proved
end Go.Proofs.YtbpkfnoenkoabaaDoor.ftextJoins
