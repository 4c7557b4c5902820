/- For every input the law AggCalls returns true, and its arguments bw behind the call as before; the tied card. No condition. -/
import Derived.Test.YtbkjdcpfkepheaaGreatDoorRows
import Derived.Test.YtbkjdcpfkepheaaGreatDoorTie
import Derived.Test.YtbkjdcpfkepheaaGreatDoorCCardK
import Derived.Test.YtbkjdcpfkepheaaGreatDoorCLAggCalls
import Derived.Stop.Joined
import Derived.Below
namespace Go.Proofs.YtbkjdcpfkepheaaGreatDoor.aggCalls
open Go.ChangeShapes Go.WideShapes Go.ChangeAt Go.RowKit Lv
open Go.ChangeMaps (open_string shut_string)
set_option linter.unusedVariables false
theorem own : ownKnob Tryz.prog.godebug = none := by kernel_rfl
noncomputable def listed : List (String × DataW Unit) := [("unicode/utf8.acceptRanges", Rows.laid_unicode_utf8_acceptRanges), ("unicode/utf8.first", Rows.laid_unicode_utf8_first)]
theorem walk (a0 : Int) (a1 : Option Addr) (len1 cap1 : Nat) (l1 : List Ar) (w : World) (w0 : (Lit.int .u8 a0).wf = true) (w1 : ArgsW w a1 len1 cap1 l1) (m : Int) (hm : Mx w m)  :
    Calls Tryz.prog 3 #[.int .u8 a0, .slice a1 len1 cap1] w fun e w' => e = .returned (.bool true) ∧ Below w.heap.size w w' :=
  pD a0 a1 len1 cap1 l1 w w0 w1 m hm
set_option maxRecDepth 100000 in
theorem lifted (os : Os) (started : os.Started) (H : Type) (enc : TypeId × Value → H) :
    ReturnsInHanded {} Tryz.checked os 3 .any (fun w args => (Rows.aggCallsSpec.pre enc Tryz.prog Tryz.f3 Rows.aggCallsRow.domain false w args ∧ laidMetH Tryz.prog listed w) ∧ sizedMet enc Tryz.prog Tryz.f3 (OpenSpec.ofChange Rows.aggCallsSpec) false w args) (Rows.aggCallsSpec.post enc Tryz.prog Tryz.f3 false true false false) := by
  refine wU (C := Tryz.checked) (X := fun w => laidMetH Tryz.prog listed w) (fun _ _ hh h => h.of_heap hh) own started (by kernel_rfl) Tryz.func3
    (ChangeSpec.witness_shaped (enc := enc) (C := Tryz.checked) (os := os) (X := fun w _ => laidMetH Tryz.prog listed w) false (World.laidAll Tryz.prog os listed) #[.int .u8 0, .slice none 0 0] 8 (World.laidAll_os _ _ _)
      (World.shaped_of_ZipB (by kernel_rfl) (by kernel_rfl)) (by kernel_rfl) (by kernel_rfl) (by kernel_rfl)
      (by rw [MakeChecks.laidMetH_plain _ _ _ (by kernel_rfl)]; exact laidMet_laidAll _ (by kernel_rfl) (by kernel_rfl))) ?_
  intro W base args ds gs before hval0 hW hz hsh hlaid; obtain ⟨m, hm⟩ := Tryz.laysM219.s1_3 W hsh; have hval : ∀ (j : Nat) t v, Tryz.f3.params[j]? = some t → args[j]? = some v → Value.okWide Tryz.prog W .any base t v := hval0; have hW' := hW; obtain ⟨p, q, hA0, hV, rfl, hfz, hnd⟩ := hW; have hA : DataW.TrodAll enc Tryz.prog W 0 (fun _ => true) true Tryz.f3.params.toList args.toList ds p := hA0; rw [Tryz.params3] at hA hval hz; obtain ⟨v0, vs0, d0, ds0, p0, q0, hargs, rfl, rfl, h0, r0⟩ := trodAll_cons hA; obtain ⟨v1, vs1, d1, ds1, p1, q1, rfl, rfl, rfl, h1, r1⟩ := trodAll_cons r0; obtain ⟨rfl, rfl, rfl⟩ := trodAll_nil r1; obtain rfl : args = #[v0, v1] := by cases args; simp_all
  obtain ⟨rfl, rfl⟩ := trodVars_none hV; have hz : (DataW.weightsEach Tryz.prog ([5, 22] ++ _) ([d0, d1] ++ [])).all (· ≤ reachBytes) = true := hz
  simp only [List.cons_append, List.nil_append, DataW.weightsEach, List.all_append, Bool.and_eq_true] at hz
  obtain ⟨a0, rfl, rfl, rfl, w0⟩ := open_int Tryz.underlying5 (hval 0 5 v0 rfl rfl) h0; have kk1 := h1; have lt1 : ∀ x ∈ p1, x.block < W.heap.size := by obtain ⟨m, hm⟩ := kk1; exact DataW.trod_lt m _ _ _ hm
  obtain ⟨a1, len1, cap1, l1, rfl, w1⟩ := tu (hval 1 22 v1 rfl rfl) h1 hz.2.1; clear hA0 hval0
  simp only [List.append_nil] at hW'
  refine (walk a0 a1 len1 cap1 l1 W w0 w1 m hm).mono fun e W' ⟨he, hg⟩ => ?_; subst he; exact ⟨_, rfl, _, _, _, [], _, [], hW', trodAll_mk1 (shut_bool Tryz.underlying4 _), (trodAll_cons_mk (shut_int Tryz.underlying5 w0) (trodAll_cons_mk (Below.trod Eh (by kernel_rfl) (of_decide_eq_true (by kernel_rfl)) kk1 hg lt1) trodAll_mk0)), rfl, hg.frame _, fun h => by cases h⟩
theorem c_name : Tryz.prog.funcNamed "louvre/louvrelaw16.AggCalls" = some 3 := by kernel_rfl
theorem c_k1 : (Rows.aggCallsRow.wf (OpenSpec.ofChange Rows.aggCallsSpec)) = true := by kernel_rfl
theorem c_k2 : (laidOutB Tryz.pinned.checked.prog) = true := DX
theorem c_k3 : (mapsRowed Tryz.pinned.checked.prog) = true := DY
theorem c_k4 : (Tryz.f3.params.all (Tryz.pinned.checked.prog.readableRec ·)) = true := by kernel_rfl
theorem c_k5 : (namedTie Tryz.pinned.checked.prog Rows.aggCallsRow.named Rows.aggCallsSpec.vars) = true := by kernel_rfl
theorem c_k6 : ((Rows.aggCallsRow.stops == [])) = true := by kernel_rfl
theorem c_k7 : ((Tryz.pinned.checked.prog.stops == [])) = true := DZ
theorem c_k8 : ((Rows.aggCallsRow.knobs == [])) = true := by kernel_rfl
theorem c_k9 : ((Tryz.pinned.checked.prog.stopKnobs == [])) = true := D0
theorem c_k10 : ((Rows.aggCallsRow.inPlace == Tryz.pinned.checked.prog.inPlace 3)) = true := by kernel_rfl
theorem c_k11 : ((Rows.aggCallsRow.unfollowed == Tryz.pinned.checked.prog.unfollowed 3)) = true := by kernel_rfl
theorem c_k12 : ((Rows.aggCallsRow.recurses == Tryz.pinned.checked.prog.recurses 3)) = true := by kernel_rfl
theorem c_k13 : ((Rows.aggCallsRow.named == Tryz.pinned.checked.prog.varsNamed 3)) = true := by kernel_rfl
theorem c_k14 : ((Rows.aggCallsRow.maps == (Tryz.f3.params.toList ++ Rows.aggCallsSpec.plain.varTypes Tryz.pinned.checked.prog).any (Tryz.pinned.checked.prog.mapsRec ·))) = true := by kernel_rfl
theorem c_k15 : ((Rows.aggCallsRow.ifaces == (Tryz.f3.params.toList ++ Rows.aggCallsSpec.plain.varTypes Tryz.pinned.checked.prog).any (Tryz.pinned.checked.prog.ifacesRec ·))) = true := by kernel_rfl
theorem c_k16 : ((Rows.aggCallsRow.mapsOut == Tryz.pinned.checked.prog.mapsAmong Tryz.f3.resultTypes.toList)) = true := by kernel_rfl
theorem c_k17 : ((Rows.aggCallsRow.loops == (Tryz.f3.params.toList ++ Rows.aggCallsSpec.plain.varTypes Tryz.pinned.checked.prog).any (Tryz.pinned.checked.prog.loopsFrom ·))) = true := by kernel_rfl
theorem c_k18 : ((Rows.aggCallsRow.wideKeys == (Tryz.f3.params.toList ++ Rows.aggCallsSpec.plain.varTypes Tryz.pinned.checked.prog ++ Tryz.f3.resultTypes.toList).any (Tryz.pinned.checked.prog.wideKeysFrom ·))) = true := by kernel_rfl
theorem c_k19 : (Rows.aggCallsSpec.vars.all (Tryz.pinned.checked.prog.varReadable ·)) = true := by kernel_rfl
theorem c_k20 : (Tryz.f3.resultTypes.all (fun t => Tryz.pinned.checked.prog.readableRec t && decide (t < Tryz.pinned.checked.prog.types.size))) = true := by kernel_rfl
theorem c_k21 : ((Rows.aggCallsRow.ifacesOut == Tryz.f3.resultTypes.toList.any (Tryz.pinned.checked.prog.ifacesRec ·))) = true := by kernel_rfl
theorem c_k22 : ((Rows.aggCallsRow.loopsOut == Tryz.f3.resultTypes.toList.any (Tryz.pinned.checked.prog.loopsFrom ·))) = true := by kernel_rfl
theorem c_k23 : ((Rows.aggCallsRow.plainKeys == Tryz.pinned.checked.prog.plainKeys)) = true := Be
theorem c_k24 : (Rows.aggCallsRow.shortTexts.isNone) = true := by kernel_rfl
theorem c_k25 : (Tryz.pinned.checked.prog.stopsHeard) = true := Bf
theorem c_k26 : (Tryz.pinned.checked.prog.mayEnter) = true := Bg
theorem c_k27 : ((Rows.aggCallsRow.lifted == Tryz.pinned.checked.prog.liftsFinal)) = true := Bh
theorem c_k28 : ((Tryz.pinned.checked.prog.make == some Rows.aggCallsRow.make)) = true := Bi
theorem c_k29 : ((Rows.aggCallsRow.kinds == (if Rows.aggCallsRow.domain.isEmpty then [] else Tryz.f3.params.toList.map fun t => match Tryz.pinned.checked.prog.underlying t with | some (.int k) => some k | _ => none))) = true := by kernel_rfl
theorem c_k30 : ((Rows.aggCallsRow.pinned == Rows.aggCallsRow.pinnedBy)) = true := by kernel_rfl
theorem c_k31 : ((Rows.aggCallsRow.veiled == (Tryz.f3.params.toList ++ Rows.aggCallsSpec.plain.varTypes Tryz.pinned.checked.prog ++ Tryz.f3.resultTypes.toList).any (Tryz.pinned.checked.prog.veiledRec ·))) = true := by kernel_rfl
theorem c_k32 : (Rows.aggCallsRow.veiledFits Tryz.pinned.checked.prog Tryz.f3.params.toList (Tryz.f3.params.toList ++ Rows.aggCallsSpec.plain.varTypes Tryz.pinned.checked.prog ++ Tryz.f3.resultTypes.toList)) = true := by kernel_rfl
set_option maxRecDepth 100000 in
theorem c_closed : joinedFacts Tryz.pinned.checked.prog 3 Tryz.f3 Rows.aggCallsSpec Rows.aggCallsRow = true := bl (bl (bl (bl (bl (bl (bl (bl (bl (bl (bl (bl (bl (bl (bl (bl (bl (bl (bl (bl (bl (bl (bl (bl (bl (bl (bl (bl (bl (bl (bl (c_k1) c_k2) c_k3) c_k4) c_k5) c_k6) c_k7) c_k8) c_k9) c_k10) c_k11) c_k12) c_k13) c_k14) c_k15) c_k16) c_k17) c_k18) c_k19) c_k20) c_k21) c_k22) c_k23) c_k24) c_k25) c_k26) c_k27) c_k28) c_k29) c_k30) c_k31) c_k32
theorem c_inst : Tryz.f3.isInstance Tryz.pinned.checked.prog Rows.aggCallsRow.origin Rows.aggCallsRow.targs := of_decide_eq_true (by kernel_rfl)
theorem c_wrap : Tryz.f3.isWrapper Tryz.pinned.checked.prog Rows.aggCallsRow.wrapper Rows.aggCallsRow.mainSum := by
  unfold Func.isWrapper; first | (rw [if_pos (by decide +kernel)]; kernel_rfl) | (rw [if_neg (by decide +kernel)]; exact ⟨rfl, rfl⟩)
theorem over : Rows.aggCallsRow.holds Tryz.pinned (OpenSpec.ofChange Rows.aggCallsSpec) :=
  OpenClaim.holds_of_wide 3 Tryz.f3 rfl rfl rfl rfl rfl rfl rfl ⟨rfl, rfl, rfl, rfl, rfl⟩ rfl rfl rfl rfl rfl c_name Tryz.func3 c_closed c_inst c_wrap
    (fun os started H enc _ => lifted os started H enc)
theorem c_wf : Rows.aggCallsRow.wfByText (OpenSpec.ofChange Rows.aggCallsSpec) = true := by kernel_rfl
theorem c_goes : false = Rows.aggCallsRow.goesBy Tryz.pinned.checked.prog := by kernel_rfl
theorem c_stand : (([5, 22] : List TypeId).all fun u => !Tryz.prog.wantsStandIn u) = true := by kernel_rfl
theorem proved : Rows.AggCallsCardSaid :=
  Claim7.holds_tied_plain_at .later [] [.data, .pinned] true (true, "52ad84f54f18c672dabbd8f9703a819174e834668a0cbf91661f9eb63f4e0eb5") false over (fun _ h => by cases h) c_wf (fun _ h => by cases h) aggCalls_row_tie rfl ⟨rfl, rfl⟩ xj rfl
    (fun f fn hf hfn => by
      obtain rfl : f = 3 := Option.some.inj (c_name.symm.trans hf) |>.symm
      obtain rfl : fn = Tryz.f3 := (Option.some.inj (Tryz.func3.symm.trans hfn)).symm
      exact ⟨vr, fun j t ht => by
        rw [Tryz.params3] at ht; have hm : t ∈ ([5, 22] : List TypeId) := by simpa using Array.mem_of_getElem? ht
        exact (show Tryz.prog.wantsStandIn t = false by simpa using List.all_eq_true.1 c_stand t hm)⟩)
    c_goes
#print axioms proved
end Go.Proofs.YtbkjdcpfkepheaaGreatDoor.aggCalls
