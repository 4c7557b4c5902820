/- For every input the law ValMakes returns true, and its arguments read behind the call as before; the tied card. No condition. -/
import Derived.Test.YtipkjpcedfokhaaDoorRows
import Derived.Test.YtipkjpcedfokhaaDoorCards
import Derived.Test.YtipkjpcedfokhaaDoorTie
import Derived.Test.YtipkjpcedfokhaaDoorLift
import Derived.Test.YtipkjpcedfokhaaDoorCardK
import Derived.Test.YtipkjpcedfokhaaDoorLValMakes
import Derived.Test.YtipkjpcedfokhaaDoorBunC
import Derived.SevenTiedAt
import Derived.Stop.Joined
import Derived.WalkKit
import Derived.ProofKit
import Derived.OpenShut
import Derived.Below
import Derived.ShutString
namespace Go.Proofs.YtipkjpcedfokhaaDoor.valMakes
open Go.ChangeShapes Go.WideShapes Go.ChangeAt Go.RowKit Lv
open Go.ChangeMaps (open_string shut_string)
set_option linter.unusedVariables false

theorem own : ownKnob Tryd.prog.godebug = none := by kernel_rfl

noncomputable def listed : List (String × DataW Unit) := [("unicode/utf8.acceptRanges", Rows.laid_unicode_utf8_acceptRanges), ("louvre/val.words", Rows.laid_louvre_val_words), ("unicode/utf8.first", Rows.laid_unicode_utf8_first)]

theorem walk (a0 : Vl) (a1 : Int) (a2 : ByteArray) (w0 : i64 a0.n ∧ a0.t.length ≤ maxLen) (w1 : (Lit.int .i64 a1).wf = true) (w2 : a2.size ≤ maxLen) (w : World) (m : Int) (hm : Mx w m) (wd : Wd w) :
    Calls Tryd.prog 17 #[aggV a0, .int .i64 a1, .string a2] w fun e w' => e = .returned (.bool true) ∧ Below w.heap.size w w' :=
  ValMakes_walk a0 a1 a2 w0 w1 w2 w m hm wd

set_option maxRecDepth 100000 in
theorem lifted (os : Os) (started : os.Started) (H : Type) (enc : TypeId × Value → H) :
    ReturnsInHanded {} Tryd.checked os 17 .any (fun w args => (Rows.valMakesSpec.pre enc Tryd.prog Tryd.f17 Rows.valMakesRow.domain false w args ∧ laidMetH Tryd.prog listed w) ∧ sizedMet enc Tryd.prog Tryd.f17 (OpenSpec.ofChange Rows.valMakesSpec) false w args) (Rows.valMakesSpec.post enc Tryd.prog Tryd.f17 false true false false) := by
  refine lift_and (C := Tryd.checked) (X := fun w => laidMetH Tryd.prog listed w) (fun _ _ hh h => h.of_heap hh) own started (by kernel_rfl) Tryd.func17
    (ChangeSpec.witness_shaped (enc := enc) (C := Tryd.checked) (os := os) (X := fun w _ => laidMetH Tryd.prog listed w) false (World.laidAll Tryd.prog os listed) #[.agg #[.int .u8 0, .int .i64 0, .string ByteArray.empty], .int .i64 0, .string ByteArray.empty] 8 (World.laidAll_os _ _ _)
      (World.shaped_of_ZipB (by kernel_rfl) (by kernel_rfl)) (by kernel_rfl) (by kernel_rfl) (by kernel_rfl)
      (by rw [MakeChecks.laidMetH_plain _ _ _ (by kernel_rfl)]; exact laidMet_laidAll _ (by kernel_rfl) (by kernel_rfl))) ?_
  intro W base args ds gs before hval0 hW hsh hlaid
  obtain ⟨m, hm⟩ := Tryd.laysM154.s1_3 W hsh
  have wd : Wd W := words_laid hlaid rfl
  have hval : ∀ (j : Nat) t v, Tryd.f17.params[j]? = some t → args[j]? = some v → Value.okWide Tryd.prog W .any base t v := hval0
  have hW' := hW
  obtain ⟨p, q, hA0, hV, rfl, hfz, hnd⟩ := hW
  have hA : DataW.TrodAll enc Tryd.prog W 0 (fun _ => true) true Tryd.f17.params.toList args.toList ds p := hA0
  rw [Tryd.params17] at hA hval
  obtain ⟨v0, vs0, d0, ds0, p0, q0, hargs, rfl, rfl, h0, r0⟩ := trodAll_cons hA
  obtain ⟨v1, vs1, d1, ds1, p1, q1, rfl, rfl, rfl, h1, r1⟩ := trodAll_cons r0
  obtain ⟨v2, vs2, d2, ds2, p2, q2, rfl, rfl, rfl, h2, r2⟩ := trodAll_cons r1
  obtain ⟨rfl, rfl, rfl⟩ := trodAll_nil r2
  obtain rfl : args = #[v0, v1, v2] := by cases args; simp_all
  obtain ⟨rfl, rfl⟩ := trodVars_none hV
  obtain ⟨k0, n0, l0, rfl, kb0, nb0, lb0, rfl, sh0⟩ := open_val (hval 0 35 v0 rfl rfl) h0
  obtain ⟨a1, rfl, rfl, rfl, w1⟩ := open_int Tryd.underlying2 (hval 1 2 v1 rfl rfl) h1
  obtain ⟨a2, rfl, rfl, rfl, w2⟩ := open_string Tryd.underlying9 (hval 2 9 v2 rfl rfl) h2
  clear hA0 hval0
  simp only [List.append_nil] at hW'
  refine (walk ⟨k0, n0, l0⟩ a1 a2 ⟨nb0, lb0⟩ w1 w2 W m hm wd).mono fun e W' ⟨he, hg⟩ => ?_
  subst he
  exact ⟨_, rfl, _, _, _, [], _, [], hW', trodAll_mk1 (shut_bool Tryd.underlying4 _), (trodAll_cons_mk (sh0 _ _ _ _) (trodAll_cons_mk (shut_int Tryd.underlying2 w1) (trodAll_cons_mk (shut_string Tryd.underlying9 w2) trodAll_mk0))), rfl, hg.frame _, fun h => by cases h⟩

theorem c_name : Tryd.prog.funcNamed "louvre/louvrelaw05.ValMakes" = some 17 := by kernel_rfl
theorem c_closed : joinedFacts Tryd.pinned.checked.prog 17 Tryd.f17 Rows.valMakesSpec Rows.valMakesRow = true := by kernel_rfl
theorem c_inst : Tryd.f17.isInstance Tryd.pinned.checked.prog Rows.valMakesRow.origin Rows.valMakesRow.targs := of_decide_eq_true (by kernel_rfl)
theorem c_wrap : Tryd.f17.isWrapper Tryd.pinned.checked.prog Rows.valMakesRow.wrapper Rows.valMakesRow.mainSum := by
  unfold Func.isWrapper; first | (rw [if_pos (by decide +kernel)]; kernel_rfl) | (rw [if_neg (by decide +kernel)]; exact ⟨rfl, rfl⟩)
theorem over : Rows.valMakesRow.holds Tryd.pinned (OpenSpec.ofChange Rows.valMakesSpec) :=
  OpenClaim.holds_of_wide 17 Tryd.f17 rfl rfl rfl rfl rfl rfl rfl ⟨rfl, rfl, rfl, rfl, rfl⟩ rfl rfl rfl rfl rfl c_name Tryd.func17 c_closed c_inst c_wrap
    (fun os started H enc _ => lifted os started H enc)

theorem c_wf : Rows.valMakesRow.wfByText (OpenSpec.ofChange Rows.valMakesSpec) = true := by kernel_rfl
theorem c_goes : false = Rows.valMakesRow.goesBy Tryd.pinned.checked.prog := by kernel_rfl
theorem c_stand : (([35, 2, 9] : List TypeId).all fun u => !Tryd.prog.wantsStandIn u) = true := by kernel_rfl
theorem proved : Rows.ValMakesCardSaid :=
  Claim7.holds_tied_plain_at .later [] [.data, .data, .pinned] true (true, "e926cc5e3d0bcdcabbb3b564ba0e312d31d7650b98360f7228b2154a947ba908") false over (fun _ h => by cases h) c_wf (fun _ h => by cases h) valMakes_row_tie rfl ⟨rfl, rfl⟩ card_main rfl
    (fun f fn hf hfn => by
      obtain rfl : f = 17 := Option.some.inj (c_name.symm.trans hf) |>.symm
      obtain rfl : fn = Tryd.f17 := (Option.some.inj (Tryd.func17.symm.trans hfn)).symm
      exact ⟨card_looks, fun j t ht => by
        rw [Tryd.params17] at ht
        have hm : t ∈ ([35, 2, 9] : List TypeId) := by simpa using Array.mem_of_getElem? ht
        exact (show Tryd.prog.wantsStandIn t = false by simpa using List.all_eq_true.1 c_stand t hm)⟩)
    c_goes
#print axioms proved
end Go.Proofs.YtipkjpcedfokhaaDoor.valMakes
