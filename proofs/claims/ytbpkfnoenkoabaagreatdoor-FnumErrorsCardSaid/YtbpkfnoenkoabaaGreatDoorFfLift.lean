/- A row that lists variables: what a walk is told of the first world: its shape, and the listed data. -/
import Derived.Test.YtbpkfnoenkoabaaGreatDoorRows
import Derived.HandedShaped
import Derived.ChangeVars
import Derived.LaidMore
import Derived.Lay
namespace Go.Proofs.YtbpkfnoenkoabaaGreatDoor
set_option linter.unusedVariables false
set_option linter.unusedSimpArgs false
open Go
theorem lift_and {H : Type} {enc : TypeId × Value → H} {C : Checked} {os : Os} {f : FuncId} {fn : Func} {s : ChangeSpec} {cs : List PathCond} {apart fresh handsOn again : Bool} {X : World → Prop}
    (hX : ∀ w w' : World, w.heap = w'.heap → X w → X w') (own : ownKnob C.prog.godebug = none) (started : os.Started) (ni : C.prog.inits.idxOf? f = none) (hfn : C.prog.funcs[f]? = some fn)
    (wit : ∃ (w : World) (tape : Tape) (i : Input), w.os = os ∧ (w.forCall tape i).Shaped C.prog ∧ i.vars = [] ∧ Input.okWide C.prog (w.forCall tape i) .any w.heap.size f i ∧
      ((s.pre enc C.prog fn cs apart (w.forCall tape i).memory i.args ∧ X (w.forCall tape i).memory) ∧ sizedMet enc C.prog fn (OpenSpec.ofChange s) apart (w.forCall tape i).memory i.args) ∧ Assume.holds {} C.prog (lone (Frame.enter C.prog f i.args .normal) [] (w.forCall tape i)))
    (walk : ∀ (W : World) (base : Nat) (args : Array Value) (ds gs : List (DataW H)) (before : List MemPlace),
      (∀ (j : Nat) t v, fn.params[j]? = some t → args[j]? = some v → Value.okWide C.prog W .any base t v) →
      DataW.Whole enc C.prog fn.params.toList s.vars apart W args.toList ds gs before → W.ShapedOpen C.prog → X W →
      Calls C.prog f args W fun e W' => ∃ v, e = .returned v ∧ s.post enc C.prog fn apart fresh handsOn again W args v W') :
    ReturnsInHanded {} C os f .any (fun w args => (s.pre enc C.prog fn cs apart w args ∧ X w) ∧ sizedMet enc C.prog fn (OpenSpec.ofChange s) apart w args) (s.post enc C.prog fn apart fresh handsOn again) := by
  refine returnsInHanded_of_calls own started ni wit ?_; intro w tape i _ hsh _ hok hpre _; obtain ⟨_, _, _, g, hg, _, _, _, _, hv⟩ := hok; obtain rfl : g = fn := Option.some.inj (hg.symm.trans hfn); obtain ⟨⟨⟨ds, gs, before, hw, _⟩, hx⟩, _⟩ := hpre; have hw2 := DataW.Whole.of_heap (w' := w.forCall tape i) (by rfl) hw; refine (walk _ w.heap.size i.args ds gs before hv hw2 hsh (hX _ _ (by rfl) hx)).mono fun e W' h => ?_; obtain ⟨v, rfl, hp⟩ := h; exact ChangeSpec.post_blind hp
end Go.Proofs.YtbpkfnoenkoabaaGreatDoor
