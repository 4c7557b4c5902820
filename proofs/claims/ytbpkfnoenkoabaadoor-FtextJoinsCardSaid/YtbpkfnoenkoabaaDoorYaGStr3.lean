/- An array of three strings by value, as an argument. -/
import Derived.Test.YtbpkfnoenkoabaaDoorYaMixAK
namespace Go.Proofs.YtbpkfnoenkoabaaDoor
set_option linter.unusedVariables false
set_option linter.unusedSimpArgs false
open Go.ChangeShapes Go.WideShapes Go.RowKit Go.Joins Go.Deep Lv
set_option maxRecDepth 100000 in
theorem open_str3 {H : Type} {enc : TypeId × Value → H} {W : World} {r : Reach} {b0 b : Nat} {sp : Nat → Bool} {held : Bool} {v : Value} {d : DataW H} {p : List MemPlace} {t : TypeId} (ht : Tryd.prog.underlying t = some (.array 3 9)) (hc : Tryd.prog.cellsOf t = 3)
    (hv : Value.okWide Tryd.prog W r b0 t v) (h : DataW.Trod enc Tryd.prog W b sp held t v d p) :
    ∃ (x y z : ByteArray), v = .agg #[.string x, .string y, .string z] ∧ x.size ≤ maxLen ∧ y.size ≤ maxLen ∧ z.size ≤ maxLen ∧ p = [] := by
  obtain ⟨cs, rfl, hsz⟩ : ∃ cs, v = .agg cs ∧ cs.size = Tryd.prog.cellsOf t := by
    simp only [Value.okWide, ht] at hv
    obtain ⟨cs, h1, h2, _⟩ := hv; exact ⟨cs, h1, h2⟩
  rw [hc] at hsz; obtain ⟨l⟩ := cs; obtain ⟨fuel, hf⟩ := h; obtain ⟨xs, m, _, hx, _, hl, hg⟩ := DataW.trod_array ht hf; rw [show Tryd.prog.cellsOf 9 = 1 by kernel_rfl] at hg
  match xs, hl with
  | [x0, x1, x2], _ =>
    match l, hsz with
    | [c0, c1, c2], _ =>
      have q0 : DataW.trod enc Tryd.prog W b sp held m 9 [c0] = some x0 := hg 0 (by omega); have q1 : DataW.trod enc Tryd.prog W b sp held m 9 [c1] = some x1 := hg 1 (by omega); have q2 : DataW.trod enc Tryd.prog W b sp held m 9 [c2] = some x2 := hg 2 (by omega); obtain ⟨s0, e0, rfl, w0⟩ := DataW.trod_string Tryd.underlying9 q0; obtain ⟨s1, e1, rfl, w1⟩ := DataW.trod_string Tryd.underlying9 q1; obtain ⟨s2, e2, rfl, w2⟩ := DataW.trod_string Tryd.underlying9 q2
      simp at e0 e1 e2
      subst e0 e1 e2
      simp only [Prod.mk.injEq] at hx
      exact ⟨s0, s1, s2, rfl, w0, w1, w2, by rw [hx.2]; simp⟩
end Go.Proofs.YtbpkfnoenkoabaaDoor
