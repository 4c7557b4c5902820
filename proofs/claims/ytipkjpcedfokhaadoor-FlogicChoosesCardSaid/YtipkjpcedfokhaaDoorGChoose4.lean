/- For the law FlogicChooses: plain facts. -/
import Derived.Test.YtipkjpcedfokhaaDoorGAwake15
import Derived.Test.YtipkjpcedfokhaaDoorGGood
import Derived.Test.YtipkjpcedfokhaaDoorMFlogic
import Derived.Test.YtipkjpcedfokhaaDoorSX2
import Derived.Test.YtipkjpcedfokhaaDoorSX4
namespace Go.Proofs.YtipkjpcedfokhaaDoor
set_option linter.unusedVariables false
set_option linter.unusedSimpArgs false
open Go.RowKit Lv
theorem call_ok {fn : Nat} {a : Vl} {r : List Vl} (h1 : 20 ≤ fn) (h2 : fn ≤ 30) (h3 : lo15 fn ≤ r.length + 1) (h4 : r.length + 1 ≤ hi15 fn) (ok : ∀ v ∈ a :: r, vOk v = true) : vCall fn (a :: r) = (vLogic fn a r, 0) := by
  unfold vCall
  rw [if_neg (by omega), if_neg (by simp only [List.length_cons]; omega), if_neg]
  simp only [List.any_eq_true, Bool.not_eq_true', not_exists, not_and]
  intro v hv
  rw [ok v hv]; simp
theorem of15_ok (fn : Nat) (g : Nat) (a : Vl) (r : List Vl) (w : World) (mx : Int) (hm : Mx w mx) (hr : RowV w (some ⟨g, 0, none⟩) (a :: r)) (hs : ∀ v ∈ a :: r, vOk v = true ∧ Small v) (hl : r.length ≤ 100) (h1 : 20 ≤ fn) (h2 : fn ≤ 30) (h3 : lo15 fn ≤ r.length + 1) (h4 : r.length + 1 ≤ hi15 fn) :
    Calls Tryd.prog 50 #[.int .u8 fn, .slice (some ⟨g, 0, none⟩) (a :: r).length (a :: r).length] w fun e w' => e = .returned (aggV (vLogic fn a r)) ∧ Kept w w' := by
  have h := of15_any fn (some ⟨g, 0, none⟩) (a :: r).length (a :: r) w mx hm hr (fun v hv => (hs v hv).2) (by simp only [List.length_cons]; omega) (Nat.le_refl _)
  rwa [call_ok h1 h2 h3 h4 (fun v hv => (hs v hv).1)] at h
theorem valid_small {v : Vl} (h : vOk v = true) (hn : i64 v.n) : Small v := ⟨hn, by have := ok_short h; omega⟩
theorem good_number {v : Vl} (h : i64 v.n) : i64 (vGood v).n := by
  unfold vGood
  split
  · exact h
  · split
    · exact (small_truth _).1
    · split
      · show i64 0; exact ⟨by omega, by omega⟩
      · split
        · exact (small_fail _).1
        · split
          · show i64 0; exact ⟨by omega, by omega⟩
          · exact (small_make (n := max v.n (-9223372036854775807)) ⟨by have := h.1; omega, by have := h.2; omega⟩).1
theorem fine_good {v : Vl} (h : Wide v) : vOk (vGood v) = true ∧ Small (vGood v) := ⟨good_ok v, valid_small (good_ok v) (good_number h.2.1)⟩
theorem fine_truth (b : Bool) : vOk (vTruth b) = true ∧ Small (vTruth b) := ⟨truth_ok b, small_truth b⟩
/-- the k-th of three -/
def pick3 (x y z : Vl) (k : Nat) : Vl := if k = 0 then x else if k = 1 then y else z
theorem index3 (x y z : Vl) (k : Nat) (h : k < 3) (w : World) : (Instr.index 49 (.agg #[.int .u8 x.k, .int .i64 x.n, .string ⟨x.t.toArray⟩, .int .u8 y.k, .int .i64 y.n, .string ⟨y.t.toArray⟩, .int .u8 z.k, .int .i64 z.n, .string ⟨z.t.toArray⟩]) (.int .i64 k)).run Tryd.prog w = .ok (aggV (pick3 x y z k)) w := by
  rcases (show k = 0 ∨ k = 1 ∨ k = 2 by omega) with rfl | rfl | rfl <;> kernel_rfl
/-- what the loop finds of each of the three -/
structure Fine (c a b y : Vl) : Prop where
  ch : Chosen c a b y
  ok : vOk y = true
  sm : Small y
theorem Fine.pick {c a b x y z : Vl} (hx : Fine c a b x) (hy : Fine c a b y) (hz : Fine c a b z) (k : Nat) : Fine c a b (pick3 x y z k) := by
  unfold pick3; split
  · exact hx
  · split
    · exact hy
    · exact hz
theorem small_logic {fn : Nat} {c : Vl} {r : List Vl} {a b : Vl} (h : Chosen c a b (vLogic fn c r)) (ok : vOk (vLogic fn c r) = true) (fc : Small c) (fa : Small a) (fb : Small b) : Small (vLogic fn c r) := by
  rcases h with h | h | h | h | h
  · refine valid_small ok ?_
    rcases ok_cases ok with e | ⟨n, _, e⟩ | e | e | ⟨t, _, e⟩ | ⟨n, h1, h2, e⟩
    · rw [e] at h; cases h
    · rw [e] at h; cases h
    · rw [e] at h; cases h
    · rw [e] at h; cases h
    · rw [e] at h; cases h
    · rw [e]; exact ⟨by simp only; omega, by simp only; omega⟩
  · rw [h]; exact fa
  · rw [h]; exact fb
  · rw [h]; exact fc
  · rw [h]; exact small_truth false
theorem fine20 {c a b : Vl} (hc : vOk c = true ∧ Small c) (ha : vOk a = true ∧ Small a) (hb : vOk b = true ∧ Small b) : Fine c a b (vLogic 20 c [a, b]) := by
  have ok := logic_ok 20 c [a, b] hc.1 (fun v hv => by simp only [List.mem_cons, List.not_mem_nil, or_false] at hv; rcases hv with rfl | rfl; exact ha.1; exact hb.1)
  exact ⟨chosen_if c a b, ok, small_logic (chosen_if c a b) ok hc.2 ha.2 hb.2⟩
theorem fine30 {c a b : Vl} (hc : vOk c = true ∧ Small c) (ha : vOk a = true ∧ Small a) (hb : vOk b = true ∧ Small b) : Fine c a b (vLogic 30 c [a, b]) := by
  have ok := logic_ok 30 c [a, b] hc.1 (fun v hv => by simp only [List.mem_cons, List.not_mem_nil, or_false] at hv; rcases hv with rfl | rfl; exact ha.1; exact hb.1)
  exact ⟨chosen_choose c a b, ok, small_logic (chosen_choose c a b) ok hc.2 ha.2 hb.2⟩
theorem fine25 {c a b : Vl} (hc : vOk c = true ∧ Small c) (ha : vOk a = true ∧ Small a) : Fine c a b (vLogic 25 c [a]) := by
  rw [logic_iferror]
  cases h : isE c with
  | true => exact ⟨Or.inr (Or.inl rfl), ha.1, ha.2⟩
  | false => exact ⟨Or.inr (Or.inr (Or.inr (Or.inl rfl))), hc.1, hc.2⟩
theorem isE_dec (v : Vl) : decide ((v.k : Int) = (4 : Int)) = isE v := by
  unfold isE
  by_cases h : v.k = 4
  · rw [decide_eq_true h, decide_eq_true (by omega)]
  · rw [decide_eq_false h, decide_eq_false (by omega)]
/-- the test in the loop -/
theorem chosen_no {c a b y : Vl} (h : Chosen c a b y) : ((((decide ((y.k : Int) ≠ (4 : Int)) && (!(sameV y a))) && (!(sameV y b))) && (!(sameV y c))) && (!(sameV y (vTruth false)))) = false := by
  rcases h with h | h | h | h | h
  · have : (y.k : Int) = 4 := by have := isE_iff.1 h; omega
    rw [decide_eq_false (by omega)]; rfl
  · rw [sameV_of h]; simp
  · rw [sameV_of h]; simp
  · rw [sameV_of h]; simp
  · rw [sameV_of h]; simp
theorem if_false {x y : Vl} (hx : isE x = false) (hy : isE y = false) : vLogic 20 (vTruth false) [x, y] = y := by
  rcases if_value (vTruth false) x y rfl hx hy with ⟨h, _, _⟩ | ⟨h, _, _⟩ | ⟨_, h, _⟩
  · rw [bool_truth] at h; cases h
  · rw [bool_truth] at h; cases h
  · exact h
theorem if_true {x y : Vl} (hx : isE x = false) (hy : isE y = false) : vLogic 20 (vTruth true) [x, y] = x := by
  rcases if_value (vTruth true) x y rfl hx hy with ⟨h, _, _⟩ | ⟨_, h, _⟩ | ⟨h, _, _⟩
  · rw [bool_truth] at h; cases h
  · exact h
  · rw [bool_truth] at h; cases h
/-- NOT of the condition: an error, which is the value too; or the choices the other way round -/
theorem not_choose {c a b : Vl} (hc : isE c = false) (ha : isE a = false) (hb : isE b = false) : (isE (vLogic 24 c []) = true ∧ vLogic 20 c [a, b] = vLogic 24 c []) ∨ (isE (vLogic 24 c []) = false ∧ (vOk (vLogic 24 c []) = true ∧ Small (vLogic 24 c [])) ∧ vLogic 20 (vLogic 24 c []) [b, a] = vLogic 20 c [a, b] ∧ (sameV (vLogic 20 c [a, b]) a = false → sameV (vLogic 20 c [a, b]) b = true)) := by
  rcases if_value c a b hc ha hb with ⟨h1, h2, h3⟩ | ⟨h1, h2, h3⟩ | ⟨h1, h2, h3⟩
  · exact Or.inl ⟨by rw [h3]; exact h1, h2.trans h3.symm⟩
  · refine Or.inr ⟨by rw [h3]; rfl, by rw [h3]; exact fine_truth false, by rw [h3, h2]; exact if_false hb ha, fun h => ?_⟩
    rw [h2, sameV_self] at h; cases h
  · refine Or.inr ⟨by rw [h3]; rfl, by rw [h3]; exact fine_truth true, by rw [h3, h2]; exact if_true hb ha, fun _ => by rw [h2]; exact sameV_self b⟩
end Go.Proofs.YtipkjpcedfokhaaDoor
