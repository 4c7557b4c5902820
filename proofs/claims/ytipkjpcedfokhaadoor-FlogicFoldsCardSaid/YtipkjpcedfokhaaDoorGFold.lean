/- For the law FlogicFolds: rows of bools as values; the folds of them; a call answers by them. -/
import Derived.Test.YtipkjpcedfokhaaDoorGAwake15
import Derived.Test.YtipkjpcedfokhaaDoorMFlogic
import Derived.Test.YtipkjpcedfokhaaDoorSX2
namespace Go.Proofs.YtipkjpcedfokhaaDoor
set_option linter.unusedVariables false
set_option linter.unusedSimpArgs false
open Go.RowKit Lv
def fA (L : List Bool) (k : Nat) : List Vl := (L.take k).map vTruth
def fB (L : List Bool) (k : Nat) : List Vl := (L.take k).map fun b => vTruth (!b)
def fC (L : List Bool) (t k : Nat) : List Vl := ((turned L t).take k).map vTruth
theorem fA_succ {L : List Bool} {k : Nat} (h : k < L.length) : fA L (k + 1) = fA L k ++ [vTruth (L.getD k false)] := by
  unfold fA
  rw [List.take_succ_eq_append_getElem h, List.map_append, show L.getD k false = L[k] by simp [List.getD, h]]; rfl
theorem fB_succ {L : List Bool} {k : Nat} (h : k < L.length) : fB L (k + 1) = fB L k ++ [vTruth (!(L.getD k false))] := by
  unfold fB
  rw [List.take_succ_eq_append_getElem h, List.map_append, show L.getD k false = L[k] by simp [List.getD, h]]; rfl
theorem fC_succ {L : List Bool} {t k : Nat} (ht : t ≤ L.length) (h : k < L.length) : fC L t (k + 1) = fC L t k ++ [vTruth (L.getD ((k + t) % L.length) false)] := by
  unfold fC
  have hk : k < (turned L t).length := by rw [turned_length L t ht]; exact h
  have hm : (k + t) % L.length < L.length := Nat.mod_lt _ (by omega)
  have e : (turned L t)[k] = L.getD ((k + t) % L.length) false := by
    have := turned_get L t k ht h
    rw [List.getElem?_eq_getElem hk, List.getElem?_eq_getElem hm] at this
    rw [Option.some.inj this]; simp [List.getD, hm]
  rw [List.take_succ_eq_append_getElem hk, List.map_append, e]; rfl
theorem fA_length {L : List Bool} {k : Nat} (h : k ≤ L.length) : (fA L k).length = k := by unfold fA; rw [List.length_map, List.length_take]; omega
theorem fB_length {L : List Bool} {k : Nat} (h : k ≤ L.length) : (fB L k).length = k := by unfold fB; rw [List.length_map, List.length_take]; omega
theorem fC_length {L : List Bool} {t k : Nat} (ht : t ≤ L.length) (h : k ≤ L.length) : (fC L t k).length = k := by unfold fC; rw [List.length_map, List.length_take, turned_length L t ht]; omega
theorem fA_all (L : List Bool) : fA L L.length = L.map vTruth := by unfold fA; rw [List.take_length]
theorem fB_all (L : List Bool) : fB L L.length = (L.map (!·)).map vTruth := by unfold fB; rw [List.take_length, List.map_map]; rfl
theorem fC_all (L : List Bool) (t : Nat) (ht : t ≤ L.length) : fC L t L.length = (turned L t).map vTruth := by unfold fC; rw [List.take_of_length_le (by rw [turned_length L t ht]; exact Nat.le_refl _)]
theorem yes_succ {L : List Bool} {k : Nat} (h : k < L.length) : yes (L.take (k + 1)) = yes (L.take k) + (if L.getD k false then 1 else 0) := by
  rw [List.take_succ_eq_append_getElem h, yes_append, show L.getD k false = L[k] by simp [List.getD, h]]
  cases L[k] <;> rfl
/-- AND, OR, XOR of bools -/
def foldB (fn : Nat) (M : List Bool) : Bool := if fn = 21 then decide (yes M = M.length) else if fn = 22 then decide (0 < yes M) else decide (yes M % 2 = 1)
theorem fold_call (fn : Nat) (h : fn = 21 ∨ fn = 22 ∨ fn = 23) (M : List Bool) (h0 : 0 < M.length) (h1 : M.length ≤ 16) : vCall fn (M.map vTruth) = (vTruth (foldB fn M), 0) := by
  match M, h0 with
  | b :: r, _ =>
    simp only [List.length_cons] at h1
    unfold vCall
    rw [if_neg (by omega), if_neg, if_neg]
    · show (vLogic fn (vTruth b) (r.map vTruth), (0 : Int)) = _
      rw [fold_truth fn h b r]; rfl
    · simp only [List.any_eq_true, Bool.not_eq_true', not_exists, not_and]
      intro v hv
      obtain ⟨x, _, rfl⟩ := List.mem_map.1 hv
      rw [(truth_ok x)]; simp
    · have : lo15 fn = 1 := by unfold lo15; rw [if_neg (by omega)]
      have : hi15 fn = 16 := by unfold hi15; rw [if_neg (by omega), if_pos (by omega)]
      rw [List.map_cons, List.length_cons, List.length_map]; omega
theorem not_call (b : Bool) : vCall 24 [vTruth b] = (vTruth (!b), 0) := by cases b <;> rfl
theorem truths_small {M : List Bool} : ∀ v ∈ M.map vTruth, Small v := fun v hv => by
  obtain ⟨b, _, rfl⟩ := List.mem_map.1 hv
  exact small_truth b
theorem of15_fold (fn : Nat) (h : fn = 21 ∨ fn = 22 ∨ fn = 23) (M : List Bool) (h0 : 0 < M.length) (h1 : M.length ≤ 16) (v : Value) {base : Nat} (w : World) (mx : Int) (hm : Mx w mx) (hr : w.ownsRow base 35 3 v (M.map vTruth).length (flatV (M.map vTruth))) :
    Calls Tryd.prog 50 #[.int .u8 fn, v] w fun e w' => e = .returned (aggV (vTruth (foldB fn M))) ∧ Kept w w' := by
  obtain ⟨A, cap, rfl, row, hc, _⟩ := OwnV.row (show OwnV w base v (M.map vTruth) from hr)
  have := of15_any fn A cap (M.map vTruth) w mx hm row truths_small (by rw [List.length_map]; omega) hc
  rwa [fold_call fn h M h0 h1] at this
theorem of15_not (b : Bool) (g : Nat) (w : World) (mx : Int) (hm : Mx w mx) (hr : RowV w (some ⟨g, 0, none⟩) [vTruth b]) :
    Calls Tryd.prog 50 #[.int .u8 24, .slice (some ⟨g, 0, none⟩) 1 1] w fun e w' => e = .returned (aggV (vTruth (!b))) ∧ Kept w w' := by
  have := of15_any 24 (some ⟨g, 0, none⟩) 1 [vTruth b] w mx hm hr (fun v hv => by rw [List.mem_singleton] at hv; rw [hv]; exact small_truth b) (by simp) (by simp)
  rwa [not_call] at this
/-! the laws -/
theorem fold_not_and (L : List Bool) : (!(foldB 21 L)) = foldB 22 (L.map (!·)) := by
  show (!(decide (yes L = L.length))) = decide (0 < yes (L.map (!·)))
  have := yes_le L
  rw [yes_not]
  by_cases h : yes L = L.length
  · rw [decide_eq_true h, decide_eq_false (by omega)]; rfl
  · rw [decide_eq_false h, decide_eq_true (by omega)]; rfl
theorem fold_not_or (L : List Bool) : (!(foldB 22 L)) = foldB 21 (L.map (!·)) := by
  show (!(decide (0 < yes L))) = decide (yes (L.map (!·)) = (L.map (!·)).length)
  have := yes_le L
  rw [yes_not, List.length_map]
  by_cases h : 0 < yes L
  · rw [decide_eq_true h, decide_eq_false (by omega)]; rfl
  · rw [decide_eq_false h, decide_eq_true (by omega)]; rfl
theorem fold_turned (fn : Nat) (L : List Bool) (t : Nat) (h : t ≤ L.length) : foldB fn (turned L t) = foldB fn L := by
  unfold foldB; rw [turned_yes, turned_length L t h]
theorem fold_and (L : List Bool) : foldB 21 L = decide ((yes L : Int) = (L.length : Int)) := by
  show decide (yes L = L.length) = _
  by_cases h : yes L = L.length
  · rw [decide_eq_true h, decide_eq_true (by omega)]
  · rw [decide_eq_false h, decide_eq_false (by omega)]
theorem fold_or (L : List Bool) : foldB 22 L = decide ((0 : Int) < (yes L : Int)) := by
  show decide (0 < yes L) = _
  by_cases h : 0 < yes L
  · rw [decide_eq_true h, decide_eq_true (by omega)]
  · rw [decide_eq_false h, decide_eq_false (by omega)]
theorem fold_xor (L : List Bool) : foldB 23 L = decide (((yes L % 2 : Nat) : Int) = (1 : Int)) := by
  show decide (yes L % 2 = 1) = _
  by_cases h : yes L % 2 = 1
  · rw [decide_eq_true h, decide_eq_true (by omega)]
  · rw [decide_eq_false h, decide_eq_false (by omega)]
theorem turn_range (tu : Int) (n : Nat) (h : 0 < n) (hn : n ≤ 16) : -16 < Int.tmod tu n ∧ Int.tmod tu n < 16 ∧ 0 ≤ Int.tmod (Int.tmod tu n + n) n ∧ Int.tmod (Int.tmod tu n + n) n < n := by
  have h1 := Int.tmod_lt_of_pos tu (show (0 : Int) < n by omega)
  have h2 := Int.lt_tmod_of_pos tu (show (0 : Int) < n by omega)
  have h3 := Int.tmod_lt_of_pos (Int.tmod tu n + n) (show (0 : Int) < n by omega)
  have h4 := Int.tmod_nonneg (n : Int) (show 0 ≤ Int.tmod tu n + n by omega)
  exact ⟨by omega, by omega, h4, h3⟩
end Go.Proofs.YtipkjpcedfokhaaDoor
