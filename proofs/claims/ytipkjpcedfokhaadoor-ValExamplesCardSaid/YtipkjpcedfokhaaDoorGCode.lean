/- Layer 5: Code of the program and of the reference. -/
import Derived.Test.YtipkjpcedfokhaaDoorBunC
namespace Go.Proofs.YtipkjpcedfokhaaDoor
set_option linter.unusedVariables false
set_option linter.unusedSimpArgs false
open Go.RowKit Lv

/-- the first k names are not s -/
def NotYet (u : List UInt8) (k : Nat) : Prop := ∀ j : Nat, 1 ≤ j → j < k → u ≠ name j
theorem NotYet.succ {u : List UInt8} {k : Nat} (h : NotYet u k) (g : k = 0 ∨ u ≠ name k) : NotYet u (k + 1) := by
  intro j h1 h2
  by_cases e : j = k
  · subst e
    rcases g with g | g
    · omega
    · exact g
  · exact h j h1 (by omega)
theorem code_at {s : List UInt8} {k : Nat} (h : NotYet (upper s) k) (h1 : 1 ≤ k) (h7 : k ≤ 7) (e : upper s = name k) : vCode s = ((k : Int), 0) := by
  have e1 : 1 < k → upper s ≠ name 1 := h 1 (by omega)
  have e2 : 2 < k → upper s ≠ name 2 := h 2 (by omega)
  have e3 : 3 < k → upper s ≠ name 3 := h 3 (by omega)
  have e4 : 4 < k → upper s ≠ name 4 := h 4 (by omega)
  have e5 : 5 < k → upper s ≠ name 5 := h 5 (by omega)
  have e6 : 6 < k → upper s ≠ name 6 := h 6 (by omega)
  have : k = 1 ∨ k = 2 ∨ k = 3 ∨ k = 4 ∨ k = 5 ∨ k = 6 ∨ k = 7 := by omega
  unfold vCode
  rcases this with rfl | rfl | rfl | rfl | rfl | rfl | rfl
  · exact if_pos e
  · rw [if_neg (e1 (by omega))]; rw [if_pos (by exact e)]; rfl
  · rw [if_neg (e1 (by omega)), if_neg (e2 (by omega))]; rw [if_pos (by exact e)]; rfl
  · rw [if_neg (e1 (by omega)), if_neg (e2 (by omega)), if_neg (e3 (by omega))]; rw [if_pos (by exact e)]; rfl
  · rw [if_neg (e1 (by omega)), if_neg (e2 (by omega)), if_neg (e3 (by omega)), if_neg (e4 (by omega))]; rw [if_pos (by exact e)]; rfl
  · rw [if_neg (e1 (by omega)), if_neg (e2 (by omega)), if_neg (e3 (by omega)), if_neg (e4 (by omega)), if_neg (e5 (by omega))]; rw [if_pos (by exact e)]; rfl
  · rw [if_neg (e1 (by omega)), if_neg (e2 (by omega)), if_neg (e3 (by omega)), if_neg (e4 (by omega)), if_neg (e5 (by omega)), if_neg (e6 (by omega))]; rw [if_pos (by exact e)]; rfl
theorem code_none {s : List UInt8} (h : NotYet (upper s) 8) : vCode s = (0, 4) := by
  unfold vCode
  have e1 : upper s ≠ name 1 := h 1 (by omega) (by omega)
  have e2 : upper s ≠ name 2 := h 2 (by omega) (by omega)
  have e3 : upper s ≠ name 3 := h 3 (by omega) (by omega)
  have e4 : upper s ≠ name 4 := h 4 (by omega) (by omega)
  have e5 : upper s ≠ name 5 := h 5 (by omega) (by omega)
  have e6 : upper s ≠ name 6 := h 6 (by omega) (by omega)
  have e7 : upper s ≠ name 7 := h 7 (by omega) (by omega)
  rw [if_neg e1, if_neg e2, if_neg e3, if_neg e4, if_neg e5, if_neg e6, if_neg e7]
theorem words_index (k : Nat) (hk : k < 8) (w : World) : (Instr.index 92 (.agg #[.string ⟨(name 0).toArray⟩, .string ⟨(name 1).toArray⟩, .string ⟨(name 2).toArray⟩, .string ⟨(name 3).toArray⟩, .string ⟨(name 4).toArray⟩, .string ⟨(name 5).toArray⟩, .string ⟨(name 6).toArray⟩, .string ⟨(name 7).toArray⟩]) (.int .i64 k)).run Tryd.prog w = .ok (.string ⟨(name k).toArray⟩) w := by
  match k, hk with
  | 0, _ => show _ = _; kernel_rfl
  | 1, _ => show _ = _; kernel_rfl
  | 2, _ => show _ = _; kernel_rfl
  | 3, _ => show _ = _; kernel_rfl
  | 4, _ => show _ = _; kernel_rfl
  | 5, _ => show _ = _; kernel_rfl
  | 6, _ => show _ = _; kernel_rfl
  | 7, _ => show _ = _; kernel_rfl
theorem ret_two {a b c d : Int} (h : (a, b) = (c, d)) : Ending.returned (.tuple #[.int .i64 a, .int .i64 b]) = .returned (.tuple #[.int .i64 c, .int .i64 d]) := by cases h; rfl

set_option maxHeartbeats 2000000 in
set_option maxRecDepth 100000 in
theorem vcode_any (s : List UInt8) (w : World) (wd : Wd w) (hs : s.length ≤ 1000000) : Calls Tryd.prog 54 #[.string ⟨s.toArray⟩] w fun e w' => e = .returned (.tuple #[.int .i64 (vCode s).1, .int .i64 (vCode s).2]) ∧ Kept w w' := by
  have U := Lib.hid (fun w => upper_any s w hs)
  have CA : Hid (∀ k : Nat, NotYet (upper s) k → 1 ≤ k → k ≤ 7 → upper s = name k → vCode s = ((k : Int), 0)) := fun k => code_at
  have CN : Hid (NotYet (upper s) 8 → vCode s = (0, 4)) := code_none
  have WD := Lib.hid wd
  have IX := Lib.hid words_index
  have NS : Hid (∀ k : Nat, NotYet (upper s) k → k = 0 ∨ upper s ≠ name k → NotYet (upper s) (k + 1)) := fun k => NotYet.succ
  have N0 : Hid (NotYet (upper s) 0) := fun j h1 h2 => by omega
  generalize upper s = u at *
  generalize vCode s = c at *
  obtain ⟨c1, c2⟩ := c
  clear wd hs
  go_enter Tryd.func54, Tryd.ntmps54
  go_wp2_with fail
  refine (U.out _).mono ?_
  rintro e w1 ⟨rfl, k1⟩
  have W1 := WD.out.kept k1
  have y0 : w1.cell? ⟨0, 0, none⟩ = some (.string ⟨(name 0).toArray⟩) := W1 0 (by omega)
  have y1 : w1.cell? ⟨0, 1, none⟩ = some (.string ⟨(name 1).toArray⟩) := W1 1 (by omega)
  have y2 : w1.cell? ⟨0, 2, none⟩ = some (.string ⟨(name 2).toArray⟩) := W1 2 (by omega)
  have y3 : w1.cell? ⟨0, 3, none⟩ = some (.string ⟨(name 3).toArray⟩) := W1 3 (by omega)
  have y4 : w1.cell? ⟨0, 4, none⟩ = some (.string ⟨(name 4).toArray⟩) := W1 4 (by omega)
  have y5 : w1.cell? ⟨0, 5, none⟩ = some (.string ⟨(name 5).toArray⟩) := W1 5 (by omega)
  have y6 : w1.cell? ⟨0, 6, none⟩ = some (.string ⟨(name 6).toArray⟩) := W1 6 (by omega)
  have y7 : w1.cell? ⟨0, 7, none⟩ = some (.string ⟨(name 7).toArray⟩) := W1 7 (by omega)
  clear W1
  go_wp2_with fail
  clear y0 y1 y2 y3 y4 y5 y6 y7
  go_loopw [9] (fun i wr => ∃ k : Nat, k ≤ 8 ∧ i = .int .i64 k ∧ Kept w wr ∧ NotYet u k) (fun i _ => 8 - (intOf i).toNat)
  case atStart => exact ⟨0, by omega, rfl, (by repeat (first | with_reducible exact Kept.refl _ | with_reducible apply Kept.drew | with_reducible apply Kept.drewN | with_reducible apply Kept.alloc | (with_reducible refine Kept.setCellX ?_ ?_ _; focus (first | (simp; done) | (simp; omega))) | (with_reducible refine Kept.trans ?_ (by assumption)))), N0.out⟩
  case round =>
    obtain ⟨k, hk, rfl, kw, ny⟩ := hrel
    have NY := Lib.hid ny
    clear ny
    by_cases h8 : k = 8
    · subst h8
      have ce := CN.out NY.out
      have CE := Lib.hid ce
      clear ce
      go_wp2_with fail
      go_ret2
      exact ⟨ret_two CE.out.symm, kw⟩
    · have hk : k < 8 := by omega
      have ix := IX.out k hk
      clear h8
      by_cases h0 : k = 0
      · have N1 := Lib.hid (NS.out _ NY.out (Or.inl h0))
        have z : decide (0 < k) = false := by rw [decide_eq_false_iff_not]; omega
        clear h0
        go_wp2_with fail
        go_roundw
        case rel => exact ⟨k + 1, by omega, by go_num, kw, N1.out⟩
        case measure => (simp [intOf]; try omega)
      · have h1 : 1 ≤ k := by omega
        by_cases e : u = name k
        · have ce := CA.out _ NY.out h1 (by omega) e
          have CE := Lib.hid ce
          have e1 : (name k == u) = true := by rw [beq_iff_eq]; exact e.symm
          clear ce e h0
          generalize name k = x at *
          go_wp2_with fail
          go_ret2
          exact ⟨ret_two CE.out.symm, kw⟩
        · have N1 := Lib.hid (NS.out _ NY.out (Or.inr e))
          have e1 : (name k == u) = false := by rw [beq_eq_false_iff_ne]; exact fun x => e x.symm
          clear e h0
          go_wp2_with fail
          go_roundw
          case rel => exact ⟨k + 1, by omega, by go_num, kw, N1.out⟩
          case measure => (simp [intOf]; try omega)
end Go.Proofs.YtipkjpcedfokhaaDoor
