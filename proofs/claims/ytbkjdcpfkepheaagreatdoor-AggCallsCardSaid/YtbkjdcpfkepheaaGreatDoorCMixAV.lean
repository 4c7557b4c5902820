/- Small texts together: GSort, MLogic2, MGood. -/
import Derived.Test.YtbkjdcpfkepheaaGreatDoorCGAgg6
import Derived.Test.YtbkjdcpfkepheaaGreatDoorCMixAM
set_option linter.unusedVariables false
set_option linter.unusedSimpArgs false
namespace Go.Proofs.YtbkjdcpfkepheaaGreatDoor
section
open Go.RowKit Lv
set_option maxRecDepth 100000
theorem oU (l' : List Int) (cur : Array Value) (h : l'.length ≤ cur.size) : (Go.Sort.putCells (Value.int .i64) 0 l'.toArray cur).toList.take l'.length = l'.map cj := by
  apply List.ext_getElem
  · simp [Go.Sort.putCells]
    omega
  · intro i h1 h2
    rw [List.length_map] at h2
    simp [Go.Sort.putCells, List.getElem_take, h2]
theorem nR {w0 w : World} {T : List Th} {b n m g cap : Nat} {l l' : List Int} (h : Own w0 (Th.row b 2 1 (.slice (some ⟨g, 0, none⟩) n cap) n (l.map cj) :: T) w) (hn : n = l.length) (hl : l'.length = l.length) (os : Array Obj) :
    Own w0 (Th.row b 2 1 (.slice (some ⟨g, 0, none⟩) n cap) n (l'.map cj) :: T) (Go.Sort.grow (Go.Sort.putRow (Value.int .i64) (Go.Sort.ahead w m) g 0 l'.toArray) os) := by
  have hrow := h.row 0 rfl; obtain ⟨h1, h2⟩ := hrow; rcases h2 with ⟨c, _⟩ | ⟨g', cap', cur, e, hb, hh, h4, h5, h6, h7⟩
  · cases c
  · cases e
    have hg := (Array.getElem?_eq_some_iff.1 hh).1; have hcur : (Go.Sort.putCells (Value.int .i64) 0 l'.toArray cur).size = cur.size := by simp [Go.Sort.putCells]
    refine h.turn 0 rfl (t' := Th.row b 2 1 (.slice (some ⟨g, 0, none⟩) n cap) n (l'.map cj)) ⟨by rw [List.length_map]; omega, Or.inr ⟨g, cap, Go.Sort.putCells (Value.int .i64) 0 l'.toArray cur, rfl, hb, ?_, h4, h5, by rw [hcur]; exact h6, ?_⟩⟩ ⟨rfl, rfl, rfl, ?_, ?_⟩ (Or.inl rfl)
    · show ((w.heap.modify g _) ++ os)[g]? = _
      rw [Array.getElem?_append_left (by rw [Array.size_modify]; exact hg), Array.getElem?_modify, if_pos rfl, hh]
      rfl
    · have e : n * 1 = l'.length := by omega
      rw [e]; exact oU l' cur (by omega)
    · show w.heap.size ≤ ((w.heap.modify g _) ++ os).size
      rw [Array.size_append, Array.size_modify]
      omega
    · intro k hk ne
      have hkg : k ≠ g := fun c => ne (by rw [c]; rfl); show ((w.heap.modify g _) ++ os)[k]? = _; rw [Array.getElem?_append_left (by rw [Array.size_modify]; exact hk), Array.getElem?_modify, if_neg (fun c => hkg c.symm)]
theorem qJ {w : World} {b n g cap : Nat} {l : List Int} (h : w.ownsRow b 2 1 (.slice (some ⟨g, 0, none⟩) n cap) n (l.map cj)) (hn : n = l.length) : Go.Sort.Holds (Value.int .i64) w g 0 l.toArray ∧ g < w.heap.size := by
  obtain ⟨h1, h2⟩ := h; rcases h2 with ⟨c, _⟩ | ⟨g', cap', cur, e, hb, hh, h4, h5, h6, h7⟩
  · cases c
  · cases e
    refine ⟨fun j hj => ⟨?_, by simp only [World.frozen?, hh]; simp⟩, (Array.getElem?_eq_some_iff.1 hh).1⟩; have hj' : j < l.length := by simpa using hj
    have e1 : (cur.toList.take (n * 1))[j]? = (l.map cj)[j]? := by rw [h7]
    rw [List.getElem?_take_of_lt (by omega), List.getElem?_map, List.getElem?_eq_getElem hj'] at e1; have e2 : cur[j]? = some (cj l[j]) := by simpa using e1
    have e3 : w.cell? ⟨g, 0 + j, none⟩ = cur[j]? := by rw [Nat.zero_add]; exact cell_of_row w g j cur 2 (0, 0) hh
    rw [e3, e2]
    simp [hj']
theorem qK {w0 w : World} {T : List Th} {b : Nat} {v : Value} {l : List Int} (h : Own w0 (Th.row b 2 1 v l.length (l.map cj) :: T) w) (h0 : 0 < l.length) : ∃ g cap, v = .slice (some ⟨g, 0, none⟩) l.length cap ∧ Own w0 (Th.row b 2 1 (.slice (some ⟨g, 0, none⟩) l.length cap) l.length (l.map cj) :: T) w := by
  rcases (h.row 0 rfl).2 with ⟨_, c⟩ | ⟨g, cap, cur, e, _⟩
  · omega
  · subst e
    exact ⟨g, cap, rfl, h⟩
theorem qL {w0 w : World} {T : List Th} {b g n cap : Nat} {l : List Int} (h : Own w0 (Th.row b 2 1 (.slice (some ⟨g, 0, none⟩) n cap) n (l.map cj) :: T) w) (hn : n = l.length) (hl : l.length ≤ 1000000) :
    Calls Tryz.prog 101 #[.slice (some ⟨g, 0, none⟩) n cap] w fun e w' => e = .returned (.tuple #[]) ∧ Own w0 (Th.row b 2 1 (.slice (some ⟨g, 0, none⟩) n cap) n ((ar l).map cj) :: T) w' := by
  obtain ⟨hH, hg⟩ := qJ (h.row 0 rfl) hn; subst hn; refine (Tryz.slices_Sort_int g 0 cap l w hH hg (by omega)).mono ?_; rintro e w' ⟨rfl, n, os, rfl⟩; exact ⟨rfl, nR h rfl (aq l) os⟩
theorem qM {w0 w : World} {T : List Th} {b g n cap : Nat} {l : List Int} (h : Own w0 (Th.row b 2 1 (.slice (some ⟨g, 0, none⟩) n cap) n (l.map cj) :: T) w) (hn : n = l.length) (hl : l.length ≤ 1000000) :
    Calls Tryz.prog 102 #[.slice (some ⟨g, 0, none⟩) n cap] w fun e w' => e = .returned (.tuple #[]) ∧ Own w0 (Th.row b 2 1 (.slice (some ⟨g, 0, none⟩) n cap) n (l.reverse.map cj) :: T) w' := by
  obtain ⟨hH, hg⟩ := qJ (h.row 0 rfl) hn; subst hn; refine (Tryz.slices_Reverse_int g 0 cap l w hH (by omega)).mono ?_; rintro e w' ⟨rfl, n, rfl⟩; have := nR (m := n) h rfl (by rw [List.length_reverse]) #[]; rw [Go.Sort.grow_empty] at this; exact ⟨rfl, this⟩
theorem wD {w0 w : World} {T : List Th} {s : Th} {b g n cap : Nat} {l : List Int} (h : Own w0 (s :: Th.row b 2 1 (.slice (some ⟨g, 0, none⟩) n cap) n (l.map cj) :: T) w) (hn : n = l.length) (hl : l.length ≤ 1000000) :
    Calls Tryz.prog 101 #[.slice (some ⟨g, 0, none⟩) n cap] w fun e w' => e = .returned (.tuple #[]) ∧ Own w0 (s :: Th.row b 2 1 (.slice (some ⟨g, 0, none⟩) n cap) n ((ar l).map cj) :: T) w' :=
  (qL (h.perm (List.Perm.swap _ _ _)) hn hl).mono fun e w' ⟨he, hO⟩ => ⟨he, hO.perm (List.Perm.swap _ _ _)⟩
section
variable {a : Act} {w : World} {o : Oper}
theorem sQ {T : TypeId} {x : Operand} {b n g c k : Nat} {l : List Int} (ho : o.op = .load T x) (ha : (isAgg T).run Tryz.prog w = .ok false w) (hx : a.eval x = .pointer (some ⟨g, 0 + k, none⟩)) (hr : w.ownsRow b 2 1 (.slice (some ⟨g, 0, none⟩) n c) n (l.map cj)) (hk : k < l.length) : (execOp a.eval o).run Tryz.prog w = .ok (.value (.int .i64 (l.getD k 0))) w := by
  rcases hr.2 with ⟨c, _⟩ | ⟨g', cap', cur, e, hb, hh, h4, h5, h6, h7⟩
  · cases c
  · cases e
    have hl := hr.1; rw [List.length_map] at hl; have e1 : (cur.toList.take (n * 1))[k]? = (l.map cj)[k]? := by rw [h7]
    rw [List.getElem?_take_of_lt (by omega), List.getElem?_map, List.getElem?_eq_getElem hk] at e1; have e2 : cur[k]? = some (cj (l.getD k 0)) := by rw [show l.getD k 0 = l[k] by simp [List.getD, hk]]; simpa using e1
    refine kE ho ha hx ?_; rw [Nat.zero_add]; exact (cell_of_row w g k cur 2 (0, 0) hh).trans e2
end
theorem ER {w : World} {g : Nat} {x y : Int} (h : w.heap[g]? = some (.cells #[.int .i64 x, .int .i64 y] 2 (0, 0))) : Row w (some ⟨g, 0, none⟩) [x, y] := fun i hi => by
  refine ⟨g, 0, rfl, (Array.getElem?_eq_some_iff.1 h).1, ?_⟩; rw [Nat.zero_add]; have := cell_of_row w g i #[.int .i64 x, .int .i64 y] 2 (0, 0) h; rw [this]
  match i, hi with
  | 0, _ => rfl
  | 1, _ => rfl
theorem ES (n : Nat) : Int.tdiv (n : Int) 2 = ((n / 2 : Nat) : Int) := by
  rw [Int.tdiv_eq_ediv_of_nonneg (by omega)]
  omega
theorem iY {l : List Int} (h : All64 l) : All64 (ar l) := fun x hx => h x ((gL l).mem_iff.1 hx)
theorem uF {l : List Int} (h : All64 l) : All64 l.reverse := fun x hx => h x (List.mem_reverse.1 hx)
end

namespace Lv
open Go
end Lv

namespace Lv
open Go
def kT (v : Vl) : Vl := { v with t := v.t.take 300 }
def ck (v : Vl) : Vl :=
  if vOk (kT v) = true then kT v
  else if v.k % 5 = 2 then eL (decide (Int.tmod v.n 2 ≠ 0))
  else if v.k % 5 = 3 then ⟨3, 0, [120]⟩
  else if v.k % 5 = 4 then aG (1 + Int.tmod (Int.tmod v.n 5 + 5) 5)
  else if v.k % 5 = 0 then ⟨0, 0, []⟩
  else ay (max v.n (-9223372036854775807))
theorem oV (v : Vl) : vOk (ck v) = true := by
  unfold ck
  split
  · assumption
  · split
    · exact Bn _
    · split
      · decide
      · split
        · refine rU _ ?_
          have h1 := Int.tmod_lt_of_pos (Int.tmod v.n 5 + 5) (b := 5) (by omega)
          omega
        · split
          · rfl
          · exact rV _
theorem uG {v : Vl} (h : vOk v = true) : v.t.length ≤ 256 := by
  rcases fd h with rfl | ⟨n, hn, rfl⟩ | rfl | rfl | ⟨t, ht, rfl⟩ | ⟨c, h1, h2, rfl⟩
  · simp
  · simp
  · simp [eL]
  · simp [eL]
  · unfold okT at ht; simp at ht; exact ht.1
  · simp
end Lv
