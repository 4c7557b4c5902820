/- Reading a text literal: plain lists. -/
import Derived.Test.YtipkjpcedfokhaaDoorMQuote
namespace Go.Proofs.YtipkjpcedfokhaaDoor.Lv
set_option linter.unusedVariables false
set_option linter.unusedSimpArgs false
open Go
/-- what stands between the outer quotes, read; none: no literal -/
def unq : List UInt8 → Option (List UInt8)
  | [] => some []
  | [c] => if c = 34 then none else some [c]
  | c :: d :: r => if c = 34 then (if d = 34 then (unq r).map (34 :: ·) else none) else (unq (d :: r)).map (c :: ·)
theorem unq_ne {c : UInt8} (h : c ≠ 34) : ∀ l, unq (c :: l) = (unq l).map (c :: ·)
  | [] => by simp [unq, h]
  | d :: r => by simp [unq, h]
theorem unq_two (l : List UInt8) : unq (34 :: 34 :: l) = (unq l).map (34 :: ·) := by simp [unq]
theorem unq_bad {d : UInt8} (h : d ≠ 34) (l : List UInt8) : unq (34 :: d :: l) = none := by simp [unq, h]
theorem unq_one : unq [34] = none := by simp [unq]
theorem unq_qq : ∀ m : List UInt8, unq (qq m) = some m
  | [] => rfl
  | c :: m => by
    rw [qq_cons]
    by_cases h : c = 34
    · subst h; rw [if_pos rfl]; show unq (34 :: 34 :: qq m) = _; rw [unq_two, unq_qq m]; rfl
    · rw [if_neg h]; show unq (c :: qq m) = _; rw [unq_ne h, unq_qq m]; rfl
theorem qq_unq : ∀ l m : List UInt8, unq l = some m → qq m = l
  | [], m, h => by simp [unq] at h; subst h; rfl
  | [c], m, h => by
    by_cases e : c = 34
    · simp [unq, e] at h
    · simp [unq, e] at h; subst h; rw [qq_cons, if_neg e]; rfl
  | c :: d :: r, m, h => by
    by_cases e : c = 34
    · subst e
      by_cases g : d = 34
      · subst g
        rw [unq_two] at h
        obtain ⟨x, hx, rfl⟩ := Option.map_eq_some_iff.1 h
        rw [qq_cons, if_pos rfl, qq_unq r x hx]; rfl
      · rw [unq_bad g] at h; cases h
    · rw [unq_ne e] at h
      obtain ⟨x, hx, rfl⟩ := Option.map_eq_some_iff.1 h
      rw [qq_cons, if_neg e, qq_unq (d :: r) x hx]; rfl
theorem plain_append (l m : List UInt8) : plain (l ++ m) = (plain l && plain m) := List.all_append
theorem plain_qq : ∀ m : List UInt8, plain (qq m) = plain m
  | [] => rfl
  | c :: m => by
    rw [qq_cons, plain_append, plain_qq m]
    by_cases h : c = 34
    · subst h; rw [if_pos rfl]; show ((okB 34 && (okB 34 && true)) && plain m) = (okB 34 && plain m); rw [show okB 34 = true from by decide]; rfl
    · rw [if_neg h]; show ((okB c && true) && plain m) = (okB c && plain m); rw [Bool.and_true]
theorem plain_lit (m : List UInt8) : plain (34 :: (qq m ++ [34])) = plain m := by
  show (okB 34 && plain (qq m ++ [34])) = _
  rw [plain_append, plain_qq, show okB 34 = true from by decide, show plain [34] = true from by decide]; simp

/-- the rest between the quotes, from place i on -/
def rst (l : List UInt8) (i : Nat) : List UInt8 := (l.take (l.length - 1)).drop i
theorem rst_end (l : List UInt8) : unq (rst l (l.length - 1)) = some [] := by
  unfold rst; rw [List.drop_of_length_le (by rw [List.length_take]; omega)]; rfl
theorem rst_cons {l : List UInt8} {i : Nat} (h : i < l.length - 1) : rst l i = l[i]'(by omega) :: rst l (i + 1) := by
  unfold rst
  rw [List.drop_eq_getElem_cons (by rw [List.length_take]; omega), List.getElem_take]
theorem rst_ne {l : List UInt8} {i : Nat} (h : i < l.length - 1) (c : l[i]'(by omega) ≠ 34) : unq (rst l i) = (unq (rst l (i + 1))).map (l[i]'(by omega) :: ·) := by
  rw [rst_cons h, unq_ne c]
theorem rst_two {l : List UInt8} {i : Nat} (h : i + 1 < l.length - 1) (c : l[i]'(by omega) = 34) (d : l[i + 1]'(by omega) = 34) : unq (rst l i) = (unq (rst l (i + 2))).map (34 :: ·) := by
  rw [rst_cons (show i < l.length - 1 by omega), rst_cons h, c, d, unq_two]
theorem rst_bad {l : List UInt8} {i : Nat} (h : i + 1 < l.length - 1) (c : l[i]'(by omega) = 34) (d : l[i + 1]'(by omega) ≠ 34) : unq (rst l i) = none := by
  rw [rst_cons (show i < l.length - 1 by omega), rst_cons h, c, unq_bad d]
theorem rst_one {l : List UInt8} {i : Nat} (h : i + 1 = l.length - 1) (c : l[i]'(by omega) = 34) : unq (rst l i) = none := by
  rw [rst_cons (show i < l.length - 1 by omega), c, show rst l (i + 1) = [] from by unfold rst; rw [List.drop_of_length_le (by rw [List.length_take]; omega)], unq_one]
/-- what was read before, joined -/
def Sofar (l o : List UInt8) (i : Nat) : Prop := unq (rst l 1) = (unq (rst l i)).map (o ++ ·)
theorem sofar_start (l : List UInt8) : Sofar l [] 1 := by unfold Sofar; simp
theorem sofar_ne {l o : List UInt8} {i : Nat} (s : Sofar l o i) (h : i < l.length - 1) (c : l[i]'(by omega) ≠ 34) : Sofar l (o ++ [l[i]'(by omega)]) (i + 1) := by
  unfold Sofar at *; rw [s, rst_ne h c, Option.map_map]; congr 1; funext x; simp
theorem sofar_two {l o : List UInt8} {i : Nat} (s : Sofar l o i) (h : i + 1 < l.length - 1) (c : l[i]'(by omega) = 34) (d : l[i + 1]'(by omega) = 34) : Sofar l (o ++ [34]) (i + 2) := by
  unfold Sofar at *; rw [s, rst_two h c d, Option.map_map]; congr 1; funext x; simp
theorem sofar_bad {l o : List UInt8} {i : Nat} (s : Sofar l o i) (h : i + 1 < l.length - 1) (c : l[i]'(by omega) = 34) (d : l[i + 1]'(by omega) ≠ 34) : unq (rst l 1) = none := by
  unfold Sofar at *; rw [s, rst_bad h c d]; rfl
theorem sofar_one {l o : List UInt8} {i : Nat} (s : Sofar l o i) (h : i + 1 = l.length - 1) (c : l[i]'(by omega) = 34) : unq (rst l 1) = none := by
  unfold Sofar at *; rw [s, rst_one h c]; rfl
theorem sofar_end {l o : List UInt8} (s : Sofar l o (l.length - 1)) : unq (rst l 1) = some o := by
  unfold Sofar at *; rw [s, rst_end]; simp

/-- the outer form of a literal -/
def litB (l : List UInt8) : Bool := decide (2 ≤ l.length) && decide (l[0]? = some 34) && decide (l[l.length - 1]? = some 34) && plain l
def dUnq (l : List UInt8) : List UInt8 × Int := if litB l = true then (match unq (rst l 1) with | none => ([], 4) | some m => if 256 < m.length then ([], 5) else (m, 0)) else ([], 4)
theorem dUnq_no {l : List UInt8} (h : litB l = false) : dUnq l = ([], 4) := by unfold dUnq; rw [h]; rfl
theorem dUnq_none {l : List UInt8} (h : unq (rst l 1) = none) : dUnq l = ([], 4) := by unfold dUnq; rw [h]; simp
theorem dUnq_long {l m : List UInt8} (g : litB l = true) (h : unq (rst l 1) = some m) (c : 256 < m.length) : dUnq l = ([], 5) := by unfold dUnq; rw [h, g]; simp [c]
theorem dUnq_ok {l m : List UInt8} (g : litB l = true) (h : unq (rst l 1) = some m) (c : m.length ≤ 256) : dUnq l = (m, 0) := by
  unfold dUnq; rw [h, g]; simp; omega
theorem lit_short {l : List UInt8} (h : l.length < 2) : litB l = false := by unfold litB; rw [decide_eq_false (by omega)]; rfl
theorem lit_first {l : List UInt8} (h : l[0]? ≠ some 34) : litB l = false := by unfold litB; rw [decide_eq_false h]; simp
theorem lit_last {l : List UInt8} (h : l[l.length - 1]? ≠ some 34) : litB l = false := by unfold litB; rw [decide_eq_false h]; simp
theorem lit_plain {l : List UInt8} (h : plain l = false) : litB l = false := by unfold litB; rw [h]; simp
theorem lit_yes {l : List UInt8} (h : 2 ≤ l.length) (a : l[0]? = some 34) (b : l[l.length - 1]? = some 34) (c : plain l = true) : litB l = true := by unfold litB; rw [decide_eq_true h, decide_eq_true a, decide_eq_true b, c]; rfl
/-- the literal of a text is read as the text -/
theorem rst_lit (m : List UInt8) : rst (34 :: (m ++ [34])) 1 = m := by
  unfold rst
  simp
theorem unq_lit {m : List UInt8} (h : plain m = true) (c : m.length ≤ 256) : dUnq (34 :: (qq m ++ [34])) = (m, 0) := by
  refine dUnq_ok (lit_yes (by simp) (by simp) (by simp) (by rw [plain_lit, h])) ?_ c
  rw [rst_lit, unq_qq]
/-- what is read is written as the literal again -/
theorem lit_form {l : List UInt8} (g : litB l = true) : l = 34 :: (rst l 1 ++ [34]) := by
  unfold litB at g
  simp only [Bool.and_eq_true, decide_eq_true_eq] at g
  obtain ⟨⟨⟨h1, h2⟩, h3⟩, h4⟩ := g
  unfold rst
  apply List.ext_getElem?
  intro i
  by_cases a : i = 0
  · subst a; rw [h2]; rfl
  · obtain ⟨j, rfl⟩ : ∃ j, i = j + 1 := ⟨i - 1, by omega⟩
    rw [List.getElem?_cons_succ]
    by_cases b : j + 1 < l.length - 1
    · rw [List.getElem?_append_left (by simp; omega), List.getElem?_drop, List.getElem?_take, if_pos (by omega), Nat.add_comm]
    · by_cases d : j + 1 = l.length - 1
      · rw [List.getElem?_append_right (by simp; omega), d, h3]
        have : j - ((l.take (l.length - 1)).drop 1).length = 0 := by simp; omega
        rw [this]; rfl
      · rw [List.getElem?_eq_none (by omega), List.getElem?_eq_none (by simp; omega)]
theorem lit_unq {l m : List UInt8} (h : dUnq l = (m, 0)) : m.length ≤ 256 ∧ plain m = true ∧ 34 :: (qq m ++ [34]) = l := by
  by_cases g : litB l = true
  · cases e : unq (rst l 1) with
    | none => rw [dUnq_none e] at h; cases h
    | some x =>
      by_cases c : 256 < x.length
      · rw [dUnq_long g e c] at h; cases h
      · rw [dUnq_ok g e (by omega)] at h
        cases h
        have q := qq_unq _ _ e
        have f := lit_form g
        rw [← q] at f
        refine ⟨by omega, ?_, f.symm⟩
        rw [← plain_lit, ← f]
        unfold litB at g
        simp only [Bool.and_eq_true] at g
        exact g.2
  · rw [dUnq_no (by simpa using g)] at h; cases h
theorem dUnq_err (l : List UInt8) : (dUnq l).2 = 0 ∨ (dUnq l).2 = 4 ∨ (dUnq l).2 = 5 := by
  unfold dUnq
  split
  · split
    · simp
    · split <;> simp
  · simp
end Go.Proofs.YtipkjpcedfokhaaDoor.Lv
