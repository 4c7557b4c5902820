/- BunM: the texts MGlyph, MComp, MCaps, MPrint, MQuote, MTrim, MTrim2, MUnq, MDec, MDiv, MRef, MText, MParse, MParse2, MBack, MVal, MVal2 together. -/
import Derived.WalkKit
import Derived.Lib.Bytealg
import Derived.Laws.RangeString
import Derived.Shelf.GgClosure.StringsIndexFunc
import Derived.Lib.Replace
import Derived.Lib.CountLaws
import Derived.Lib.SplitLaws
import Derived.Lib.Join
namespace Go.Proofs.YtipkjpcedfokhaaDoor.Lv
set_option linter.unusedVariables false
set_option linter.unusedSimpArgs false
open Go
def upB (c : UInt8) : UInt8 := if 97 ≤ c.toNat ∧ c.toNat ≤ 122 then UInt8.ofNat (c.toNat - 32) else c
def loB (c : UInt8) : UInt8 := if 65 ≤ c.toNat ∧ c.toNat ≤ 90 then UInt8.ofNat (c.toNat + 32) else c
def up8 (c : Nat) : Nat := if 97 ≤ c ∧ c ≤ 122 then c - 32 else c
def lo8 (c : Nat) : Nat := if 65 ≤ c ∧ c ≤ 90 then c + 32 else c
def pr8 (c : Nat) : Nat := if c < 32 ∨ 126 < c then 0 else 32
theorem upB_toNat (c : UInt8) : (upB c).toNat = up8 c.toNat := by unfold upB up8; split <;> simp; omega
theorem loB_toNat (c : UInt8) : (loB c).toNat = lo8 c.toNat := by unfold loB lo8; split <;> simp; omega
def upper (l : List UInt8) : List UInt8 := l.map upB
def lower (l : List UInt8) : List UInt8 := l.map loB
def okB (c : UInt8) : Bool := decide (32 ≤ c.toNat ∧ c.toNat ≤ 126)
def plain (l : List UInt8) : Bool := l.all okB
end Go.Proofs.YtipkjpcedfokhaaDoor.Lv

namespace Go.Proofs.YtipkjpcedfokhaaDoor.Lv
set_option linter.unusedVariables false
set_option linter.unusedSimpArgs false
open Go
theorem cmp_spec : ∀ x y : List UInt8, (Op.bytesLess x y = true ∧ Lib.compareBytes x y = -1) ∨ (Op.bytesLess x y = false ∧ x = y ∧ Lib.compareBytes x y = 0) ∨ (Op.bytesLess x y = false ∧ x ≠ y ∧ Lib.compareBytes x y = 1)
  | [], [] => by simp [Op.bytesLess, Lib.compareBytes]
  | [], _ :: _ => by simp [Op.bytesLess, Lib.compareBytes]
  | _ :: _, [] => by simp [Op.bytesLess, Lib.compareBytes]
  | a :: x, b :: y => by
    have ih := cmp_spec x y
    unfold Op.bytesLess Lib.compareBytes
    by_cases h : a < b
    · left; simp [h]
    · by_cases g : b < a
      · right; right
        have ne : a ≠ b := by intro e; subst e; exact absurd g h
        simp [h, g, ne]
      · have e : a = b := by
          apply UInt8.toNat_inj.1
          have h1 : ¬ a.toNat < b.toNat := h
          have h2 : ¬ b.toNat < a.toNat := g
          omega
        subst e
        simp only [h, if_false, beq_self_eq_true, Bool.true_and, decide_false, Bool.false_or]
        rcases ih with ⟨h1, h2⟩ | ⟨h1, h2, h3⟩ | ⟨h1, h2, h3⟩
        · left; exact ⟨h1, h2⟩
        · right; left; exact ⟨h1, by rw [h2], h3⟩
        · right; right; exact ⟨h1, by simpa using h2, h3⟩
end Go.Proofs.YtipkjpcedfokhaaDoor.Lv

namespace Go.Proofs.YtipkjpcedfokhaaDoor.Lv
set_option linter.unusedVariables false
set_option linter.unusedSimpArgs false
open Go
theorem up8_up8 (c : Nat) : up8 (up8 c) = up8 c := by
  unfold up8; repeat' split
  all_goals omega
theorem lo8_lo8 (c : Nat) : lo8 (lo8 c) = lo8 c := by
  unfold lo8; repeat' split
  all_goals omega
theorem up8_lo8 (c : Nat) : up8 (lo8 c) = up8 c := by
  unfold up8 lo8; repeat' split
  all_goals omega
theorem lo8_up8 (c : Nat) : lo8 (up8 c) = lo8 c := by
  unfold up8 lo8; repeat' split
  all_goals omega
theorem upB_upB (c : UInt8) : upB (upB c) = upB c := UInt8.toNat_inj.1 (by rw [upB_toNat, upB_toNat, up8_up8])
theorem loB_loB (c : UInt8) : loB (loB c) = loB c := UInt8.toNat_inj.1 (by rw [loB_toNat, loB_toNat, lo8_lo8])
theorem upB_loB (c : UInt8) : upB (loB c) = upB c := UInt8.toNat_inj.1 (by rw [upB_toNat, loB_toNat, upB_toNat, up8_lo8])
theorem loB_upB (c : UInt8) : loB (upB c) = loB c := UInt8.toNat_inj.1 (by rw [loB_toNat, upB_toNat, loB_toNat, lo8_up8])
theorem upper_upper (l : List UInt8) : upper (upper l) = upper l := by unfold upper; rw [List.map_map]; exact List.map_congr_left fun c _ => upB_upB c
theorem lower_lower (l : List UInt8) : lower (lower l) = lower l := by unfold lower; rw [List.map_map]; exact List.map_congr_left fun c _ => loB_loB c
theorem upper_lower (l : List UInt8) : upper (lower l) = upper l := by unfold upper lower; rw [List.map_map]; exact List.map_congr_left fun c _ => upB_loB c
theorem lower_upper (l : List UInt8) : lower (upper l) = lower l := by unfold upper lower; rw [List.map_map]; exact List.map_congr_left fun c _ => loB_upB c
theorem upper_len (l : List UInt8) : (upper l).length = l.length := List.length_map _
theorem lower_len (l : List UInt8) : (lower l).length = l.length := List.length_map _
theorem upper_append (l m : List UInt8) : upper (l ++ m) = upper l ++ upper m := List.map_append

theorem cmp_self (l : List UInt8) : Lib.compareBytes l l = 0 := by
  rcases cmp_spec l l with ⟨h, _⟩ | ⟨_, _, h⟩ | ⟨_, h, _⟩
  · exfalso
    have : ∀ l : List UInt8, Op.bytesLess l l = false := by
      intro l
      induction l with
      | nil => rfl
      | cons c l ih =>
        have hc : ¬ c < c := fun h => absurd (show c.toNat < c.toNat from h) (by omega)
        unfold Op.bytesLess
        simp [hc, ih]
    rw [this l] at h; cases h
  · exact h
  · exact absurd rfl h
theorem cmp_zero {x y : List UInt8} : Lib.compareBytes x y = 0 ↔ x = y := by
  constructor
  · intro h
    rcases cmp_spec x y with ⟨_, g⟩ | ⟨_, e, _⟩ | ⟨_, _, g⟩
    · omega
    · exact e
    · omega
  · rintro rfl; exact cmp_self x
theorem cmp_range (x y : List UInt8) : -1 ≤ Lib.compareBytes x y ∧ Lib.compareBytes x y ≤ 1 := by
  rcases cmp_spec x y with ⟨_, g⟩ | ⟨_, _, g⟩ | ⟨_, _, g⟩ <;> omega
theorem cmp_cons (a b : UInt8) (x y : List UInt8) : Lib.compareBytes (a :: x) (b :: y) = if a.toNat < b.toNat then -1 else if b.toNat < a.toNat then 1 else Lib.compareBytes x y := rfl
theorem cmp_anti : ∀ x y : List UInt8, Lib.compareBytes y x = -Lib.compareBytes x y
  | [], [] => rfl
  | [], _ :: _ => rfl
  | _ :: _, [] => rfl
  | a :: x, b :: y => by
    rw [cmp_cons, cmp_cons, cmp_anti x y]
    split
    · rw [if_neg (by omega)] <;> rfl
    · split <;> rfl
theorem cmp_trans : ∀ x y z : List UInt8, Lib.compareBytes x y ≤ 0 → Lib.compareBytes y z ≤ 0 → Lib.compareBytes x z ≤ 0 ∧ (Lib.compareBytes x z = 0 → Lib.compareBytes x y = 0 ∧ Lib.compareBytes y z = 0)
  | [], [], _, _, h => ⟨h, fun e => ⟨rfl, e⟩⟩
  | [], _ :: _, [], _, h => by simp [Lib.compareBytes] at h
  | [], _ :: _, _ :: _, _, _ => by simp [Lib.compareBytes]
  | _ :: _, [], _, h, _ => by simp [Lib.compareBytes] at h
  | _ :: _, _ :: _, [], _, h => by simp [Lib.compareBytes] at h
  | a :: x, b :: y, c :: z, h, g => by
    simp only [cmp_cons] at h g ⊢
    have ih := cmp_trans x y z
    by_cases h1 : a.toNat < b.toNat
    · by_cases g1 : b.toNat < c.toNat
      · rw [if_pos (show a.toNat < c.toNat by omega)]; exact ⟨by omega, fun e => by omega⟩
      · rw [if_neg g1] at g
        by_cases g2 : c.toNat < b.toNat
        · rw [if_pos g2] at g; omega
        · rw [if_pos (show a.toNat < c.toNat by omega)]; exact ⟨by omega, fun e => by omega⟩
    · rw [if_neg h1] at h
      by_cases h2 : b.toNat < a.toNat
      · rw [if_pos h2] at h; omega
      · rw [if_neg h2] at h
        by_cases g1 : b.toNat < c.toNat
        · rw [if_pos (show a.toNat < c.toNat by omega)]; exact ⟨by omega, fun e => by omega⟩
        · rw [if_neg g1] at g
          by_cases g2 : c.toNat < b.toNat
          · rw [if_pos g2] at g; omega
          · rw [if_neg g2] at g
            rw [if_neg (show ¬ a.toNat < c.toNat by omega), if_neg (show ¬ c.toNat < a.toNat by omega), if_neg h1, if_neg h2, if_neg g1, if_neg g2]
            exact ih h g
theorem cmp_prefix : ∀ x y : List UInt8, Lib.compareBytes x (x ++ y) ≤ 0
  | [], [] => by decide
  | [], _ :: _ => by simp [Lib.compareBytes]
  | a :: x, y => by
    rw [List.cons_append, cmp_cons, if_neg (by omega), if_neg (by omega)]
    exact cmp_prefix x y
end Go.Proofs.YtipkjpcedfokhaaDoor.Lv

namespace Go.Proofs.YtipkjpcedfokhaaDoor.Lv
set_option linter.unusedVariables false
set_option linter.unusedSimpArgs false
open Go
def prB (c : UInt8) : UInt8 := if okB c then 32 else 0
theorem prB_toNat (c : UInt8) : (prB c).toNat = pr8 c.toNat := by
  unfold prB pr8 okB
  by_cases h : c.toNat < 32 ∨ 126 < c.toNat
  · rw [if_pos h, if_neg (by simp; omega)]; rfl
  · rw [if_neg h, if_pos (by simp; omega)]; rfl
theorem prB_lt (c : UInt8) : (prB c).toNat < 128 := by rw [prB_toNat]; unfold pr8; split <;> omega
theorem idx_print (m : List UInt8) (hm : ∀ c ∈ m, c.toNat < 128) : ∀ (f pos : Nat), m.length ≤ pos + f →
    ((m.drop pos).all (fun c => decide (c.toNat ≠ 0)) = true → Lib.idxFuncFrom (fun n => decide (n = 0)) true ⟨m.toArray⟩ f pos = -1) ∧
    ((m.drop pos).all (fun c => decide (c.toNat ≠ 0)) = false → 0 ≤ Lib.idxFuncFrom (fun n => decide (n = 0)) true ⟨m.toArray⟩ f pos)
  | 0, pos, h => by
    rw [List.drop_eq_nil_of_le (by omega)]
    exact ⟨fun _ => rfl, fun h => by simp at h⟩
  | f + 1, pos, h => by
    by_cases hp : pos < m.length
    · have hs : pos < (ByteArray.mk m.toArray).size := hp
      have hb : ((ByteArray.mk m.toArray)[pos]'hs) = m[pos] := rfl
      have hd := decide_dec (m := m) hp hm
      have ih := idx_print m hm f (pos + 1) (by omega)
      rw [List.drop_eq_getElem_cons hp, List.all_cons]
      unfold Lib.idxFuncFrom
      rw [if_pos hs, hd]
      by_cases z : m[pos].toNat = 0
      · simp only [z, decide_true, if_true]
        refine ⟨fun h => by simp at h, fun _ => by omega⟩
      · simp only [z, decide_false, Bool.false_eq_true, if_false, ne_eq, not_false_eq_true, decide_true, Bool.true_and]
        exact ih
    · rw [List.drop_eq_nil_of_le (by omega)]
      refine ⟨fun _ => ?_, fun h => by simp at h⟩
      exact Lib.idxFuncFrom_end _ _ _ _ _ (by show ¬ pos < m.length; omega)
where
  decide_dec {m : List UInt8} {pos : Nat} (hp : pos < m.length) (hm : ∀ c ∈ m, c.toNat < 128) : Utf8.decode ⟨m.toArray⟩ pos = (m[pos].toNat, 1) :=
    decode_ascii ⟨m.toArray⟩ pos hp (hm _ (List.getElem_mem hp))
theorem all_print (l : List UInt8) : (l.map prB).all (fun c => decide (c.toNat ≠ 0)) = plain l := by
  unfold plain
  rw [List.all_map]
  congr 1
  funext c
  show decide ((prB c).toNat ≠ 0) = okB c
  unfold prB
  cases okB c <;> rfl
theorem idx_plain (l : List UInt8) : decide (Lib.idxFunc (fun n => decide (n = 0)) true ⟨(l.map prB).toArray⟩ < 0) = plain l := by
  have h := idx_print (l.map prB) (fun c hc => by obtain ⟨x, _, rfl⟩ := List.mem_map.1 hc; exact prB_lt x) (l.map prB).length 0 (by omega)
  rw [List.drop_zero, all_print] at h
  unfold Lib.idxFunc
  show decide (Lib.idxFuncFrom _ _ _ (l.map prB).length 0 < 0) = _
  cases hp : plain l
  · have := h.2 hp
    exact decide_eq_false (by omega)
  · rw [h.1 hp]; rfl
end Go.Proofs.YtipkjpcedfokhaaDoor.Lv

namespace Go.Proofs.YtipkjpcedfokhaaDoor.Lv
set_option linter.unusedVariables false
set_option linter.unusedSimpArgs false
open Go
/-- each quote twice -/
def qq (l : List UInt8) : List UInt8 := l.flatMap (fun c => if c = 34 then [34, 34] else [c])
theorem qq_cons (c : UInt8) (l : List UInt8) : qq (c :: l) = (if c = 34 then [34, 34] else [c]) ++ qq l := by unfold qq; rw [List.flatMap_cons]
theorem index_one (b : UInt8) (l : List UInt8) : Lib.index (b :: l) [34] = if b = 34 then 0 else if Lib.index l [34] = -1 then -1 else Lib.index l [34] + 1 := by
  show (if ([34] : List UInt8).isPrefixOf (b :: l) then (0 : Int) else if Lib.index l [34] == -1 then -1 else Lib.index l [34] + 1) = _
  have e : ([34] : List UInt8).isPrefixOf (b :: l) = (34 == b) := by simp [List.isPrefixOf]
  rw [e]
  by_cases h : b = 34
  · subst h; simp
  · have h2 : ((34 : UInt8) == b) = false := by simpa using fun e => h e.symm
    rw [h2, if_neg h]
    simp only [Bool.false_eq_true, if_false, beq_iff_eq]
theorem qq_miss : ∀ (l : List UInt8), Lib.index l [34] = -1 → qq l = l
  | [], _ => rfl
  | b :: l, h => by
    rw [index_one] at h
    by_cases c : b = 34
    · rw [if_pos c] at h; omega
    · rw [if_neg c] at h
      by_cases g : Lib.index l [34] = -1
      · rw [qq_cons, if_neg c, qq_miss l g]; rfl
      · rw [if_neg g] at h
        have := Lib.index_ge l [34]
        omega
theorem qq_hit : ∀ (l : List UInt8) (i : Nat), Lib.index l [34] = i → qq l = l.take i ++ [34, 34] ++ qq (l.drop (i + 1))
  | [], i, h => by unfold Lib.index at h; simp at h
  | b :: l, i, h => by
    rw [index_one] at h
    by_cases c : b = 34
    · rw [if_pos c] at h
      obtain rfl : i = 0 := by omega
      rw [qq_cons, if_pos c]; rfl
    · rw [if_neg c] at h
      by_cases g : Lib.index l [34] = -1
      · rw [if_pos g] at h; omega
      · rw [if_neg g] at h
        have ge := Lib.index_ge l [34]
        obtain ⟨j, hj⟩ : ∃ j : Nat, Lib.index l [34] = j := ⟨(Lib.index l [34]).toNat, by omega⟩
        obtain rfl : i = j + 1 := by omega
        rw [qq_cons, if_neg c, qq_hit l j hj]
        simp
theorem replaceK_qq : ∀ (k : Nat) (l : List UInt8), Lib.count l [34] ≤ k → Lib.replaceK [34] [34, 34] k l = qq l
  | 0, l, h => by
    by_cases g : Lib.index l [34] = -1
    · rw [qq_miss l g]; rfl
    · have ge := Lib.index_ge l [34]
      have := Lib.count_hit (s := l) (sub := [34]) (i := (Lib.index l [34]).toNat) (by simp) (by omega)
      omega
  | k + 1, l, h => by
    by_cases g : Lib.index l [34] = -1
    · rw [qq_miss l g]
      unfold Lib.replaceK
      rw [if_pos (by simpa using g)]
    · have ge := Lib.index_ge l [34]
      obtain ⟨i, hi⟩ : ∃ i : Nat, Lib.index l [34] = i := ⟨(Lib.index l [34]).toNat, by omega⟩
      have c := Lib.count_hit (s := l) (sub := [34]) (i := i) (by simp) hi
      rw [Lib.replaceK_hit _ _ _ _ i hi, qq_hit l i hi]
      rw [replaceK_qq k _ (by omega)]
      rfl
theorem replaceAll_qq (l : List UInt8) : Lib.replaceAll l [34] [34, 34] = qq l := by
  unfold Lib.replaceAll Lib.replace Lib.replaceNum
  rw [if_neg (by decide), if_pos (Or.inl (by omega))]
  exact replaceK_qq _ l (Nat.le_refl _)
theorem qq_len (l : List UInt8) : (qq l).length ≤ 2 * l.length := by
  induction l with
  | nil => simp [qq]
  | cons c l ih => rw [qq_cons, List.length_append, List.length_cons]; split <;> simp <;> omega
end Go.Proofs.YtipkjpcedfokhaaDoor.Lv

namespace Go.Proofs.YtipkjpcedfokhaaDoor.Lv
set_option linter.unusedVariables false
set_option linter.unusedSimpArgs false
open Go
theorem index_byte (q b : UInt8) (l : List UInt8) : Lib.index (b :: l) [q] = if b = q then 0 else if Lib.index l [q] = -1 then -1 else Lib.index l [q] + 1 := by
  show (if ([q] : List UInt8).isPrefixOf (b :: l) then (0 : Int) else if Lib.index l [q] == -1 then -1 else Lib.index l [q] + 1) = _
  have e : ([q] : List UInt8).isPrefixOf (b :: l) = (q == b) := by simp [List.isPrefixOf]
  rw [e]
  by_cases h : b = q
  · subst h; simp
  · have h2 : (q == b) = false := by simpa using fun e => h e.symm
    rw [h2, if_neg h]
    simp only [Bool.false_eq_true, if_false, beq_iff_eq]
/-- the pieces between blanks -/
def pcs : List UInt8 → List (List UInt8)
  | [] => [[]]
  | c :: l => if c = 32 then [] :: pcs l else match pcs l with
    | [] => [[c]]
    | p :: ps => (c :: p) :: ps
theorem pcs_ne : ∀ l, pcs l ≠ []
  | [] => by simp [pcs]
  | c :: l => by
    unfold pcs
    split
    · simp
    · split <;> simp
theorem pcs_miss : ∀ (l : List UInt8), Lib.index l [32] = -1 → pcs l = [l]
  | [], _ => rfl
  | b :: l, h => by
    rw [index_byte] at h
    by_cases c : b = 32
    · rw [if_pos c] at h; omega
    · rw [if_neg c] at h
      by_cases g : Lib.index l [32] = -1
      · unfold pcs; rw [if_neg c, pcs_miss l g]
      · rw [if_neg g] at h
        have := Lib.index_ge l [32]
        omega
theorem pcs_hit : ∀ (l : List UInt8) (i : Nat), Lib.index l [32] = i → pcs l = l.take i :: pcs (l.drop (i + 1))
  | [], i, h => by unfold Lib.index at h; simp at h
  | b :: l, i, h => by
    rw [index_byte] at h
    by_cases c : b = 32
    · rw [if_pos c] at h
      obtain rfl : i = 0 := by omega
      conv => lhs; unfold pcs
      rw [if_pos c]; rfl
    · rw [if_neg c] at h
      by_cases g : Lib.index l [32] = -1
      · rw [if_pos g] at h; omega
      · rw [if_neg g] at h
        have ge := Lib.index_ge l [32]
        obtain ⟨j, hj⟩ : ∃ j : Nat, Lib.index l [32] = j := ⟨(Lib.index l [32]).toNat, by omega⟩
        obtain rfl : i = j + 1 := by omega
        conv => lhs; unfold pcs
        rw [if_neg c, pcs_hit l j hj]
        simp
theorem splitK_pcs : ∀ (k : Nat) (l : List UInt8), Lib.count l [32] ≤ k → Lib.splitK [32] 0 k l = pcs l
  | 0, l, h => by
    by_cases g : Lib.index l [32] = -1
    · rw [pcs_miss l g]; rfl
    · have ge := Lib.index_ge l [32]
      have := Lib.count_hit (s := l) (sub := [32]) (i := (Lib.index l [32]).toNat) (by simp) (by omega)
      omega
  | k + 1, l, h => by
    by_cases g : Lib.index l [32] = -1
    · rw [pcs_miss l g]
      unfold Lib.splitK
      rw [if_pos (by simpa using g)]
    · have ge := Lib.index_ge l [32]
      obtain ⟨i, hi⟩ : ∃ i : Nat, Lib.index l [32] = i := ⟨(Lib.index l [32]).toNat, by omega⟩
      have c := Lib.count_hit (s := l) (sub := [32]) (i := i) (by simp) hi
      unfold Lib.splitK
      rw [if_neg (by simpa using g), pcs_hit l i hi, hi]
      rw [show ((i : Int)).toNat = i by omega, Nat.add_zero, show ([32] : List UInt8).length = 1 from rfl, splitK_pcs k _ (by rw [show ([32] : List UInt8).length = 1 from rfl] at c; omega)]
def words (l : List UInt8) : List (List UInt8) := (pcs l).filter (fun p => !p.isEmpty)
def trim (l : List UInt8) : List UInt8 := Lib.join (words l) [32]
/-- the last piece apart -/
theorem pcs_snoc : ∀ (l : List UInt8) (c : UInt8), ∃ ps p, pcs l = ps ++ [p] ∧ (p = [] ↔ (l = [] ∨ l.getLast? = some 32)) ∧ pcs (l ++ [c]) = if c = 32 then ps ++ [p] ++ [[]] else ps ++ [p ++ [c]]
  | [], c => by
    refine ⟨[], [], rfl, by simp, ?_⟩
    by_cases h : c = 32
    · simp [pcs, h]
    · simp [pcs, h]
  | b :: l, c => by
    obtain ⟨ps, p, h1, h2, h3⟩ := pcs_snoc l c
    have gl : (b :: l).getLast? = some 32 ↔ (l = [] ∧ b = 32) ∨ (l ≠ [] ∧ l.getLast? = some 32) := by
      cases l with
      | nil => simp
      | cons x y => rw [List.getLast?_cons_cons]; simp
    by_cases hb : b = 32
    · refine ⟨[] :: ps, p, by conv => lhs; unfold pcs
                              rw [if_pos hb, h1]; rfl, ?_, ?_⟩
      · rw [h2, gl]
        constructor
        · rintro (h | h)
          · exact Or.inr (Or.inl ⟨h, hb⟩)
          · exact Or.inr (Or.inr ⟨by intro e; subst e; simp at h, h⟩)
        · rintro (h | ⟨h, _⟩ | ⟨_, h⟩)
          · simp at h
          · exact Or.inl h
          · exact Or.inr h
      · rw [List.cons_append]
        conv => lhs; unfold pcs
        rw [if_pos hb, h3]
        split <;> rfl
    · rcases ps with _ | ⟨q, ps⟩
      · refine ⟨[], b :: p, by conv => lhs; unfold pcs
                               rw [if_neg hb, h1]; rfl, ?_, ?_⟩
        · rw [gl]
          constructor
          · intro h; simp at h
          · rintro (h | ⟨_, h⟩ | ⟨h, h'⟩)
            · simp at h
            · exact absurd h hb
            · exfalso
              have pe := h2.2 (Or.inr h')
              subst pe
              -- the only piece is empty: then there is no blank in l
              exact pcs_one_empty h1 h
        · rw [List.cons_append]
          conv => lhs; unfold pcs
          rw [if_neg hb, h3]
          by_cases h32 : c = 32 <;> simp [h32]
      · refine ⟨(b :: q) :: ps, p, by conv => lhs; unfold pcs
                                      rw [if_neg hb, h1]; rfl, ?_, ?_⟩
        · rw [h2, gl]
          constructor
          · rintro (h | h)
            · exfalso; subst h; simp [pcs] at h1
            · exact Or.inr (Or.inr ⟨by intro e; subst e; simp at h, h⟩)
          · rintro (h | ⟨_, h⟩ | ⟨_, h⟩)
            · simp at h
            · exact absurd h hb
            · exact Or.inr h
        · rw [List.cons_append]
          conv => lhs; unfold pcs
          rw [if_neg hb, h3]
          by_cases h32 : c = 32 <;> simp [h32]
where
  pcs_one_empty {l : List UInt8} (h : pcs l = [] ++ [[]]) (hne : l ≠ []) : False := by
    cases l with
    | nil => exact hne rfl
    | cons b l =>
      unfold pcs at h
      split at h
      · have := pcs_ne l
        simp at h
        exact this h
      · split at h <;> simp at h
theorem join_snoc (xs : List (List UInt8)) (y : List UInt8) : Lib.join (xs ++ [y]) [32] = if xs = [] then y else Lib.join xs [32] ++ 32 :: y := by
  cases xs with
  | nil => simp [Lib.join_one]
  | cons x r =>
    rw [if_neg (by simp), List.cons_append, Lib.join_cons, Lib.join_cons]
    unfold Lib.joinTail
    simp
theorem join_ne {xs : List (List UInt8)} (h : ∀ x ∈ xs, x ≠ []) : Lib.join xs [32] = [] ↔ xs = [] := by
  cases xs with
  | nil => simp [Lib.join_nil]
  | cons x r =>
    rw [Lib.join_cons]
    have := h x (by simp)
    simp [this]
theorem words_ne (ps : List (List UInt8)) : ∀ x ∈ ps.filter (fun p => !p.isEmpty), x ≠ [] := fun x hx => by
  have := (List.mem_filter.1 hx).2
  simpa using this
theorem trim_nil : trim [] = [] := rfl
/-- one byte more -/
theorem trim_snoc (l : List UInt8) (c : UInt8) : trim (l ++ [c]) = if c = 32 then trim l else if trim l ≠ [] ∧ l.getLast? = some 32 then trim l ++ [32, c] else trim l ++ [c] := by
  obtain ⟨ps, p, h1, h2, h3⟩ := pcs_snoc l c
  unfold trim words
  rw [h1, h3]
  by_cases hc : c = 32
  · rw [if_pos hc, if_pos hc, List.filter_append]; simp
  · rw [if_neg hc, if_neg hc, List.filter_append, List.filter_append]
    have e1 : [p ++ [c]].filter (fun p => !p.isEmpty) = [p ++ [c]] := by simp
    rw [e1, join_snoc]
    have wn := join_ne (words_ne ps)
    by_cases hp : p = []
    · have e2 : [p].filter (fun p => !p.isEmpty) = [] := by rw [hp]; rfl
      rw [e2, List.append_nil, hp, List.nil_append]
      by_cases f : ps.filter (fun p => !p.isEmpty) = []
      · rw [if_pos f, f, Lib.join_nil]; simp
      · rw [if_neg f]
        have lb : l.getLast? = some 32 := by
          rcases h2.1 hp with h | h
          · exfalso; subst h
            have : ps = [] := by
              have e := congrArg List.length h1
              simp [pcs] at e; exact e
            subst this; exact f rfl
          · exact h
        rw [if_pos ⟨fun e => f (wn.1 e), lb⟩]
    · have e2 : [p].filter (fun p => !p.isEmpty) = [p] := by
        have : p.isEmpty = false := by simpa using hp
        simp [this]
      rw [e2, join_snoc]
      have nb : ¬ (l.getLast? = some 32) := fun h => hp (h2.2 (Or.inr h))
      rw [if_neg (show ¬ (_ ∧ l.getLast? = some 32) from fun h => nb h.2)]
      split <;> simp
theorem trim_len (l : List UInt8) : (trim l).length ≤ l.length := by
  suffices h : ∀ l : List UInt8, (trim l.reverse).length ≤ l.length ∧ ((trim l.reverse) ≠ [] → l.reverse.getLast? = some 32 → (trim l.reverse).length + 1 ≤ l.length) by
    have := (h l.reverse).1; simpa using this
  intro l
  induction l with
  | nil => simp [trim_nil]
  | cons c l ih =>
    rw [List.reverse_cons, trim_snoc, List.length_cons]
    obtain ⟨i1, i2⟩ := ih
    by_cases hc : c = 32
    · rw [if_pos hc]
      exact ⟨by omega, fun _ _ => by omega⟩
    · rw [if_neg hc]
      have g : ((l.reverse ++ [c]).getLast? = some 32) → False := fun h => by simp at h; exact hc h
      by_cases k : trim l.reverse ≠ [] ∧ l.reverse.getLast? = some 32
      · rw [if_pos k]
        have := i2 k.1 k.2
        refine ⟨by simp; omega, fun _ h => (g h).elim⟩
      · rw [if_neg k]
        refine ⟨by simp; omega, fun _ h => (g h).elim⟩
end Go.Proofs.YtipkjpcedfokhaaDoor.Lv

namespace Go.Proofs.YtipkjpcedfokhaaDoor.Lv
set_option linter.unusedVariables false
set_option linter.unusedSimpArgs false
open Go
theorem snoc_ind8 {P : List UInt8 → Prop} (h0 : P []) (h1 : ∀ l c, P l → P (l ++ [c])) : ∀ l, P l := by
  have h : ∀ l : List UInt8, P l.reverse := by
    intro l
    induction l with
    | nil => exact h0
    | cons a l ih => rw [List.reverse_cons]; exact h1 _ _ ih
  intro l
  have := h l.reverse
  rwa [List.reverse_reverse] at this
def keep (l : List UInt8) : List UInt8 := l.filter (fun c => decide (c ≠ 32))
theorem keep_append (l m : List UInt8) : keep (l ++ m) = keep l ++ keep m := List.filter_append ..
theorem keep_trim : ∀ l : List UInt8, keep (trim l) = keep l := by
  refine snoc_ind8 rfl ?_
  intro l c ih
  rw [trim_snoc, keep_append]
  by_cases h : c = 32
  · subst h
    rw [if_pos rfl, ih, show keep [32] = [] from rfl, List.append_nil]
  · rw [if_neg h]
    have k1 : keep [c] = [c] := by unfold keep; simp [h]
    split
    · rw [keep_append, ih, show [32, c] = [32] ++ [c] from rfl, keep_append, show keep [32] = [] from rfl, List.nil_append]
    · rw [keep_append, ih]
theorem upB_blank (c : UInt8) : upB c = 32 ↔ c = 32 := by
  constructor
  · intro h
    apply UInt8.toNat_inj.1
    have e := congrArg UInt8.toNat h
    rw [upB_toNat] at e
    unfold up8 at e
    have e32 : (32 : UInt8).toNat = 32 := rfl
    rw [e32] at e ⊢
    split at e
    · omega
    · exact e
  · rintro rfl; rfl
theorem last_upper (l : List UInt8) : (upper l).getLast? = some 32 ↔ l.getLast? = some 32 := by
  unfold upper
  rw [List.getLast?_map]
  cases l.getLast? with
  | none => simp
  | some c => simp [upB_blank]
theorem upper_trim : ∀ l : List UInt8, upper (trim l) = trim (upper l) := by
  refine snoc_ind8 rfl ?_
  intro l c ih
  have e : upper (l ++ [c]) = upper l ++ [upB c] := by unfold upper; simp
  rw [e, trim_snoc, trim_snoc, ← ih]
  by_cases h : c = 32
  · rw [if_pos h, if_pos ((upB_blank c).2 h)]
  · rw [if_neg h, if_neg (fun x => h ((upB_blank c).1 x))]
    have en : upper (trim l) ≠ [] ↔ trim l ≠ [] := by unfold upper; simp
    by_cases k : trim l ≠ [] ∧ l.getLast? = some 32
    · rw [if_pos k, if_pos ⟨en.2 k.1, (last_upper l).2 k.2⟩]; unfold upper; simp; rfl
    · rw [if_neg k, if_neg (fun x => k ⟨en.1 x.1, (last_upper l).1 x.2⟩)]; unfold upper; simp
theorem trim_front : ∀ l : List UInt8, trim (32 :: l) = trim l := by
  refine snoc_ind8 rfl ?_
  intro l c ih
  have e : 32 :: (l ++ [c]) = (32 :: l) ++ [c] := rfl
  rw [e, trim_snoc, trim_snoc, ih]
  by_cases h : c = 32
  · rw [if_pos h, if_pos h]
  · rw [if_neg h, if_neg h]
    by_cases n : l = []
    · subst n; rw [if_neg (fun x => x.1 rfl), if_neg (fun x => x.1 rfl)]
    · have g : (32 :: l).getLast? = l.getLast? := by
        cases l with
        | nil => exact absurd rfl n
        | cons a b => rw [List.getLast?_cons_cons]
      rw [g]
theorem trim_around (l : List UInt8) : trim (32 :: (l ++ [32, 32])) = trim l := by
  rw [trim_front, show l ++ [32, 32] = (l ++ [32]) ++ [32] by simp, trim_snoc, if_pos rfl, trim_snoc, if_pos rfl]
/-- what is trimmed at a place goes on from what was trimmed before -/
theorem trim_prefix (l : List UInt8) : ∀ m : List UInt8, ∃ r, trim (l ++ m) = trim l ++ r := by
  refine snoc_ind8 ⟨[], by simp⟩ ?_
  intro m c ih
  obtain ⟨r, hr⟩ := ih
  rw [← List.append_assoc, trim_snoc, hr]
  split
  · exact ⟨r, rfl⟩
  · split
    · exact ⟨r ++ [32, c], by simp⟩
    · exact ⟨r ++ [c], by simp⟩
/-- no blank at an end, no two in a row -/
def Neat (t : List UInt8) : Prop := ∀ i, t[i]? = some 32 → 0 < i ∧ i + 1 < t.length ∧ t[i - 1]? ≠ some 32
theorem neat_nil : Neat [] := fun i h => by simp at h
theorem neat_snoc {t : List UInt8} {c : UInt8} (h : Neat t) (hc : c ≠ 32) : Neat (t ++ [c]) := fun i hi => by
  rcases Nat.lt_or_ge i t.length with g | g
  · rw [List.getElem?_append_left g] at hi
    obtain ⟨a, b, d⟩ := h i hi
    refine ⟨a, by rw [List.length_append, List.length_singleton]; omega, ?_⟩
    rw [List.getElem?_append_left (by omega)]; exact d
  · rw [List.getElem?_append_right g] at hi
    obtain ⟨j, hj⟩ : ∃ j, j = i - t.length := ⟨_, rfl⟩
    rw [← hj] at hi
    match j, hi with
    | 0, hi => simp at hi; exact absurd hi hc
    | j + 1, hi => simp at hi
theorem neat_last {t : List UInt8} (h : Neat t) (hn : t ≠ []) : t[t.length - 1]? ≠ some 32 := fun e => by
  have := h _ e
  have hp := List.length_pos_iff.2 hn
  omega
theorem neat_gap {t : List UInt8} {c : UInt8} (h : Neat t) (hn : t ≠ []) (hc : c ≠ 32) : Neat (t ++ [32, c]) := fun i hi => by
  have hp := List.length_pos_iff.2 hn
  rcases Nat.lt_or_ge i t.length with g | g
  · rw [List.getElem?_append_left g] at hi
    obtain ⟨a, b, d⟩ := h i hi
    refine ⟨a, by rw [List.length_append]; omega, ?_⟩
    rw [List.getElem?_append_left (by omega)]; exact d
  · rw [List.getElem?_append_right g] at hi
    obtain ⟨j, hj⟩ : ∃ j, j = i - t.length := ⟨_, rfl⟩
    rw [← hj] at hi
    match j, hi, hj with
    | 0, hi, hj =>
      refine ⟨by omega, by rw [List.length_append]; simp; omega, ?_⟩
      rw [List.getElem?_append_left (by omega), show i - 1 = t.length - 1 by omega]
      exact neat_last h hn
    | 1, hi, _ => simp at hi; exact absurd hi hc
    | j + 2, hi, _ => simp at hi
theorem trim_neat : ∀ l : List UInt8, Neat (trim l) := by
  refine snoc_ind8 neat_nil ?_
  intro l c ih
  rw [trim_snoc]
  by_cases h : c = 32
  · rw [if_pos h]; exact ih
  · rw [if_neg h]
    split
    · rename_i k; exact neat_gap ih k.1 h
    · exact neat_snoc ih h
/-- what is neat stays: a part up to a place that is no blank -/
theorem neat_take {t : List UInt8} (h : Neat t) : ∀ k, k ≤ t.length → (k = 0 ∨ t[k - 1]? ≠ some 32 → trim (t.take k) = t.take k) ∧ (k ≠ 0 → t[k - 1]? = some 32 → trim (t.take k) = t.take (k - 1))
  | 0, _ => ⟨fun _ => rfl, fun h => absurd rfl h⟩
  | k + 1, hk => by
    have ih := neat_take h k (by omega)
    have e : t.take (k + 1) = t.take k ++ [t[k]'(by omega)] := List.take_succ_eq_append_getElem (by omega)
    have ek : t[k]? = some (t[k]'(by omega)) := List.getElem?_eq_getElem (by omega)
    rw [show k + 1 - 1 = k by omega, e, trim_snoc]
    by_cases c : t[k]'(by omega) = 32
    · refine ⟨fun x => ?_, fun _ _ => ?_⟩
      · rcases x with x | x
        · omega
        · rw [ek, c] at x; exact absurd rfl x
      · rw [if_pos c]
        obtain ⟨a, _, d⟩ := h k (by rw [ek, c])
        exact ih.1 (Or.inr d)
    · refine ⟨fun _ => ?_, fun _ x => by rw [ek] at x; exact absurd (Option.some.inj x) c⟩
      rw [if_neg c]
      by_cases z : k = 0
      · subst z
        rw [if_neg (fun x => x.1 rfl)]; rfl
      · by_cases b : t[k - 1]? = some 32
        · have lb : (t.take k).getLast? = some 32 := by
            rw [List.getLast?_eq_getElem?, List.length_take, List.getElem?_take, Nat.min_eq_left (by omega), if_pos (by omega)]; exact b
          obtain ⟨a, _, _⟩ := h (k - 1) b
          rw [ih.2 z b]
          have ne : t.take (k - 1) ≠ [] := by
            intro x; have := congrArg List.length x; rw [List.length_take, List.length_nil, Nat.min_eq_left (by omega)] at this; omega
          rw [if_pos ⟨ne, lb⟩]
          have e2 : t.take k = t.take (k - 1) ++ [32] := by
            have hk1 : k - 1 < t.length := by omega
            have e3 := List.take_succ_eq_append_getElem hk1
            rw [show k - 1 + 1 = k by omega] at e3
            rw [e3]
            rw [List.getElem?_eq_getElem hk1] at b
            rw [Option.some.inj b]
          rw [e2]; simp
        · have lb : ¬ ((t.take k).getLast? = some 32) := by
            rw [List.getLast?_eq_getElem?, List.length_take, List.getElem?_take, Nat.min_eq_left (by omega), if_pos (by omega)]; exact b
          rw [ih.1 (Or.inr b), if_neg (fun x => lb x.2)]
theorem trim_trim (l : List UInt8) : trim (trim l) = trim l := by
  have h := trim_neat l
  have a := (neat_take h (trim l).length (Nat.le_refl _)).1 (by
    by_cases z : (trim l).length = 0
    · exact Or.inl z
    · exact Or.inr (neat_last h (by intro e; rw [e] at z; exact z rfl)))
  rwa [List.take_length] at a
end Go.Proofs.YtipkjpcedfokhaaDoor.Lv

namespace Go.Proofs.YtipkjpcedfokhaaDoor.Lv
set_option linter.unusedVariables false
set_option linter.unusedSimpArgs false
open Go
/-- what stands between the outer quotes, read; none: no literal -/
def unq : List UInt8 → Option (List UInt8)
  | [] => some []
  | [c] => if c = 34 then none else some [c]
  | c :: d :: r => if c = 34 then (if d = 34 then (unq r).map (34 :: ·) else none) else (unq (d :: r)).map (c :: ·)
theorem unq_ne {c : UInt8} (h : c ≠ 34) : ∀ l, unq (c :: l) = (unq l).map (c :: ·)
  | [] => by simp [unq, h]
  | d :: r => by simp [unq, h]
theorem unq_two (l : List UInt8) : unq (34 :: 34 :: l) = (unq l).map (34 :: ·) := by simp [unq]
theorem unq_bad {d : UInt8} (h : d ≠ 34) (l : List UInt8) : unq (34 :: d :: l) = none := by simp [unq, h]
theorem unq_one : unq [34] = none := by simp [unq]
theorem unq_qq : ∀ m : List UInt8, unq (qq m) = some m
  | [] => rfl
  | c :: m => by
    rw [qq_cons]
    by_cases h : c = 34
    · subst h; rw [if_pos rfl]; show unq (34 :: 34 :: qq m) = _; rw [unq_two, unq_qq m]; rfl
    · rw [if_neg h]; show unq (c :: qq m) = _; rw [unq_ne h, unq_qq m]; rfl
theorem qq_unq : ∀ l m : List UInt8, unq l = some m → qq m = l
  | [], m, h => by simp [unq] at h; subst h; rfl
  | [c], m, h => by
    by_cases e : c = 34
    · simp [unq, e] at h
    · simp [unq, e] at h; subst h; rw [qq_cons, if_neg e]; rfl
  | c :: d :: r, m, h => by
    by_cases e : c = 34
    · subst e
      by_cases g : d = 34
      · subst g
        rw [unq_two] at h
        obtain ⟨x, hx, rfl⟩ := Option.map_eq_some_iff.1 h
        rw [qq_cons, if_pos rfl, qq_unq r x hx]; rfl
      · rw [unq_bad g] at h; cases h
    · rw [unq_ne e] at h
      obtain ⟨x, hx, rfl⟩ := Option.map_eq_some_iff.1 h
      rw [qq_cons, if_neg e, qq_unq (d :: r) x hx]; rfl
theorem plain_append (l m : List UInt8) : plain (l ++ m) = (plain l && plain m) := List.all_append
theorem plain_qq : ∀ m : List UInt8, plain (qq m) = plain m
  | [] => rfl
  | c :: m => by
    rw [qq_cons, plain_append, plain_qq m]
    by_cases h : c = 34
    · subst h; rw [if_pos rfl]; show ((okB 34 && (okB 34 && true)) && plain m) = (okB 34 && plain m); rw [show okB 34 = true from by decide]; rfl
    · rw [if_neg h]; show ((okB c && true) && plain m) = (okB c && plain m); rw [Bool.and_true]
theorem plain_lit (m : List UInt8) : plain (34 :: (qq m ++ [34])) = plain m := by
  show (okB 34 && plain (qq m ++ [34])) = _
  rw [plain_append, plain_qq, show okB 34 = true from by decide, show plain [34] = true from by decide]; simp

/-- the rest between the quotes, from place i on -/
def rst (l : List UInt8) (i : Nat) : List UInt8 := (l.take (l.length - 1)).drop i
theorem rst_end (l : List UInt8) : unq (rst l (l.length - 1)) = some [] := by
  unfold rst; rw [List.drop_of_length_le (by rw [List.length_take]; omega)]; rfl
theorem rst_cons {l : List UInt8} {i : Nat} (h : i < l.length - 1) : rst l i = l[i]'(by omega) :: rst l (i + 1) := by
  unfold rst
  rw [List.drop_eq_getElem_cons (by rw [List.length_take]; omega), List.getElem_take]
theorem rst_ne {l : List UInt8} {i : Nat} (h : i < l.length - 1) (c : l[i]'(by omega) ≠ 34) : unq (rst l i) = (unq (rst l (i + 1))).map (l[i]'(by omega) :: ·) := by
  rw [rst_cons h, unq_ne c]
theorem rst_two {l : List UInt8} {i : Nat} (h : i + 1 < l.length - 1) (c : l[i]'(by omega) = 34) (d : l[i + 1]'(by omega) = 34) : unq (rst l i) = (unq (rst l (i + 2))).map (34 :: ·) := by
  rw [rst_cons (show i < l.length - 1 by omega), rst_cons h, c, d, unq_two]
theorem rst_bad {l : List UInt8} {i : Nat} (h : i + 1 < l.length - 1) (c : l[i]'(by omega) = 34) (d : l[i + 1]'(by omega) ≠ 34) : unq (rst l i) = none := by
  rw [rst_cons (show i < l.length - 1 by omega), rst_cons h, c, unq_bad d]
theorem rst_one {l : List UInt8} {i : Nat} (h : i + 1 = l.length - 1) (c : l[i]'(by omega) = 34) : unq (rst l i) = none := by
  rw [rst_cons (show i < l.length - 1 by omega), c, show rst l (i + 1) = [] from by unfold rst; rw [List.drop_of_length_le (by rw [List.length_take]; omega)], unq_one]
/-- what was read before, joined -/
def Sofar (l o : List UInt8) (i : Nat) : Prop := unq (rst l 1) = (unq (rst l i)).map (o ++ ·)
theorem sofar_start (l : List UInt8) : Sofar l [] 1 := by unfold Sofar; simp
theorem sofar_ne {l o : List UInt8} {i : Nat} (s : Sofar l o i) (h : i < l.length - 1) (c : l[i]'(by omega) ≠ 34) : Sofar l (o ++ [l[i]'(by omega)]) (i + 1) := by
  unfold Sofar at *; rw [s, rst_ne h c, Option.map_map]; congr 1; funext x; simp
theorem sofar_two {l o : List UInt8} {i : Nat} (s : Sofar l o i) (h : i + 1 < l.length - 1) (c : l[i]'(by omega) = 34) (d : l[i + 1]'(by omega) = 34) : Sofar l (o ++ [34]) (i + 2) := by
  unfold Sofar at *; rw [s, rst_two h c d, Option.map_map]; congr 1; funext x; simp
theorem sofar_bad {l o : List UInt8} {i : Nat} (s : Sofar l o i) (h : i + 1 < l.length - 1) (c : l[i]'(by omega) = 34) (d : l[i + 1]'(by omega) ≠ 34) : unq (rst l 1) = none := by
  unfold Sofar at *; rw [s, rst_bad h c d]; rfl
theorem sofar_one {l o : List UInt8} {i : Nat} (s : Sofar l o i) (h : i + 1 = l.length - 1) (c : l[i]'(by omega) = 34) : unq (rst l 1) = none := by
  unfold Sofar at *; rw [s, rst_one h c]; rfl
theorem sofar_end {l o : List UInt8} (s : Sofar l o (l.length - 1)) : unq (rst l 1) = some o := by
  unfold Sofar at *; rw [s, rst_end]; simp

/-- the outer form of a literal -/
def litB (l : List UInt8) : Bool := decide (2 ≤ l.length) && decide (l[0]? = some 34) && decide (l[l.length - 1]? = some 34) && plain l
def dUnq (l : List UInt8) : List UInt8 × Int := if litB l = true then (match unq (rst l 1) with | none => ([], 4) | some m => if 256 < m.length then ([], 5) else (m, 0)) else ([], 4)
theorem dUnq_no {l : List UInt8} (h : litB l = false) : dUnq l = ([], 4) := by unfold dUnq; rw [h]; rfl
theorem dUnq_none {l : List UInt8} (h : unq (rst l 1) = none) : dUnq l = ([], 4) := by unfold dUnq; rw [h]; simp
theorem dUnq_long {l m : List UInt8} (g : litB l = true) (h : unq (rst l 1) = some m) (c : 256 < m.length) : dUnq l = ([], 5) := by unfold dUnq; rw [h, g]; simp [c]
theorem dUnq_ok {l m : List UInt8} (g : litB l = true) (h : unq (rst l 1) = some m) (c : m.length ≤ 256) : dUnq l = (m, 0) := by
  unfold dUnq; rw [h, g]; simp; omega
theorem lit_short {l : List UInt8} (h : l.length < 2) : litB l = false := by unfold litB; rw [decide_eq_false (by omega)]; rfl
theorem lit_first {l : List UInt8} (h : l[0]? ≠ some 34) : litB l = false := by unfold litB; rw [decide_eq_false h]; simp
theorem lit_last {l : List UInt8} (h : l[l.length - 1]? ≠ some 34) : litB l = false := by unfold litB; rw [decide_eq_false h]; simp
theorem lit_plain {l : List UInt8} (h : plain l = false) : litB l = false := by unfold litB; rw [h]; simp
theorem lit_yes {l : List UInt8} (h : 2 ≤ l.length) (a : l[0]? = some 34) (b : l[l.length - 1]? = some 34) (c : plain l = true) : litB l = true := by unfold litB; rw [decide_eq_true h, decide_eq_true a, decide_eq_true b, c]; rfl
/-- the literal of a text is read as the text -/
theorem rst_lit (m : List UInt8) : rst (34 :: (m ++ [34])) 1 = m := by
  unfold rst
  simp
theorem unq_lit {m : List UInt8} (h : plain m = true) (c : m.length ≤ 256) : dUnq (34 :: (qq m ++ [34])) = (m, 0) := by
  refine dUnq_ok (lit_yes (by simp) (by simp) (by simp) (by rw [plain_lit, h])) ?_ c
  rw [rst_lit, unq_qq]
/-- what is read is written as the literal again -/
theorem lit_form {l : List UInt8} (g : litB l = true) : l = 34 :: (rst l 1 ++ [34]) := by
  unfold litB at g
  simp only [Bool.and_eq_true, decide_eq_true_eq] at g
  obtain ⟨⟨⟨h1, h2⟩, h3⟩, h4⟩ := g
  unfold rst
  apply List.ext_getElem?
  intro i
  by_cases a : i = 0
  · subst a; rw [h2]; rfl
  · obtain ⟨j, rfl⟩ : ∃ j, i = j + 1 := ⟨i - 1, by omega⟩
    rw [List.getElem?_cons_succ]
    by_cases b : j + 1 < l.length - 1
    · rw [List.getElem?_append_left (by simp; omega), List.getElem?_drop, List.getElem?_take, if_pos (by omega), Nat.add_comm]
    · by_cases d : j + 1 = l.length - 1
      · rw [List.getElem?_append_right (by simp; omega), d, h3]
        have : j - ((l.take (l.length - 1)).drop 1).length = 0 := by simp; omega
        rw [this]; rfl
      · rw [List.getElem?_eq_none (by omega), List.getElem?_eq_none (by simp; omega)]
theorem lit_unq {l m : List UInt8} (h : dUnq l = (m, 0)) : m.length ≤ 256 ∧ plain m = true ∧ 34 :: (qq m ++ [34]) = l := by
  by_cases g : litB l = true
  · cases e : unq (rst l 1) with
    | none => rw [dUnq_none e] at h; cases h
    | some x =>
      by_cases c : 256 < x.length
      · rw [dUnq_long g e c] at h; cases h
      · rw [dUnq_ok g e (by omega)] at h
        cases h
        have q := qq_unq _ _ e
        have f := lit_form g
        rw [← q] at f
        refine ⟨by omega, ?_, f.symm⟩
        rw [← plain_lit, ← f]
        unfold litB at g
        simp only [Bool.and_eq_true] at g
        exact g.2
  · rw [dUnq_no (by simpa using g)] at h; cases h
theorem dUnq_err (l : List UInt8) : (dUnq l).2 = 0 ∨ (dUnq l).2 = 4 ∨ (dUnq l).2 = 5 := by
  unfold dUnq
  split
  · split
    · simp
    · split <;> simp
  · simp
end Go.Proofs.YtipkjpcedfokhaaDoor.Lv

namespace Go.Proofs.YtipkjpcedfokhaaDoor.Lv
set_option linter.unusedVariables false
set_option linter.unusedSimpArgs false
open Go
/-- a number that has this sign and this distance from 0 -/
def sg (ng : Bool) (n : Int) : Int := if ng then -n else n
/-- the number, where it is in range -/
def fit (n : Int) : Int × Bool := if -9223372036854775807 ≤ n ∧ n ≤ 9223372036854775807 then (n, true) else (0, false)
/-- the quotient, rounded: a half to the greater number -/
def rnd (x d : Int) : Int := x / d + if d ≤ 2 * (x % d) then 1 else 0
def near (x d : Int) : Int × Bool := if d ≠ 0 ∧ x / d ≤ 9223372036854775807 then (rnd x d, true) else (0, false)
def abs (a : Int) : Int := if a < 0 then -a else a
def neg (a : Int) : Bool := decide (a < 0)
def scaled (a b d : Int) (ng : Bool) : Int × Bool := if d = 0 then (0, false) else fit (sg ng (rnd (a * b) d))
def dMul (a b : Int) : Int × Bool := fit (sg (neg a != neg b) (rnd (abs a * abs b) 10000))
def dQuo (a b : Int) : Int × Bool := if b = 0 then (0, false) else fit (sg (neg a != neg b) (rnd (abs a * 10000) (abs b)))
def dNeg (a : Int) : Int × Bool := fit (-a)
def i64 (a : Int) : Prop := -9223372036854775808 ≤ a ∧ a ≤ 9223372036854775807
def u64 (a : Int) : Prop := 0 ≤ a ∧ a ≤ 18446744073709551615

theorem fit_in {n : Int} (h : -9223372036854775807 ≤ n) (g : n ≤ 9223372036854775807) : fit n = (n, true) := if_pos ⟨h, g⟩
theorem fit_out {n : Int} (h : n < -9223372036854775807 ∨ 9223372036854775807 < n) : fit n = (0, false) := if_neg (by omega)
theorem abs_nonneg (a : Int) : 0 ≤ abs a := by unfold abs; split <;> omega
theorem abs_le {a : Int} (h : i64 a) : abs a ≤ 9223372036854775808 := by unfold abs; obtain ⟨h1, h2⟩ := h; split <;> omega
theorem rnd_bounds (x d : Int) : x / d ≤ rnd x d ∧ rnd x d ≤ x / d + 1 := by unfold rnd; split <;> omega
theorem abs_zero (b : Int) : abs b = 0 ↔ b = 0 := by unfold abs; split <;> omega

theorem sg_neg_abs (a : Int) : sg (neg a) (abs a) = a := by unfold sg neg abs; by_cases h : a < 0 <;> simp [h]
end Go.Proofs.YtipkjpcedfokhaaDoor.Lv

namespace Go.Proofs.YtipkjpcedfokhaaDoor.Lv
set_option linter.unusedVariables false
set_option linter.unusedSimpArgs false
open Go
theorem and_lo (t : Int) (h0 : 0 ≤ t) (h1 : t ≤ 18446744073709551615) : bits .and .u64 t 4294967295 = t % 4294967296 := and_low32 t h0 (by omega)

theorem wrap_in (x : Int) (h0 : 0 ≤ x) (h1 : x ≤ 18446744073709551615) : IntKind.u64.wrap x = x := by
  show x % 2 ^ 64 = x
  omega
theorem wrap_def (x : Int) : IntKind.u64.wrap x = x % 18446744073709551616 := rfl

/-- 'or' of a multiple of 2^k and a smaller number is the sum -/
theorem or_add (p k l : Nat) (hl : l < 2 ^ k) (hp : p * 2 ^ k + l < 18446744073709551616) : bits .or .u64 ((p * 2 ^ k : Nat) : Int) (l : Int) = ((p * 2 ^ k + l : Nat) : Int) := by
  rw [bits_or_u64_nat _ _ (by omega) (by omega)]
  rw [Nat.mul_comm, ← Nat.two_pow_add_eq_or_of_lt hl]

theorem shr_lt (lo k : Nat) (hk : k ≤ 64) (h : lo < 18446744073709551616) : lo / 2 ^ (64 - k) < 2 ^ k := by
  rw [Nat.div_lt_iff_lt_mul (Nat.two_pow_pos _), ← Nat.pow_add]
  have : k + (64 - k) = 64 := by omega
  rw [this]; omega

/-- the two upper digits: hi and the upper part of lo, shifted -/
theorem shift_split (hi lo k : Nat) (hk : k ≤ 64) : (hi * 18446744073709551616 + lo) * 2 ^ k = (hi * 2 ^ k + lo / 2 ^ (64 - k)) * 18446744073709551616 + lo * 2 ^ k % 18446744073709551616 := by
  have e : 2 ^ (64 - k) * 2 ^ k = 18446744073709551616 := by rw [← Nat.pow_add, show 64 - k + k = 64 from by omega]
  have h1 : lo * 2 ^ k / 18446744073709551616 = lo / 2 ^ (64 - k) := by
    rw [← e, Nat.mul_div_mul_right _ _ (Nat.two_pow_pos k)]
  have h2 := Nat.div_add_mod (lo * 2 ^ k) 18446744073709551616
  rw [h1] at h2
  generalize lo * 2 ^ k % 18446744073709551616 = m at *
  generalize lo / 2 ^ (64 - k) = l at *
  generalize 2 ^ k = t at *
  grind

theorem step_lo (B a b q r u1 u : Int) (hq : u = q * a + r) (h : q * b ≤ B * r + u1) : q * (a * B + b) ≤ u * B + u1 := by
  subst hq; grind
theorem step_hi (B a b q r u1 u : Int) (hq : u = q * a + r) (h : B * r + u1 < q * b) : u * B + u1 < q * (a * B + b) := by
  subst hq; grind

/-- what the loop that guesses a digit keeps -/
def Guess (u u1 a v : Int) (Q R : Int) : Prop := 0 ≤ Q ∧ Q ≤ 4294967297 ∧ 0 ≤ R ∧ u = Q * a + R ∧ (u * 4294967296 + u1) / v ≤ Q

structure Digit (u u1 a b v : Int) : Prop where
  u0 : 0 ≤ u
  uv : u < v
  l0 : 0 ≤ u1
  l1 : u1 < 4294967296
  a0 : 2147483648 ≤ a
  a1 : a < 4294967296
  b0 : 0 ≤ b
  b1 : b < 4294967296
  hv : v = a * 4294967296 + b

theorem Digit.lt {u u1 a b v : Int} (d : Digit u u1 a b v) : (u * 4294967296 + u1) / v < 4294967296 := by
  have h := d.uv; have h2 := d.l1; have h3 := d.u0
  apply Int.ediv_lt_of_lt_mul (by omega)
  omega

theorem Digit.qa {u u1 a b v : Int} (d : Digit u u1 a b v) : 0 ≤ u / a ∧ u / a ≤ 4294967297 ∧ 0 ≤ u - u / a * a ∧ u - u / a * a < a ∧ 0 ≤ u / a * a ∧ u / a * a ≤ u := by
  obtain ⟨u0, uv, l0, l1, a0, a1, b0, b1, hv⟩ := d
  have h1 := Int.emod_nonneg u (b := a) (by omega)
  have h2 := Int.emod_lt_of_pos u (b := a) (by omega)
  have h3 := Int.ediv_nonneg (a := u) (b := a) u0 (by omega)
  have h4 : u / a < 4294967298 := by
    apply Int.ediv_lt_of_lt_mul (by omega); omega
  have h5 : u / a * a = u - u % a := by have := Int.mul_ediv_add_emod u a; have := Int.mul_comm a (u / a); omega
  have h6 : 0 ≤ u / a * a := Int.mul_nonneg h3 (by omega)
  omega

theorem Digit.start {u u1 a b v : Int} (d : Digit u u1 a b v) : Guess u u1 a v (u / a) (u - u / a * a) := by
  have q := d.qa
  obtain ⟨q1, q2, q3, q4, q5, q6⟩ := q
  refine ⟨q1, q2, q3, by omega, ?_⟩
  obtain ⟨u0, uv, l0, l1, a0, a1, b0, b1, hv⟩ := d
  have h : (u * 4294967296 + u1) / v < u / a + 1 := by
    apply Int.ediv_lt_of_lt_mul (by omega)
    generalize u / a = q at *
    subst hv
    have e : u = q * a + (u - q * a) := by omega
    generalize u - q * a = r at *
    subst e
    have : q * b ≥ 0 := Int.mul_nonneg q1 b0
    have e2 : (q + 1) * (a * 4294967296 + b) = q * a * 4294967296 + q * b + a * 4294967296 + b := by grind
    rw [e2]; omega
  omega

/-- a guess that is not too great is the digit -/
theorem Guess.done {u u1 a b v Q R : Int} (d : Digit u u1 a b v) (g : Guess u u1 a v Q R) (h : Q * b ≤ 4294967296 * R + u1) : Q = (u * 4294967296 + u1) / v := by
  obtain ⟨g1, g2, g3, g4, g5⟩ := g
  have h6 := step_lo 4294967296 a b Q R u1 u g4 h
  rw [← d.hv] at h6
  have := (Int.le_ediv_iff_mul_le (c := v) (a := Q) (b := u * 4294967296 + u1) (by have := d.uv; have := d.u0; omega)).2 h6
  omega

/-- the rest has grown past a digit: the guess is right -/
theorem Guess.past {u u1 a b v Q R : Int} (d : Digit u u1 a b v) (g : Guess u u1 a v Q R) (hQ : Q ≤ 4294967296) (h : 4294967296 ≤ R) : Q = (u * 4294967296 + u1) / v := by
  refine g.done d ?_
  obtain ⟨g1, g2, g3, g4, g5⟩ := g
  have h1 : Q * b ≤ 4294967296 * b := Int.mul_le_mul_of_nonneg_right hQ d.b0
  have := d.b1; have := d.l0; have := d.b0
  omega

/-- a guess that is too great, made smaller by one -/
theorem Guess.less {u u1 a b v Q R : Int} (d : Digit u u1 a b v) (g : Guess u u1 a v Q R) (h : 4294967296 ≤ Q ∨ 4294967296 * R + u1 < Q * b) : 1 ≤ Q ∧ Guess u u1 a v (Q - 1) (R + a) := by
  obtain ⟨g1, g2, g3, g4, g5⟩ := g
  have hl := d.lt
  have ha := d.a0
  have hd : (u * 4294967296 + u1) / v < Q := by
    rcases h with h | h
    · omega
    · have h6 := step_hi 4294967296 a b Q R u1 u g4 h
      rw [← d.hv] at h6
      exact Int.ediv_lt_of_lt_mul (by have := d.uv; have := d.u0; omega) h6
  have h7 : 0 ≤ (u * 4294967296 + u1) / v := Int.ediv_nonneg (by have := d.u0; have := d.l0; omega) (by have := d.uv; have := d.u0; omega)
  refine ⟨by omega, by omega, by omega, by omega, ?_, by omega⟩
  rw [g4]; grind

/-- bounds for the walk -/
theorem Guess.bounds {u u1 a b v Q R : Int} (d : Digit u u1 a b v) (g : Guess u u1 a v Q R) : 0 ≤ Q * b ∧ Q * b ≤ 18446744073709551615 := by
  obtain ⟨g1, g2, g3, g4, g5⟩ := g
  have h1 : Q * b ≤ 4294967297 * b := Int.mul_le_mul_of_nonneg_right g2 d.b0
  have h2 : 0 ≤ Q * b := Int.mul_nonneg g1 d.b0
  have := d.b1
  omega

/-- what is left behind a digit -/
theorem Digit.rest {u u1 a b v : Int} (d : Digit u u1 a b v) (hv : v ≤ 18446744073709551615) : IntKind.u64.wrap (IntKind.u64.wrap (IntKind.u64.wrap (u * 4294967296) + u1) - IntKind.u64.wrap ((u * 4294967296 + u1) / v * v)) = (u * 4294967296 + u1) % v := by
  have h1 := Int.mul_ediv_add_emod (u * 4294967296 + u1) v
  have h2 := Int.emod_lt_of_pos (u * 4294967296 + u1) (b := v) (by have := d.uv; have := d.u0; omega)
  have h3 := Int.emod_nonneg (u * 4294967296 + u1) (b := v) (by have := d.uv; have := d.u0; omega)
  rw [Int.mul_comm] at h1
  simp only [wrap_def]
  omega
end Go.Proofs.YtipkjpcedfokhaaDoor.Lv

namespace Go.Proofs.YtipkjpcedfokhaaDoor.Lv
set_option linter.unusedVariables false
set_option linter.unusedSimpArgs false
open Go
/-- a number of 128 bits out of its halves -/
def wd (h l : Int) : Int := h * 18446744073709551616 + l
def hi64 (n : Int) : Int := n / 18446744073709551616 % 18446744073709551616
def lo64 (n : Int) : Int := n % 18446744073709551616
theorem hi64_u (n : Int) : u64 (hi64 n) := by unfold hi64 u64; omega
theorem lo64_u (n : Int) : u64 (lo64 n) := by unfold lo64 u64; omega
theorem wd_hilo (n : Int) : wd (hi64 n) (lo64 n) = n % 340282366920938463463374607431768211456 := by unfold wd hi64 lo64; omega
theorem wd_in {n : Int} (h : 0 ≤ n) (g : n < 340282366920938463463374607431768211456) : wd (hi64 n) (lo64 n) = n := by rw [wd_hilo]; omega
theorem hi64_wd {h l : Int} (a : u64 h) (b : u64 l) : hi64 (wd h l) = h := by unfold hi64 wd; obtain ⟨a1, a2⟩ := a; obtain ⟨b1, b2⟩ := b; omega
theorem lo64_wd {h l : Int} (a : u64 h) (b : u64 l) : lo64 (wd h l) = l := by unfold lo64 wd; obtain ⟨a1, a2⟩ := a; obtain ⟨b1, b2⟩ := b; omega
end Go.Proofs.YtipkjpcedfokhaaDoor.Lv

namespace Go.Proofs.YtipkjpcedfokhaaDoor.Lv
set_option linter.unusedVariables false
set_option linter.unusedSimpArgs false
open Go
def dg : Nat → Nat → List UInt8
  | 0, _ => []
  | f + 1, n => if n < 10 then [UInt8.ofNat (48 + n)] else dg f (n / 10) ++ [UInt8.ofNat (48 + n % 10)]
theorem dg_fuel : ∀ (f n : Nat), n < 10 ^ f → 0 < f → dg f n = dg (f + 1) n
  | 0, _, _, h => absurd h (by omega)
  | 1, n, h, _ => by
    have : n < 10 := by simpa using h
    simp [dg, this]
  | f + 2, n, h, _ => by
    unfold dg
    by_cases c : n < 10
    · simp [c]
    · rw [if_neg c, if_neg c, dg_fuel (f + 1) (n / 10) (by rw [Nat.div_lt_iff_lt_mul (by omega)]; rw [Nat.pow_succ] at h; exact h) (by omega)]
/-- the decimal digits of a number -/
def digs (n : Nat) : List UInt8 := dg 20 n
theorem digs_lt {n : Nat} (h : n < 10) : digs n = [UInt8.ofNat (48 + n)] := by unfold digs dg; rw [if_pos h]
theorem digs_ge {n : Nat} (h : 10 ≤ n) (g : n < 100000000000000000000) : digs n = digs (n / 10) ++ [UInt8.ofNat (48 + n % 10)] := by
  have e : dg 19 (n / 10) = dg 20 (n / 10) := dg_fuel 19 (n / 10) (by omega) (by omega)
  show dg 20 n = dg 20 (n / 10) ++ _
  rw [← e]
  conv => lhs; unfold dg
  rw [if_neg (by omega)]
theorem digs_len {n : Nat} : ∀ (k : Nat), n < 10 ^ k → 0 < k → k ≤ 20 → (digs n).length ≤ k := by
  intro k
  induction k generalizing n with
  | zero => intro _ h; omega
  | succ k ih =>
    intro h _ hk
    have h20 : (10 : Nat) ^ (k + 1) ≤ 10 ^ 20 := Nat.pow_le_pow_right (by omega) hk
    by_cases c : n < 10
    · rw [digs_lt c]; simp
    · rw [digs_ge (by omega) (by omega)]
      have hk0 : 0 < k := by
        rcases Nat.eq_zero_or_pos k with h0 | h0
        · subst h0; simp at h; omega
        · exact h0
      have := ih (n := n / 10) (by rw [Nat.div_lt_iff_lt_mul (by omega)]; rw [Nat.pow_succ] at h; exact h) hk0 (by omega)
      simp; omega
theorem digs_pos (n : Nat) (g : n < 100000000000000000000) : 0 < (digs n).length := by
  by_cases c : n < 10
  · rw [digs_lt c]; simp
  · rw [digs_ge (by omega) g]; simp

/-- the 20 cells while digits are filled in from behind -/
def cells20 (S : List UInt8) : Array Value := (List.replicate (20 - S.length) (Value.int .u8 0) ++ S.map (fun b => Value.int .u8 b.toNat)).toArray
theorem cells20_nil : cells20 [] = #[.int .u8 0, .int .u8 0, .int .u8 0, .int .u8 0, .int .u8 0, .int .u8 0, .int .u8 0, .int .u8 0, .int .u8 0, .int .u8 0, .int .u8 0, .int .u8 0, .int .u8 0, .int .u8 0, .int .u8 0, .int .u8 0, .int .u8 0, .int .u8 0, .int .u8 0, .int .u8 0] := rfl
theorem cells20_cons {S : List UInt8} {c : UInt8} (h : S.length < 20) : (cells20 S).setIfInBounds (19 - S.length) (.int .u8 c.toNat) = cells20 (c :: S) := by
  unfold cells20
  apply Array.ext'
  simp only [List.setIfInBounds_toArray, List.length_cons, List.map_cons]
  rw [List.set_append_left _ _ (by simp; omega)]
  have e : 20 - S.length = (20 - (S.length + 1)) + 1 := by omega
  have e2 : 19 - S.length = 20 - (S.length + 1) := by omega
  rw [e, e2, List.replicate_succ', List.set_append_right _ _ (by simp)]
  simp
theorem cells20_get {S : List UInt8} (h : S.length ≤ 20) {i : Nat} (hi : i < S.length) : (cells20 S)[20 - S.length + i]? = some (.int .u8 ((S.map (fun b => (b.toNat : Int))).getD i 0)) := by
  unfold cells20
  simp only [List.getElem?_toArray]
  rw [List.getElem?_append_right (by simp)]
  simp [hi]
theorem cells20_some {S : List UInt8} (h : S.length ≤ 20) {i : Nat} (hi : i < 20) : ∃ v, (cells20 S)[i]? = some v := by
  have : i < (cells20 S).size := by unfold cells20; simp; omega
  exact ⟨_, Array.getElem?_eq_getElem this⟩

/-- without the zeros at the end -/
def strip (l : List UInt8) : List UInt8 := (l.reverse.dropWhile (· == 48)).reverse
theorem strip_zero (l : List UInt8) : strip (l ++ [48]) = strip l := by unfold strip; simp
theorem strip_other (l : List UInt8) {c : UInt8} (h : c ≠ 48) : strip (l ++ [c]) = l ++ [c] := by
  unfold strip
  rw [List.reverse_append]
  simp only [List.reverse_cons, List.reverse_nil, List.nil_append, List.singleton_append]
  rw [List.dropWhile_cons_of_neg (by simpa using h)]
  simp
/-- how layer 1 writes a number -/
def fmt (a : Int) : List UInt8 :=
  (if a < 0 then [45] else []) ++ digs (a.natAbs / 10000) ++ (if a.natAbs % 10000 = 0 then [] else 46 :: strip ((digs (10000 + a.natAbs % 10000)).drop 1))
/-- the four places -/
def four (p : Nat) : List UInt8 := [UInt8.ofNat (48 + p / 1000), UInt8.ofNat (48 + p / 100 % 10), UInt8.ofNat (48 + p / 10 % 10), UInt8.ofNat (48 + p % 10)]
theorem digs_four {p : Nat} (h : p < 10000) : digs (10000 + p) = 49 :: four p := by
  rw [digs_ge (by omega) (by omega), show (10000 + p) / 10 = 1000 + p / 10 by omega, digs_ge (by omega) (by omega), show (1000 + p / 10) / 10 = 100 + p / 100 by omega,
    digs_ge (by omega) (by omega), show (100 + p / 100) / 10 = 10 + p / 1000 by omega, digs_ge (by omega) (by omega), show (10 + p / 1000) / 10 = 1 by omega, digs_lt (by omega)]
  rw [show (10000 + p) % 10 = p % 10 by omega, show (1000 + p / 10) % 10 = p / 10 % 10 by omega, show (100 + p / 100) % 10 = p / 100 % 10 by omega, show (10 + p / 1000) % 10 = p / 1000 by omega]
  rfl
theorem digit_zero {d : Nat} (h : d < 10) : UInt8.ofNat (48 + d) = 48 ↔ d = 0 := by
  constructor
  · intro e
    have := congrArg UInt8.toNat e
    simp at this
    omega
  · rintro rfl; rfl
theorem four_some {p : Nat} (h : p < 10000) (h0 : p ≠ 0) : ∃ x ∈ four p, x ≠ 48 := by
  by_cases c0 : p % 10 = 0
  · by_cases c1 : p / 10 % 10 = 0
    · by_cases c2 : p / 100 % 10 = 0
      · exact ⟨UInt8.ofNat (48 + p / 1000), by simp [four], fun e => by rw [digit_zero (by omega)] at e; omega⟩
      · exact ⟨UInt8.ofNat (48 + p / 100 % 10), by simp [four], fun e => by rw [digit_zero (by omega)] at e; omega⟩
    · exact ⟨UInt8.ofNat (48 + p / 10 % 10), by simp [four], fun e => by rw [digit_zero (by omega)] at e; omega⟩
  · exact ⟨UInt8.ofNat (48 + p % 10), by simp [four], fun e => by rw [digit_zero (by omega)] at e; omega⟩
theorem fmt_12500 : fmt 12500 = [49, 46, 50, 53] := by decide
/-- a string's bytes, the last one apart -/
theorem last_apart {l : List UInt8} (h : 0 < l.length) : ∃ (m : List UInt8) (c : UInt8), l = m ++ [c] := by
  rcases List.eq_nil_or_concat l with h0 | ⟨m, c, h0⟩
  · subst h0; simp at h
  · exact ⟨m, c, by rw [h0, List.concat_eq_append]⟩
end Go.Proofs.YtipkjpcedfokhaaDoor.Lv

namespace Go.Proofs.YtipkjpcedfokhaaDoor.Lv
set_option linter.unusedVariables false
set_option linter.unusedSimpArgs false
open Go
def isD (c : UInt8) : Bool := decide (48 ≤ c.toNat ∧ c.toNat ≤ 57)
/-- how many digits a text begins with -/
def nd : List UInt8 → Nat
  | [] => 0
  | c :: l => if isD c then nd l + 1 else 0
theorem nd_le : ∀ l : List UInt8, nd l ≤ l.length
  | [] => Nat.le_refl _
  | c :: l => by have := nd_le l; unfold nd; split <;> simp <;> omega
theorem nd_step {l : List UInt8} {k : Nat} (h : k < l.length) (d : isD l[k] = true) : nd (l.drop k) = 1 + nd (l.drop (k + 1)) := by
  rw [List.drop_eq_getElem_cons h]
  show (if isD l[k] = true then nd (l.drop (k + 1)) + 1 else 0) = _
  rw [if_pos d]; omega
theorem nd_stop {l : List UInt8} {k : Nat} (h : k < l.length) (d : isD l[k] = false) : nd (l.drop k) = 0 := by
  rw [List.drop_eq_getElem_cons h]
  show (if isD l[k] = true then nd (l.drop (k + 1)) + 1 else 0) = _
  rw [if_neg (by simp [d])]
theorem nd_end {l : List UInt8} {k : Nat} (h : l.length ≤ k) : nd (l.drop k) = 0 := by rw [List.drop_eq_nil_of_le h]; rfl
/-- what stands behind the whole digits: the places -/
def frac : List UInt8 → Option (List UInt8)
  | [] => some []
  | c :: r => if c = 46 ∧ r ≠ [] ∧ nd r = r.length then some r else none
/-- the value of digits -/
def val (l : List UInt8) : Nat := l.foldl (fun v c => 10 * v + (c.toNat - 48)) 0
theorem val_snoc (l : List UInt8) (c : UInt8) : val (l ++ [c]) = 10 * val l + (c.toNat - 48) := by unfold val; rw [List.foldl_append]; rfl
def pad (r : List UInt8) : List UInt8 := r ++ [48, 48, 48, 48, 48]
def places (r : List UInt8) : List UInt8 := (pad r).take 4
def fifth (r : List UInt8) : UInt8 := (pad r).getD 4 48
def read (ng : Bool) (m : List UInt8) : Int × Int :=
  if nd m = 0 then (0, 4)
  else match frac (m.drop (nd m)) with
    | none => (0, 4)
    | some r =>
      let v : Int := val (m.take (nd m) ++ places r) + (if 53 ≤ (fifth r).toNat then 1 else 0)
      if v ≤ 9223372036854775807 then (sg ng v, 0) else (0, 3)
def dParse (l : List UInt8) : Int × Int := if l.head? = some 45 then read true l.tail else read false l
theorem val_take {l : List UInt8} {k : Nat} (h : k < l.length) : val (l.take (k + 1)) = 10 * val (l.take k) + (l[k].toNat - 48) := by
  rw [List.take_succ_eq_append_getElem h, val_snoc]
theorem nd_all : ∀ {l : List UInt8}, nd l = l.length → ∀ c ∈ l, isD c = true
  | [], _, c, hc => by cases hc
  | a :: l, h, c, hc => by
    by_cases d : isD a = true
    · have e : nd (a :: l) = nd l + 1 := if_pos d
      rw [e] at h
      rcases List.mem_cons.1 hc with rfl | hc
      · exact d
      · exact nd_all (by simpa using h) c hc
    · have e : nd (a :: l) = 0 := if_neg d
      rw [e] at h; simp at h
theorem isD_iff {c : UInt8} : isD c = true ↔ 48 ≤ c.toNat ∧ c.toNat ≤ 57 := by unfold isD; simp
end Go.Proofs.YtipkjpcedfokhaaDoor.Lv

namespace Go.Proofs.YtipkjpcedfokhaaDoor.Lv
set_option linter.unusedVariables false
set_option linter.unusedSimpArgs false
open Go

theorem val_mono : ∀ (m l : List UInt8), val l ≤ val (l ++ m)
  | [], l => by rw [List.append_nil]; exact Nat.le_refl _
  | c :: m, l => by
    have h := val_mono m (l ++ [c])
    rw [val_snoc, List.append_assoc] at h
    have e : l ++ ([c] ++ m) = l ++ c :: m := rfl
    rw [e] at h
    omega
theorem val_take_le (l : List UInt8) (k : Nat) : val (l.take k) ≤ val l := by
  have h := val_mono (l.drop k) (l.take k)
  rw [List.take_append_drop] at h
  exact h
theorem pad_get (r : List UInt8) {j : Nat} (h : j < r.length) : (pad r)[j]? = r[j]? := by unfold pad; rw [List.getElem?_append_left h]
theorem pad_zero (r : List UInt8) {j : Nat} (h : r.length ≤ j) (g : j < r.length + 5) : (pad r)[j]? = some 48 := by
  unfold pad
  rw [List.getElem?_append_right h]
  obtain ⟨i, hi⟩ : ∃ i, i = j - r.length := ⟨_, rfl⟩
  rw [← hi]
  match i, (show i < 5 by omega) with
  | 0, _ => rfl
  | 1, _ => rfl
  | 2, _ => rfl
  | 3, _ => rfl
  | 4, _ => rfl
theorem pad_len (r : List UInt8) : (pad r).length = r.length + 5 := by unfold pad; simp
theorem places_get (r : List UInt8) {j : Nat} (h : j < 4) : (places r)[j]? = (pad r)[j]? := by unfold places; rw [List.getElem?_take_of_lt h]
theorem places_len (r : List UInt8) : (places r).length = 4 := by unfold places; rw [List.length_take, pad_len]; omega
theorem val_take_some {l : List UInt8} {k : Nat} {c : UInt8} (h : l[k]? = some c) : val (l.take (k + 1)) = 10 * val (l.take k) + (c.toNat - 48) := by
  obtain ⟨hk, e⟩ := List.getElem?_eq_some_iff.1 h
  rw [val_take hk, e]
/-- the value of what was read up to place k -/
def upto (f P : Nat) (L : List UInt8) (k : Nat) : Nat := val (L.take (if k ≤ P then k - f else k - f - 1))
section
variable {pre wh t r : List UInt8} {f P n : Nat}
theorem upto_first {L : List UInt8} (h : f ≤ P) : upto f P L f = 0 := by unfold upto; rw [if_pos h, Nat.sub_self]; rfl
theorem upto_point {L : List UInt8} (h : f ≤ P) : upto f P L (P + 1) = upto f P L P := by
  unfold upto
  rw [if_neg (by omega), if_pos (Nat.le_refl _), show P + 1 - f - 1 = P - f by omega]
theorem upto_end {L : List UInt8} (h : f ≤ P) (hl : L.length = P - f + 4) : upto f P L (P + 5) = val L := by
  unfold upto
  rw [if_neg (by omega), show P + 5 - f - 1 = L.length by omega, List.take_length]
theorem upto_le {L : List UInt8} (h : f ≤ P) (hl : L.length = P - f + 4) (k : Nat) : upto f P L k ≤ upto f P L (P + 5) := by
  rw [upto_end h hl]; exact val_take_le _ _
theorem upto_low {L : List UInt8} {k : Nat} {c : UInt8} (h : f ≤ k) (hk : k < P) (e : L[k - f]? = some c) : upto f P L (k + 1) = 10 * upto f P L k + (c.toNat - 48) := by
  unfold upto
  rw [if_pos (by omega), if_pos (by omega), show k + 1 - f = k - f + 1 by omega, val_take_some e]
theorem upto_high {L : List UInt8} {k : Nat} {c : UInt8} (h : f ≤ P) (hk : P < k) (e : L[k - f - 1]? = some c) : upto f P L (k + 1) = 10 * upto f P L k + (c.toNat - 48) := by
  unfold upto
  rw [if_neg (by omega), if_neg (by omega), show k + 1 - f - 1 = k - f - 1 + 1 by omega, val_take_some e]
theorem digit_step (hw : ∀ c ∈ wh, isD c = true) (hr : ∀ c ∈ r, isD c = true) (ht : t = [] ∧ r = [] ∨ t = 46 :: r) (hf : pre.length = f) (hP : P = f + wh.length)
    (k : Nat) (h : k < (pre ++ (wh ++ t)).length) (h1 : f ≤ k) (h2 : k ≠ P) (h3 : k < P + 5) :
    48 ≤ ((pre ++ (wh ++ t))[k]).toNat ∧ ((pre ++ (wh ++ t))[k]).toNat ≤ 57 ∧ upto f P (wh ++ places r) (k + 1) = 10 * upto f P (wh ++ places r) k + (((pre ++ (wh ++ t))[k]).toNat - 48) := by
  obtain ⟨c, hc⟩ : ∃ c, c = (pre ++ (wh ++ t))[k] := ⟨_, rfl⟩
  rw [← hc]
  have e : (pre ++ (wh ++ t))[k]? = some c := by rw [hc, List.getElem?_eq_getElem]
  rw [List.getElem?_append_right (by omega), hf] at e
  by_cases lt : k < P
  · rw [List.getElem?_append_left (by omega)] at e
    have d := isD_iff.1 (hw c (List.mem_of_getElem? e))
    refine ⟨d.1, d.2, upto_low h1 lt ?_⟩
    rw [List.getElem?_append_left (by omega)]; exact e
  · rw [List.getElem?_append_right (by omega)] at e
    rcases ht with ⟨rfl, rfl⟩ | rfl
    · simp at e
    · rw [show k - f - wh.length = (k - f - 1 - wh.length) + 1 by omega, List.getElem?_cons_succ] at e
      have d := isD_iff.1 (hr c (List.mem_of_getElem? e))
      refine ⟨d.1, d.2, upto_high (by omega) (by omega) ?_⟩
      have hlt : k - f - 1 - wh.length < r.length := by
        obtain ⟨h, _⟩ := List.getElem?_eq_some_iff.1 e; exact h
      rw [List.getElem?_append_right (by omega), places_get _ (by omega), pad_get _ hlt]
      exact e
theorem zero_step (ht : t = [] ∧ r = [] ∨ t = 46 :: r) (hf : pre.length = f) (hP : P = f + wh.length)
    (k : Nat) (h : (pre ++ (wh ++ t)).length ≤ k) (h2 : k ≠ P) (h3 : k < P + 5) : upto f P (wh ++ places r) (k + 1) = 10 * upto f P (wh ++ places r) k := by
  rw [List.length_append, List.length_append] at h
  have e : (wh ++ places r)[k - f - 1]? = some 48 := by
    rw [List.getElem?_append_right (by omega), places_get _ (by omega), pad_zero]
    · rcases ht with ⟨rfl, rfl⟩ | rfl
      · simp
      · simp at h; omega
    · omega
  rw [upto_high (by omega) (by omega) e]
  rfl
end
theorem fifth_far (r : List UInt8) (h : r.length ≤ 4) : fifth r = 48 := by unfold fifth; rw [List.getD_eq_getElem?_getD, pad_zero r h (by omega)]; rfl
theorem fifth_near (r : List UInt8) (h : 4 < r.length) : r[4]? = some (fifth r) := by
  unfold fifth
  rw [List.getD_eq_getElem?_getD, pad_get r h, List.getElem?_eq_getElem h]; rfl
end Go.Proofs.YtipkjpcedfokhaaDoor.Lv

namespace Go.Proofs.YtipkjpcedfokhaaDoor.Lv
set_option linter.unusedVariables false
set_option linter.unusedSimpArgs false
open Go

theorem digit_nat {d : Nat} (h : d < 10) : (UInt8.ofNat (48 + d)).toNat = 48 + d := by simp; omega
theorem digit_isD {d : Nat} (h : d < 10) : isD (UInt8.ofNat (48 + d)) = true := isD_iff.2 (by rw [digit_nat h]; omega)
theorem digs_isD : ∀ (n : Nat), n < 100000000000000000000 → ∀ c ∈ digs n, isD c = true := by
  intro n
  induction n using Nat.strongRecOn with
  | ind n ih =>
    intro h c hc
    by_cases l : n < 10
    · rw [digs_lt l] at hc
      rw [List.mem_singleton] at hc
      subst hc; exact digit_isD l
    · rw [digs_ge (by omega) h] at hc
      rcases List.mem_append.1 hc with hc | hc
      · exact ih (n / 10) (by omega) (by omega) c hc
      · rw [List.mem_singleton] at hc
        have := digit_isD (d := n % 10) (by omega)
        subst hc; exact this
theorem val_digs : ∀ (n : Nat), n < 100000000000000000000 → val (digs n) = n := by
  intro n
  induction n using Nat.strongRecOn with
  | ind n ih =>
    intro h
    by_cases l : n < 10
    · rw [digs_lt l]
      show 10 * 0 + ((UInt8.ofNat (48 + n)).toNat - 48) = n
      rw [digit_nat l]; omega
    · rw [digs_ge (by omega) h, val_snoc, ih (n / 10) (by omega) (by omega), digit_nat (by omega)]
      omega
theorem val_four (l : List UInt8) {p : Nat} (h : p < 10000) : val (l ++ four p) = val l * 10000 + p := by
  have e : l ++ four p = (((l ++ [UInt8.ofNat (48 + p / 1000)]) ++ [UInt8.ofNat (48 + p / 100 % 10)]) ++ [UInt8.ofNat (48 + p / 10 % 10)]) ++ [UInt8.ofNat (48 + p % 10)] := by simp [four]
  rw [e, val_snoc, val_snoc, val_snoc, val_snoc, digit_nat (by omega), digit_nat (by omega), digit_nat (by omega), digit_nat (by omega)]
  omega
theorem four_isD {p : Nat} (h : p < 10000) : ∀ c ∈ four p, isD c = true := by
  intro c hc
  simp only [four, List.mem_cons, List.not_mem_nil, or_false] at hc
  rcases hc with rfl | rfl | rfl | rfl <;> exact digit_isD (by omega)
theorem nd_front : ∀ (l t : List UInt8), (∀ c ∈ l, isD c = true) → nd (l ++ t) = l.length + nd t
  | [], t, _ => by simp
  | a :: l, t, h => by
    have e : nd (a :: (l ++ t)) = nd (l ++ t) + 1 := if_pos (h a (by simp))
    rw [List.cons_append, e, nd_front l t (fun c hc => h c (by simp [hc])), List.length_cons]
    omega
theorem nd_whole {l : List UInt8} (h : ∀ c ∈ l, isD c = true) : nd l = l.length := by
  have := nd_front l [] h
  rw [List.append_nil] at this
  exact this
theorem snoc_ind {P : List UInt8 → Prop} (h0 : P []) (h1 : ∀ l c, P l → P (l ++ [c])) : ∀ l, P l := by
  have h : ∀ l : List UInt8, P l.reverse := by
    intro l
    induction l with
    | nil => exact h0
    | cons a l ih => rw [List.reverse_cons]; exact h1 _ _ ih
  intro l
  have := h l.reverse
  rwa [List.reverse_reverse] at this
/-- what strip leaves off are zeros -/
theorem strip_back : ∀ (l : List UInt8), ∃ k, l = strip l ++ List.replicate k 48 := by
  refine snoc_ind ⟨0, rfl⟩ ?_
  · intro l c ih
    by_cases h : c = 48
    · subst h
      obtain ⟨k, hk⟩ := ih
      refine ⟨k + 1, ?_⟩
      rw [strip_zero, List.replicate_succ', ← List.append_assoc, ← hk]
    · exact ⟨0, by rw [strip_other l h]; simp⟩
theorem strip_le (l : List UInt8) : (strip l).length ≤ l.length := by
  obtain ⟨k, hk⟩ := strip_back l
  have := congrArg List.length hk
  rw [List.length_append] at this
  omega
theorem strip_mem {l : List UInt8} {c : UInt8} (h : c ∈ strip l) : c ∈ l := by
  obtain ⟨k, hk⟩ := strip_back l
  rw [hk]; exact List.mem_append_left _ h
theorem places_strip {f : List UInt8} (h : f.length = 4) : places (strip f) = f := by
  obtain ⟨k, hk⟩ := strip_back f
  have hl := congrArg List.length hk
  rw [List.length_append, List.length_replicate] at hl
  have e : pad (strip f) = f ++ List.replicate (5 - k) 48 := by
    conv => rhs; rw [hk]
    unfold pad
    rw [List.append_assoc, List.replicate_append_replicate, show k + (5 - k) = 5 by omega]
    rfl
  unfold places
  rw [e, List.take_append_of_le_length (by omega), List.take_of_length_le (by omega)]
theorem strip_short {l : List UInt8} {k : Nat} {r : List UInt8} (h : l = r ++ List.replicate k 48) : (strip l).length ≤ r.length := by
  induction k generalizing l with
  | zero => rw [h]; simp; exact strip_le r
  | succ k ih =>
    rw [List.replicate_succ', ← List.append_assoc] at h
    rw [h, strip_zero]
    exact ih rfl
theorem strip_places (r : List UInt8) : (strip (places r)).length ≤ r.length := by
  by_cases h : 4 ≤ r.length
  · exact Nat.le_trans (strip_le _) (by rw [places_len]; exact h)
  · refine strip_short (k := 4 - r.length) ?_
    unfold places pad
    rw [List.take_append, List.take_of_length_le (by omega)]
    congr 1
    match r.length, (show r.length < 4 by omega) with
    | 0, _ => rfl
    | 1, _ => rfl
    | 2, _ => rfl
    | 3, _ => rfl
theorem strip_four_pos {p : Nat} (h : p < 10000) (h0 : p ≠ 0) : strip (four p) ≠ [] := by
  intro e
  obtain ⟨k, hk⟩ := strip_back (four p)
  rw [e, List.nil_append] at hk
  obtain ⟨x, hx, hx2⟩ := four_some h h0
  rw [hk] at hx
  exact hx2 (List.eq_of_mem_replicate hx)

theorem frac_dot {r : List UInt8} (h0 : r ≠ []) (h : nd r = r.length) : frac (46 :: r) = some r := if_pos ⟨rfl, h0, h⟩
theorem frac_of {t r : List UInt8} (h : frac t = some r) : (t = [] ∧ r = []) ∨ (t = 46 :: r ∧ r ≠ [] ∧ nd r = r.length) := by
  rcases t with _ | ⟨c, t⟩
  · left; simp [frac] at h; exact ⟨rfl, h⟩
  · by_cases g : c = 46 ∧ t ≠ [] ∧ nd t = t.length
    · rw [show frac (c :: t) = some t from if_pos g] at h
      have e : t = r := Option.some.inj h
      subst e
      exact Or.inr ⟨by rw [g.1], g.2.1, g.2.2⟩
    · rw [show frac (c :: t) = none from if_neg g] at h
      cases h
theorem isD_46 : isD 46 = false := rfl
theorem isD_45 : isD 45 = false := rfl
/-- what was written behind the sign is read again -/
theorem read_fmt (b : Bool) (n : Nat) (h : n ≤ 9223372036854775808) :
    read b (digs (n / 10000) ++ (if n % 10000 = 0 then [] else 46 :: strip ((digs (10000 + n % 10000)).drop 1))) = if n ≤ 9223372036854775807 then (sg b n, 0) else (0, 3) := by
  have hd := digs_isD (n / 10000) (by omega)
  have hp := digs_pos (n / 10000) (by omega)
  have hv := val_digs (n / 10000) (by omega)
  generalize digs (n / 10000) = D at *
  rw [digs_four (by omega), show (49 :: four (n % 10000)).drop 1 = four (n % 10000) from rfl]
  by_cases c : n % 10000 = 0
  · rw [if_pos c, List.append_nil]
    unfold read
    rw [nd_whole hd, if_neg (by omega), List.drop_length, List.take_length, show frac [] = some [] from rfl]
    have e : val (D ++ places []) = n := by
      rw [show places [] = four 0 from rfl, val_four D (by omega), hv]; omega
    show (if (val (D ++ places []) : Int) + 0 ≤ _ then (sg b ((val (D ++ places []) : Int) + 0), (0 : Int)) else (0, 3)) = _
    rw [e, Int.add_zero]
    by_cases g : n ≤ 9223372036854775807
    · rw [if_pos g, if_pos (by omega)]
    · rw [if_neg g, if_neg (by omega)]
  · rw [if_neg c]
    have hs := strip_four_pos (p := n % 10000) (by omega) c
    have hi : ∀ x ∈ strip (four (n % 10000)), isD x = true := fun x hx => four_isD (by omega) x (strip_mem hx)
    have hn : nd (D ++ 46 :: strip (four (n % 10000))) = D.length := by
      rw [nd_front D _ hd, show nd (46 :: strip (four (n % 10000))) = 0 from rfl]; rfl
    unfold read
    have e5 := fifth_far _ (strip_le (four (n % 10000)))
    have e6 := places_strip (f := four (n % 10000)) rfl
    rw [hn, if_neg (by omega), List.drop_left', List.take_left', frac_dot hs (nd_whole hi)]
    · simp only [e5, e6]
      have e : val (D ++ four (n % 10000)) = n := by rw [val_four D (by omega), hv]; omega
      show (if (val (D ++ four (n % 10000)) : Int) + 0 ≤ _ then (sg b ((val (D ++ four (n % 10000)) : Int) + 0), (0 : Int)) else (0, 3)) = _
      rw [e, Int.add_zero]
      by_cases g : n ≤ 9223372036854775807
      · rw [if_pos g, if_pos (by omega)]
      · rw [if_neg g, if_neg (by omega)]
    · rfl
    · rfl
theorem parse_fmt (a : Int) (h : a.natAbs ≤ 9223372036854775808) : dParse (fmt a) = if a.natAbs ≤ 9223372036854775807 then (a, 0) else (0, 3) := by
  unfold fmt dParse
  by_cases c : a < 0
  · rw [if_pos c, List.append_assoc]
    rw [List.singleton_append, if_pos (by rfl), List.tail_cons, read_fmt true a.natAbs h]
    rw [show sg true (a.natAbs : Int) = a by unfold sg; simp <;> omega]
  · rw [if_neg c, List.nil_append, if_neg, read_fmt false a.natAbs h]
    · rw [show sg false (a.natAbs : Int) = a by unfold sg; simp <;> omega]
    · have hp := digs_pos (a.natAbs / 10000) (by omega)
      have hd := digs_isD (a.natAbs / 10000) (by omega)
      rcases he : digs (a.natAbs / 10000) with _ | ⟨x, l⟩
      · rw [he] at hp; simp at hp
      · intro e
        have := hd x (by rw [he]; simp)
        simp at e
        rw [e] at this
        cases this
theorem val_lt : ∀ (l : List UInt8), (∀ c ∈ l, isD c = true) → val l < 10 ^ l.length := by
  refine snoc_ind (fun _ => by simp [val]) ?_
  · intro l c ih h
    have h1 := ih (fun x hx => h x (by simp [hx]))
    have h2 := isD_iff.1 (h c (by simp))
    rw [val_snoc, List.length_append, List.length_singleton, Nat.pow_succ]
    omega
theorem digs_short {v : Nat} {l : List UInt8} (hl : ∀ c ∈ l, isD c = true) (h0 : 0 < l.length) (hv : v ≤ val l) (hb : v < 100000000000000000000) : (digs v).length ≤ l.length := by
  by_cases c : l.length ≤ 20
  · exact digs_len l.length (Nat.lt_of_le_of_lt hv (val_lt l hl)) h0 c
  · have := digs_len (n := v) 20 (by omega) (by omega) (by omega)
    omega
theorem digs_next {v : Nat} {l : List UInt8} (hl : ∀ c ∈ l, isD c = true) (hv : v = val l + 1) (hb : v < 100000000000000000000) : (digs v).length ≤ l.length + 1 := by
  by_cases c : l.length + 1 ≤ 20
  · refine digs_len (l.length + 1) ?_ (by omega) c
    have := val_lt l hl
    rw [Nat.pow_succ]; omega
  · have := digs_len (n := v) 20 (by omega) (by omega) (by omega)
    omega
/-- four digits are the places of their value -/
theorem four_of : ∀ (f : List UInt8), f.length = 4 → (∀ c ∈ f, isD c = true) → ∃ p, p < 10000 ∧ f = four p := by
  intro f h hd
  match f, h with
  | [a, b, c, d], _ =>
    have ha := isD_iff.1 (hd a (by simp))
    have hb := isD_iff.1 (hd b (by simp))
    have hc := isD_iff.1 (hd c (by simp))
    have hd' := isD_iff.1 (hd d (by simp))
    refine ⟨(a.toNat - 48) * 1000 + (b.toNat - 48) * 100 + (c.toNat - 48) * 10 + (d.toNat - 48), by omega, ?_⟩
    unfold four
    congr 1
    · apply UInt8.toNat_inj.1; rw [digit_nat (by omega)]; omega
    congr 1
    · apply UInt8.toNat_inj.1; rw [digit_nat (by omega)]; omega
    congr 1
    · apply UInt8.toNat_inj.1; rw [digit_nat (by omega)]; omega
    congr 1
    · apply UInt8.toNat_inj.1; rw [digit_nat (by omega)]; omega
theorem take_isD : ∀ (m : List UInt8), ∀ c ∈ m.take (nd m), isD c = true
  | [], c, hc => by simp at hc
  | a :: m, c, hc => by
    by_cases d : isD a = true
    · have e : nd (a :: m) = nd m + 1 := if_pos d
      rw [e, List.take_succ_cons] at hc
      rcases List.mem_cons.1 hc with rfl | hc
      · exact d
      · exact take_isD m c hc
    · have e : nd (a :: m) = 0 := if_neg d
      rw [e] at hc; simp at hc
/-- the length of what is written -/
theorem fmt_len (b : Bool) (v : Nat) : (fmt (sg b v)).length ≤ (if b then 1 else 0) + (digs (v / 10000)).length + (if v % 10000 = 0 then 0 else 1 + (strip (four (v % 10000))).length) := by
  unfold fmt
  have e : (sg b (v : Int)).natAbs = v := by unfold sg; split <;> omega
  rw [e, digs_four (by omega), show (49 :: four (v % 10000)).drop 1 = four (v % 10000) from rfl]
  have s : (if sg b (v : Int) < 0 then [45] else ([] : List UInt8)).length ≤ if b then 1 else 0 := by
    by_cases hh : sg b (v : Int) < 0
    · rw [if_pos hh]
      cases b
      · exact absurd hh (by unfold sg; simp)
      · simp
    · rw [if_neg hh]; simp
  rw [List.length_append, List.length_append]
  have t : (if v % 10000 = 0 then [] else 46 :: strip (four (v % 10000))).length = if v % 10000 = 0 then 0 else 1 + (strip (four (v % 10000))).length := by
    split
    · rfl
    · simp; omega
  omega
theorem read_ok {b : Bool} {m : List UInt8} (h : (read b m).2 = 0) :
    ∃ (v : Nat), v ≤ 9223372036854775807 ∧ (read b m) = (sg b v, 0) ∧ (digs (v / 10000)).length + (if v % 10000 = 0 then 0 else 1 + (strip (four (v % 10000))).length) ≤ m.length := by
  by_cases n0 : nd m = 0
  · exfalso; unfold read at h; rw [if_pos n0] at h; simp at h
  · rcases hf : frac (m.drop (nd m)) with _ | r
    · exfalso; unfold read at h; rw [if_neg n0, hf] at h; simp at h
    · obtain ⟨v, hv⟩ : ∃ v : Nat, v = val (m.take (nd m) ++ places r) + (if 53 ≤ (fifth r).toNat then 1 else 0) := ⟨_, rfl⟩
      have e : read b m = if (v : Int) ≤ 9223372036854775807 then (sg b v, 0) else (0, 3) := by
        unfold read
        rw [if_neg n0, hf]
        have e2 : (v : Int) = (val (m.take (nd m) ++ places r) : Int) + (if 53 ≤ (fifth r).toNat then 1 else 0) := by rw [hv]; split <;> simp
        rw [e2]
      by_cases g : (v : Int) ≤ 9223372036854775807
      · rw [if_pos g] at e
        refine ⟨v, by omega, e, ?_⟩
        have ln := nd_le m
        have lw : (m.take (nd m)).length = nd m := by rw [List.length_take]; omega
        have hw := take_isD m
        have hr : ∀ c ∈ places r, isD c = true := by
          intro c hc
          rcases List.mem_append.1 (List.mem_of_mem_take hc) with h1 | h1
          · rcases frac_of hf with ⟨_, rfl⟩ | ⟨_, _, h3⟩
            · cases h1
            · exact nd_all h3 c h1
          · simp at h1; subst h1; rfl
        obtain ⟨p, hp, hpf⟩ := four_of (places r) (places_len r) hr
        have sp := strip_places r
        have lm : m.length = nd m + (m.drop (nd m)).length := by rw [List.length_drop]; omega
        rw [hpf, val_four _ hp] at hv
        rw [hpf] at sp
        by_cases five : 53 ≤ (fifth r).toNat
        · rw [if_pos five] at hv
          have r5 : 4 < r.length := by
            rcases Nat.lt_or_ge 4 r.length with h | h
            · exact h
            · rw [fifth_far r h] at five; exact absurd five (by decide)
          have lt : (m.drop (nd m)).length = 1 + r.length := by
            rcases frac_of hf with ⟨_, rfl⟩ | ⟨h1, _, _⟩
            · simp at r5
            · rw [h1]; simp; omega
          by_cases p9 : p = 9999
          · have v1 : v / 10000 = val (m.take (nd m)) + 1 := by omega
            have v2 : v % 10000 = 0 := by omega
            have := digs_next (v := v / 10000) hw v1 (by omega)
            rw [if_pos v2]; omega
          · have := digs_short (v := v / 10000) hw (by omega) (by omega) (by omega)
            have s4 := strip_le (four (v % 10000))
            have l4 : (four (v % 10000)).length = 4 := rfl
            split <;> omega
        · rw [if_neg five] at hv
          have v1 : v / 10000 = val (m.take (nd m)) := by omega
          have v2 : v % 10000 = p := by omega
          have := digs_short (v := v / 10000) hw (by omega) (by omega) (by omega)
          rw [v2]
          rcases frac_of hf with ⟨h1, rfl⟩ | ⟨h1, h2, _⟩
          · have p0 : p = 0 := by
              have e0 : val ([] ++ places []) = val ([] ++ four p) := by rw [hpf]
              rw [val_four [] hp, show val ([] ++ places []) = 0 from rfl, show val [] = 0 from rfl] at e0
              omega
            rw [if_pos p0]; omega
          · rw [h1, List.length_cons] at lm
            split <;> omega
      · exfalso; rw [e, if_neg g] at h; simp at h
/-- what is read is in range, and written not longer than it was -/
theorem parse_ok {l : List UInt8} (h : (dParse l).2 = 0) : ∃ n : Int, -9223372036854775807 ≤ n ∧ n ≤ 9223372036854775807 ∧ dParse l = (n, 0) ∧ (fmt n).length ≤ l.length := by
  unfold dParse at *
  rcases l with _ | ⟨c, m⟩
  · exfalso; simp [read, nd] at h
  · by_cases hc : c = 45
    · subst hc
      rw [if_pos (by rfl)] at *
      obtain ⟨v, v1, v2, v3⟩ := read_ok h
      refine ⟨sg true v, by unfold sg; simp <;> omega, by unfold sg; simp <;> omega, v2, ?_⟩
      have := fmt_len true v
      simp only [if_pos] at this
      rw [List.length_cons]
      rw [List.tail_cons] at v3
      omega
    · rw [if_neg (by simpa using hc)] at *
      obtain ⟨v, v1, v2, v3⟩ := read_ok h
      refine ⟨sg false v, by unfold sg; simp <;> omega, by unfold sg; simp <;> omega, v2, ?_⟩
      have := fmt_len false v
      simp only [Bool.false_eq_true, if_false] at this
      omega
end Go.Proofs.YtipkjpcedfokhaaDoor.Lv

namespace Go.Proofs.YtipkjpcedfokhaaDoor.Lv
set_option linter.unusedVariables false
set_option linter.unusedSimpArgs false
open Go
structure Vl where
  k : Nat
  n : Int
  t : List UInt8
def okT (t : List UInt8) : Bool := decide (t.length ≤ 256) && plain t
def vOk (v : Vl) : Bool :=
  if v.k = 0 then decide (v.n = 0 ∧ v.t = []) else if v.k = 1 then decide (v.t = [] ∧ v.n ≠ -9223372036854775808)
  else if v.k = 2 then decide (v.t = [] ∧ (v.n = 0 ∨ v.n = 1)) else if v.k = 3 then decide (v.n = 0) && okT v.t
  else if v.k = 4 then decide (v.t = [] ∧ 1 ≤ v.n ∧ v.n ≤ 6) else false
def vFail (c : Int) : Vl := ⟨4, if 1 ≤ c ∧ c ≤ 7 then c else 2, []⟩
def vMake (n : Int) : Vl := if n = -9223372036854775808 then vFail 3 else ⟨1, n, []⟩
def vTruth (b : Bool) : Vl := ⟨2, if b then 1 else 0, []⟩
def yesT : List UInt8 := [84, 82, 85, 69]
def noT : List UInt8 := [70, 65, 76, 83, 69]
def vRead (t : List UInt8) : Vl := if (dParse (trim t)).2 = 0 then vMake (dParse (trim t)).1 else if (dParse (trim t)).2 = 3 then vFail 3 else vFail 2
def vNamed (t : List UInt8) : Vl := if upper t = yesT then vTruth true else if upper t = noT then vTruth false else vFail 2
def vNum (v : Vl) : Vl := if vOk v = false then vFail 2 else if v.k = 0 then vMake 0 else if v.k = 2 then vMake (v.n * 10000) else if v.k = 3 then vRead v.t else v
def vTxt (v : Vl) : Vl := if vOk v = false then vFail 2 else if v.k = 0 then ⟨3, 0, []⟩ else if v.k = 1 then ⟨3, 0, fmt v.n⟩ else if v.k = 2 then ⟨3, 0, if v.n = 1 then yesT else noT⟩ else v
def vBool (v : Vl) : Vl := if vOk v = false then vFail 2 else if v.k = 0 then vTruth false else if v.k = 1 then vTruth (decide (v.n ≠ 0)) else if v.k = 3 then vNamed v.t else v
def name (c : Int) : List UInt8 :=
  if c = 1 then [35, 68, 73, 86, 47, 48, 33] else if c = 2 then [35, 86, 65, 76, 85, 69, 33] else if c = 3 then [35, 78, 85, 77, 33] else if c = 4 then [35, 78, 47, 65]
  else if c = 5 then [35, 82, 69, 70, 33] else if c = 6 then [35, 67, 89, 67, 76, 69, 33] else if c = 7 then [35, 68, 69, 78, 73, 69, 68] else []
def vShow (v : Vl) : List UInt8 := if v.k = 4 ∧ v.n = 7 ∧ v.t = [] then name 7 else if vOk v = false then [] else if v.k = 4 then name v.n else (vTxt v).t
def vCode (s : List UInt8) : Int × Int :=
  if upper s = name 1 then (1, 0) else if upper s = name 2 then (2, 0) else if upper s = name 3 then (3, 0) else if upper s = name 4 then (4, 0)
  else if upper s = name 5 then (5, 0) else if upper s = name 6 then (6, 0) else if upper s = name 7 then (7, 0) else (0, 4)
def side (v : Vl) (o : Nat) : Vl := if v.k = 0 then ⟨o, v.n, v.t⟩ else v
def rankV (k : Nat) : Int := if k = 1 then 1 else if k = 3 then 2 else 3
def sgn (a b : Int) : Int := if a < b then -1 else if b < a then 1 else 0
def vCmp1 (x y : Vl) : Int := if x.k ≠ y.k then sgn (rankV x.k) (rankV y.k) else if x.k = 3 then Lib.compareBytes (upper x.t) (upper y.t) else sgn x.n y.n
def canC (v : Vl) : Bool := vOk v && decide (v.k ≠ 4)
def vCmp (a b : Vl) : Int × Int := if canC a && canC b then (vCmp1 (side a b.k) (side b a.k), 0) else (0, 2)

theorem Vl.same {a b : Vl} (h1 : a.k = b.k) (h2 : a.n = b.n) (h3 : a.t = b.t) : a = b := by cases a; cases b; simp only at h1 h2 h3; subst h1; subst h2; subst h3; rfl
theorem ok0 {n : Int} {t : List UInt8} : vOk ⟨0, n, t⟩ = decide (n = 0 ∧ t = []) := rfl
theorem ok1 {n : Int} {t : List UInt8} : vOk ⟨1, n, t⟩ = decide (t = [] ∧ n ≠ -9223372036854775808) := rfl
theorem ok2 {n : Int} {t : List UInt8} : vOk ⟨2, n, t⟩ = decide (t = [] ∧ (n = 0 ∨ n = 1)) := rfl
theorem ok3 {n : Int} {t : List UInt8} : vOk ⟨3, n, t⟩ = (decide (n = 0) && okT t) := rfl
theorem ok4 {n : Int} {t : List UInt8} : vOk ⟨4, n, t⟩ = decide (t = [] ∧ 1 ≤ n ∧ n ≤ 6) := rfl
theorem ok5 {k : Nat} {n : Int} {t : List UInt8} (h : 5 ≤ k) : vOk ⟨k, n, t⟩ = false := by
  unfold vOk
  rw [if_neg (by simp only; omega), if_neg (by simp only; omega), if_neg (by simp only; omega), if_neg (by simp only; omega), if_neg (by simp only; omega)]
/-- a value of a cell, by kinds -/
theorem ok_cases {v : Vl} (h : vOk v = true) : v = ⟨0, 0, []⟩ ∨ (∃ n : Int, n ≠ -9223372036854775808 ∧ v = ⟨1, n, []⟩) ∨ v = vTruth false ∨ v = vTruth true ∨ (∃ t, okT t = true ∧ v = ⟨3, 0, t⟩) ∨ (∃ c : Int, 1 ≤ c ∧ c ≤ 6 ∧ v = ⟨4, c, []⟩) := by
  obtain ⟨k, n, t⟩ := v
  by_cases k0 : k = 0
  · subst k0; rw [ok0, decide_eq_true_eq] at h; obtain ⟨rfl, rfl⟩ := h; exact Or.inl rfl
  by_cases k1 : k = 1
  · subst k1; rw [ok1, decide_eq_true_eq] at h; obtain ⟨rfl, h⟩ := h; exact Or.inr (Or.inl ⟨n, h, rfl⟩)
  by_cases k2 : k = 2
  · subst k2; rw [ok2, decide_eq_true_eq] at h; obtain ⟨rfl, rfl | rfl⟩ := h
    · exact Or.inr (Or.inr (Or.inl rfl))
    · exact Or.inr (Or.inr (Or.inr (Or.inl rfl)))
  by_cases k3 : k = 3
  · subst k3; rw [ok3, Bool.and_eq_true, decide_eq_true_eq] at h; obtain ⟨rfl, h⟩ := h; exact Or.inr (Or.inr (Or.inr (Or.inr (Or.inl ⟨t, h, rfl⟩))))
  by_cases k4 : k = 4
  · subst k4; rw [ok4, decide_eq_true_eq] at h; obtain ⟨rfl, h1, h2⟩ := h; exact Or.inr (Or.inr (Or.inr (Or.inr (Or.inr ⟨n, h1, h2, rfl⟩))))
  · rw [ok5 (by omega)] at h; cases h
theorem fail_ok (c : Int) (h : c ≠ 7) : vOk (vFail c) = true := by
  unfold vFail; rw [ok4, decide_eq_true_eq]; refine ⟨rfl, ?_, ?_⟩ <;> split <;> omega
theorem make_ok (n : Int) : vOk (vMake n) = true := by
  unfold vMake; split
  · exact fail_ok 3 (by omega)
  · rw [ok1, decide_eq_true_eq]; exact ⟨rfl, by assumption⟩
theorem truth_ok (b : Bool) : vOk (vTruth b) = true := by cases b <;> rfl
theorem okT_yes : okT yesT = true := by decide
theorem okT_no : okT noT = true := by decide
theorem plain_of {l : List UInt8} (h : ∀ c ∈ l, okB c = true) : plain l = true := List.all_eq_true.2 h
theorem okB_digit {c : UInt8} (h : isD c = true) : okB c = true := by
  have := isD_iff.1 h
  unfold okB; rw [decide_eq_true_eq]; omega
theorem fmt_mem {a : Int} (h : a.natAbs ≤ 9223372036854775808) : ∀ c ∈ fmt a, c = 45 ∨ c = 46 ∨ isD c = true := by
  intro c hc
  unfold fmt at hc
  rw [digs_four (by omega)] at hc
  simp only [List.mem_append] at hc
  rcases hc with (hc | hc) | hc
  · split at hc
    · simp at hc; exact Or.inl hc
    · cases hc
  · exact Or.inr (Or.inr (digs_isD _ (by omega) c hc))
  · split at hc
    · cases hc
    · rcases List.mem_cons.1 hc with hc | hc
      · exact Or.inr (Or.inl hc)
      · exact Or.inr (Or.inr (four_isD (p := a.natAbs % 10000) (by omega) c (strip_mem hc)))
theorem fmt_short {a : Int} (h : a.natAbs ≤ 9223372036854775808) : (fmt a).length ≤ 26 := by
  have e : a = sg (decide (a < 0)) (a.natAbs : Int) := by unfold sg; by_cases c : a < 0 <;> simp [c] <;> omega
  have l := fmt_len (decide (a < 0)) a.natAbs
  rw [← e] at l
  have d := digs_len (n := a.natAbs / 10000) 20 (by omega) (by omega) (by omega)
  have s := strip_le (four (a.natAbs % 10000))
  have f : (four (a.natAbs % 10000)).length = 4 := rfl
  split at l <;> split at l <;> omega
theorem fmt_ok {a : Int} (h : a.natAbs ≤ 9223372036854775808) : okT (fmt a) = true := by
  unfold okT
  have := fmt_short h
  rw [decide_eq_true (by omega), Bool.true_and]
  refine plain_of fun c hc => ?_
  rcases fmt_mem h c hc with rfl | rfl | d
  · rfl
  · rfl
  · exact okB_digit d
theorem trim_id : ∀ l : List UInt8, (∀ c ∈ l, c ≠ 32) → trim l = l := by
  refine snoc_ind8 (fun _ => rfl) fun l c ih h => ?_
  have h2 : ∀ x ∈ l, x ≠ 32 := fun x hx => h x (List.mem_append_left _ hx)
  rw [trim_snoc, if_neg (h c (by simp)), if_neg, ih h2]
  rintro ⟨_, e⟩
  exact h2 32 (List.mem_of_getLast? e) rfl
theorem fmt_trim {a : Int} (h : a.natAbs ≤ 9223372036854775808) : trim (fmt a) = fmt a := by
  refine trim_id _ fun c hc => ?_
  rcases fmt_mem h c hc with rfl | rfl | d
  · decide
  · decide
  · rintro rfl; exact absurd d (by decide)
theorem read_ok2 (t : List UInt8) : vOk (vRead t) = true := by
  unfold vRead
  split
  · exact make_ok _
  · split <;> exact fail_ok _ (by omega)
theorem read_kind (t : List UInt8) : (vRead t).k = 1 ∨ (vRead t).k = 4 := by
  unfold vRead
  split
  · unfold vMake; split
    · exact Or.inr rfl
    · exact Or.inl rfl
  · split <;> exact Or.inr rfl
theorem named_ok (t : List UInt8) : vOk (vNamed t) = true := by
  unfold vNamed
  split
  · rfl
  · split
    · rfl
    · exact fail_ok _ (by omega)
theorem named_kind (t : List UInt8) : (vNamed t).k = 2 ∨ (vNamed t).k = 4 := by
  unfold vNamed
  split
  · exact Or.inl rfl
  · split
    · exact Or.inl rfl
    · exact Or.inr rfl
theorem make_kind (n : Int) : (vMake n).k = 1 ∨ (vMake n).k = 4 := by
  unfold vMake; split
  · exact Or.inr rfl
  · exact Or.inl rfl
theorem num_kinds (v : Vl) : vOk (vNum v) = true ∧ ((vNum v).k = 1 ∨ (vNum v).k = 4) := by
  by_cases h : vOk v = true
  · rcases ok_cases h with rfl | ⟨n, hn, rfl⟩ | rfl | rfl | ⟨t, ht, rfl⟩ | ⟨c, h1, h2, rfl⟩
    · exact ⟨rfl, Or.inl rfl⟩
    · unfold vNum; rw [h]; exact ⟨h, Or.inl rfl⟩
    · exact ⟨rfl, Or.inl rfl⟩
    · exact ⟨rfl, Or.inl rfl⟩
    · unfold vNum; rw [h]; exact ⟨read_ok2 t, read_kind t⟩
    · unfold vNum; rw [h]; exact ⟨h, Or.inr rfl⟩
  · unfold vNum; rw [if_pos (by simpa using h)]; exact ⟨rfl, Or.inr rfl⟩
theorem txt_kinds (v : Vl) (hv : v.n.natAbs ≤ 9223372036854775808) : vOk (vTxt v) = true ∧ ((vTxt v).k = 3 ∨ (vTxt v).k = 4) := by
  by_cases h : vOk v = true
  · rcases ok_cases h with rfl | ⟨n, hn, rfl⟩ | rfl | rfl | ⟨t, ht, rfl⟩ | ⟨c, h1, h2, rfl⟩
    · exact ⟨rfl, Or.inl rfl⟩
    · unfold vTxt; rw [h]; refine ⟨?_, Or.inl rfl⟩
      show vOk ⟨3, 0, fmt n⟩ = true
      rw [ok3, fmt_ok hv]; rfl
    · exact ⟨by decide, Or.inl rfl⟩
    · exact ⟨by decide, Or.inl rfl⟩
    · unfold vTxt; rw [h]; exact ⟨h, Or.inl rfl⟩
    · unfold vTxt; rw [h]; exact ⟨h, Or.inr rfl⟩
  · unfold vTxt; rw [if_pos (by simpa using h)]; exact ⟨rfl, Or.inr rfl⟩
end Go.Proofs.YtipkjpcedfokhaaDoor.Lv

namespace Go.Proofs.YtipkjpcedfokhaaDoor.Lv
set_option linter.unusedVariables false
set_option linter.unusedSimpArgs false
open Go
theorem bool_kinds (v : Vl) : vOk (vBool v) = true ∧ ((vBool v).k = 2 ∨ (vBool v).k = 4) := by
  by_cases h : vOk v = true
  · rcases ok_cases h with rfl | ⟨n, hn, rfl⟩ | rfl | rfl | ⟨t, ht, rfl⟩ | ⟨c, h1, h2, rfl⟩
    · exact ⟨rfl, Or.inl rfl⟩
    · unfold vBool; rw [h]; exact ⟨truth_ok _, Or.inl rfl⟩
    · exact ⟨rfl, Or.inl rfl⟩
    · exact ⟨rfl, Or.inl rfl⟩
    · unfold vBool; rw [h]; exact ⟨named_ok t, named_kind t⟩
    · unfold vBool; rw [h]; exact ⟨h, Or.inr rfl⟩
  · unfold vBool; rw [if_pos (by simpa using h)]; exact ⟨rfl, Or.inr rfl⟩
theorem num_stay {v : Vl} (h : vOk v = true) (k : v.k = 1 ∨ v.k = 4) : vNum v = v := by
  unfold vNum
  rw [if_neg (by rw [h]; simp), if_neg (by omega), if_neg (by omega), if_neg (by omega)]
theorem txt_stay {v : Vl} (h : vOk v = true) (k : v.k = 3 ∨ v.k = 4) : vTxt v = v := by
  unfold vTxt
  rw [if_neg (by rw [h]; simp), if_neg (by omega), if_neg (by omega), if_neg (by omega)]
theorem bool_stay {v : Vl} (h : vOk v = true) (k : v.k = 2 ∨ v.k = 4) : vBool v = v := by
  unfold vBool
  rw [if_neg (by rw [h]; simp), if_neg (by omega), if_neg (by omega), if_neg (by omega)]
theorem num_num (v : Vl) : vNum (vNum v) = vNum v := num_stay (num_kinds v).1 (num_kinds v).2
theorem txt_txt (v : Vl) (hv : v.n.natAbs ≤ 9223372036854775808) : vTxt (vTxt v) = vTxt v := txt_stay (txt_kinds v hv).1 (txt_kinds v hv).2
theorem bool_bool (v : Vl) : vBool (vBool v) = vBool v := bool_stay (bool_kinds v).1 (bool_kinds v).2

theorem back_num {n : Int} (h : n ≠ -9223372036854775808) (hi : i64 n) : vNum (vTxt ⟨1, n, []⟩) = ⟨1, n, []⟩ := by
  have hb : n.natAbs ≤ 9223372036854775808 := by have := hi.1; have := hi.2; omega
  have e : vTxt ⟨1, n, []⟩ = ⟨3, 0, fmt n⟩ := by
    unfold vTxt; rw [ok1, decide_eq_true (by exact ⟨rfl, h⟩)]; rfl
  have o : vOk ⟨3, 0, fmt n⟩ = true := by rw [ok3, fmt_ok hb]; rfl
  rw [e]
  unfold vNum
  rw [o]
  show vRead (fmt n) = _
  unfold vRead
  have b : n.natAbs ≤ 9223372036854775807 := by have := hi.1; have := hi.2; omega
  rw [fmt_trim hb, parse_fmt n hb, if_pos b]
  rw [if_pos rfl]
  show vMake n = _
  unfold vMake; rw [if_neg h]
theorem back_bool (b : Bool) : vBool (vNum (vTruth b)) = vTruth b ∧ vBool (vTxt (vTruth b)) = vTruth b := by cases b <;> exact ⟨rfl, rfl⟩
theorem show_num {n : Int} (h : n ≠ -9223372036854775808) : vShow ⟨1, n, []⟩ = (vTxt ⟨1, n, []⟩).t := by
  unfold vShow
  rw [if_neg (by simp), ok1, decide_eq_true (by exact ⟨rfl, h⟩)]; rfl
theorem code_show (c : Int) : vCode (vShow (vFail c)) = ((vFail c).n, 0) := by
  by_cases h : 1 ≤ c ∧ c ≤ 7
  · have : c = 1 ∨ c = 2 ∨ c = 3 ∨ c = 4 ∨ c = 5 ∨ c = 6 ∨ c = 7 := by omega
    rcases this with rfl | rfl | rfl | rfl | rfl | rfl | rfl <;> decide
  · have e : vFail c = ⟨4, 2, []⟩ := by unfold vFail; rw [if_neg h]
    rw [e]; decide

theorem sgn_anti (a b : Int) : sgn b a = -sgn a b := by
  unfold sgn; repeat' split
  all_goals omega
theorem sgn_range (a b : Int) : -1 ≤ sgn a b ∧ sgn a b ≤ 1 := by
  unfold sgn; repeat' split
  all_goals omega
theorem sgn_zero (a b : Int) : sgn a b = 0 ↔ a = b := by
  unfold sgn; repeat' split
  all_goals omega
theorem cmp1_anti (x y : Vl) : vCmp1 y x = -vCmp1 x y := by
  unfold vCmp1
  by_cases h : x.k = y.k
  · rw [if_neg (show ¬ y.k ≠ x.k by omega), if_neg (show ¬ x.k ≠ y.k by omega), h]
    split
    · exact cmp_anti _ _
    · exact sgn_anti _ _
  · rw [if_pos (show y.k ≠ x.k by omega), if_pos h]; exact sgn_anti _ _
theorem cmp1_range (x y : Vl) : -1 ≤ vCmp1 x y ∧ vCmp1 x y ≤ 1 := by
  unfold vCmp1
  split
  · exact sgn_range _ _
  · split
    · exact cmp_range _ _
    · exact sgn_range _ _
theorem cmp_swap (a b : Vl) : vCmp b a = (-(vCmp a b).1, (vCmp a b).2) := by
  unfold vCmp
  rw [Bool.and_comm]
  split
  · rw [cmp1_anti]
  · rfl
theorem vcmp_range (a b : Vl) : -1 ≤ (vCmp a b).1 ∧ (vCmp a b).1 ≤ 1 := by
  unfold vCmp
  split
  · exact cmp1_range _ _
  · exact ⟨by simp, by simp⟩
theorem vcmp_ok {a b : Vl} (h : (vCmp a b).2 = 0) : canC a = true ∧ canC b = true ∧ vCmp a b = (vCmp1 (side a b.k) (side b a.k), 0) := by
  unfold vCmp at *
  by_cases c : (canC a && canC b) = true
  · rw [if_pos c]; rw [Bool.and_eq_true] at c; exact ⟨c.1, c.2, rfl⟩
  · rw [if_neg c] at h; simp at h
/-- three kinds that are compared -/
theorem can_cases {v : Vl} (h : canC v = true) (h0 : v.k ≠ 0) : v.k = 1 ∨ v.k = 2 ∨ v.k = 3 := by
  unfold canC at h
  rw [Bool.and_eq_true, decide_eq_true_eq] at h
  rcases ok_cases h.1 with rfl | ⟨n, hn, rfl⟩ | rfl | rfl | ⟨t, ht, rfl⟩ | ⟨c, h1, h2, rfl⟩
  · exact absurd rfl h0
  · exact Or.inl rfl
  · exact Or.inr (Or.inl rfl)
  · exact Or.inr (Or.inl rfl)
  · exact Or.inr (Or.inr rfl)
  · exact absurd rfl h.2
theorem side_own {v : Vl} {o : Nat} (h : v.k ≠ 0) : side v o = v := if_neg h
theorem rank_inj {j k : Nat} (hj : j = 1 ∨ j = 2 ∨ j = 3) (hk : k = 1 ∨ k = 2 ∨ k = 3) : rankV j = rankV k ↔ j = k := by
  rcases hj with rfl | rfl | rfl <;> rcases hk with rfl | rfl | rfl <;> decide
theorem cmp1_trans {x y z : Vl} (hx : x.k = 1 ∨ x.k = 2 ∨ x.k = 3) (hy : y.k = 1 ∨ y.k = 2 ∨ y.k = 3) (hz : z.k = 1 ∨ z.k = 2 ∨ z.k = 3) (h : vCmp1 x y ≤ 0) (g : vCmp1 y z ≤ 0) :
    vCmp1 x z ≤ 0 ∧ (vCmp1 x z = 0 → vCmp1 x y = 0 ∧ vCmp1 y z = 0) := by
  have r1 := rank_inj hx hy
  have r2 := rank_inj hy hz
  have r3 := rank_inj hx hz
  unfold vCmp1 at *
  by_cases a : x.k = y.k
  · rw [if_neg (show ¬ x.k ≠ y.k by omega)] at h
    rw [if_neg (show ¬ x.k ≠ y.k by omega)]
    by_cases b : y.k = z.k
    · rw [if_neg (show ¬ y.k ≠ z.k by omega)] at g
      rw [if_neg (show ¬ x.k ≠ z.k by omega), if_neg (show ¬ y.k ≠ z.k by omega)]
      by_cases c : x.k = 3
      · rw [if_pos c] at h
        rw [if_pos (by omega)] at g
        rw [if_pos c, if_pos c, if_pos (by omega)]
        exact cmp_trans _ _ _ h g
      · rw [if_neg c] at h
        rw [if_neg (show ¬ y.k = 3 by omega)] at g
        rw [if_neg c, if_neg c, if_neg (show ¬ y.k = 3 by omega)]
        unfold sgn at *
        repeat' split at h
        all_goals repeat' split at g
        all_goals repeat' split
        all_goals omega
    · rw [if_pos b] at g
      rw [if_pos (show x.k ≠ z.k by omega), if_pos b, a]
      have ne : rankV y.k ≠ rankV z.k := fun e => b (r2.1 e)
      refine ⟨g, fun e => ?_⟩
      exact absurd ((sgn_zero _ _).1 e) ne
  · rw [if_pos a] at h
    rw [if_pos a]
    have ne : rankV x.k ≠ rankV y.k := fun e => a (r1.1 e)
    by_cases b : y.k = z.k
    · rw [if_neg (show ¬ y.k ≠ z.k by omega)] at g
      rw [if_pos (show x.k ≠ z.k by omega), ← b]
      exact ⟨h, fun e => absurd ((sgn_zero _ _).1 e) ne⟩
    · rw [if_pos b] at g
      have ne2 : rankV y.k ≠ rankV z.k := fun e => b (r2.1 e)
      have l1 : rankV x.k < rankV y.k := by
        unfold sgn at h; repeat' split at h
        all_goals omega
      have l2 : rankV y.k < rankV z.k := by
        unfold sgn at g; repeat' split at g
        all_goals omega
      have ne3 : x.k ≠ z.k := fun e => by rw [e] at l1; omega
      rw [if_pos ne3]
      have e : sgn (rankV x.k) (rankV z.k) = -1 := by unfold sgn; rw [if_pos (by omega)]
      rw [e]; exact ⟨by omega, fun h => by omega⟩
theorem cmp1_zero {x y : Vl} (hx : canC x = true) (hy : canC y = true) (x0 : x.k ≠ 0) (y0 : y.k ≠ 0) (h : vCmp1 x y = 0) : x.k = y.k ∧ (x.k ≠ 3 → x = y) ∧ x.t.length = y.t.length := by
  have kx := can_cases hx x0
  have ky := can_cases hy y0
  have r := rank_inj kx ky
  unfold vCmp1 at h
  by_cases a : x.k = y.k
  · rw [if_neg (show ¬ x.k ≠ y.k by omega)] at h
    refine ⟨a, ?_⟩
    unfold canC at hx hy
    rw [Bool.and_eq_true] at hx hy
    by_cases c : x.k = 3
    · rw [if_pos c] at h
      have u := cmp_zero.1 h
      refine ⟨fun n => absurd c n, ?_⟩
      rw [← upper_len x.t, u, upper_len]
    · rw [if_neg c] at h
      have e := (sgn_zero _ _).1 h
      have tx : x.t = [] := by
        rcases ok_cases hx.1 with rfl | ⟨n, hn, rfl⟩ | rfl | rfl | ⟨t, ht, rfl⟩ | ⟨c, h1, h2, rfl⟩ <;> first | rfl | exact absurd rfl c
      have ty : y.t = [] := by
        rw [a] at c
        rcases ok_cases hy.1 with rfl | ⟨n, hn, rfl⟩ | rfl | rfl | ⟨t, ht, rfl⟩ | ⟨c, h1, h2, rfl⟩ <;> first | rfl | exact absurd rfl c
      exact ⟨fun _ => Vl.same a e (tx.trans ty.symm), by rw [tx, ty]⟩
  · rw [if_pos a] at h
    exact absurd (r.1 ((sgn_zero _ _).1 h)) a
theorem cmp1_self (x : Vl) : vCmp1 x x = 0 := by
  unfold vCmp1
  rw [if_neg (show ¬ x.k ≠ x.k by omega)]
  split
  · exact cmp_self _
  · exact (sgn_zero _ _).2 rfl
theorem can_kind {v : Vl} (h : canC v = true) : v.k ≤ 3 := by
  by_cases h0 : v.k = 0
  · omega
  · have := can_cases h h0; omega
theorem blank_zero {k : Nat} (h : k ≤ 3) : vCmp ⟨0, 0, []⟩ ⟨k, 0, []⟩ = (0, 0) := by
  have : k = 0 ∨ k = 1 ∨ k = 2 ∨ k = 3 := by omega
  rcases this with rfl | rfl | rfl | rfl <;> decide
end Go.Proofs.YtipkjpcedfokhaaDoor.Lv
