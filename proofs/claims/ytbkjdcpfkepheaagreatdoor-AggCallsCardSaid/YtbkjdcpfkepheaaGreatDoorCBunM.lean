/- BunM: the texts MGlyph, MComp, MCaps, MPrint, MQuote, MTrim, MTrim2, MUnq, MDec, MDiv, MRef, MText, MParse, MParse2, MBack, MVal, MVal2 together. -/
import Derived.WalkKit
import Derived.Lib.Bytealg
import Derived.Laws.RangeString
import Derived.Shelf.GgClosure.StringsIndexFunc
import Derived.Lib.Replace
import Derived.Lib.CountLaws
import Derived.Lib.SplitLaws
import Derived.Lib.Join
set_option linter.unusedVariables false
set_option linter.unusedSimpArgs false
namespace Go.Proofs.YtbkjdcpfkepheaaGreatDoor.Lv
open Go
def upB (c : UInt8) : UInt8 := if 97 ≤ c.toNat ∧ c.toNat ≤ 122 then UInt8.ofNat (c.toNat - 32) else c
def up8 (c : Nat) : Nat := if 97 ≤ c ∧ c ≤ 122 then c - 32 else c
def pr8 (c : Nat) : Nat := if c < 32 ∨ 126 < c then 0 else 32
theorem pF (c : UInt8) : (upB c).toNat = up8 c.toNat := by unfold upB up8; split <;> simp; omega
def gB (l : List UInt8) : List UInt8 := l.map upB
def okB (c : UInt8) : Bool := decide (32 ≤ c.toNat ∧ c.toNat ≤ 126)
def eG (l : List UInt8) : Bool := l.all okB
end Go.Proofs.YtbkjdcpfkepheaaGreatDoor.Lv
namespace Go.Proofs.YtbkjdcpfkepheaaGreatDoor.Lv
open Go
theorem tJ : ∀ x y : List UInt8, (Op.bytesLess x y = true ∧ Lib.compareBytes x y = -1) ∨ (Op.bytesLess x y = false ∧ x = y ∧ Lib.compareBytes x y = 0) ∨ (Op.bytesLess x y = false ∧ x ≠ y ∧ Lib.compareBytes x y = 1)
  | [], [] => by simp [Op.bytesLess, Lib.compareBytes]
  | [], _ :: _ => by simp [Op.bytesLess, Lib.compareBytes]
  | _ :: _, [] => by simp [Op.bytesLess, Lib.compareBytes]
  | a :: x, b :: y => by
    have ih := tJ x y; unfold Op.bytesLess Lib.compareBytes
    by_cases h : a < b
    · left; simp [h]
    · by_cases g : b < a
      · right; right
        have ne : a ≠ b := by intro e; subst e; exact absurd g h
        simp [h, g, ne]
      · have e : a = b := by
          apply UInt8.toNat_inj.1; have h1 : ¬ a.toNat < b.toNat := h; have h2 : ¬ b.toNat < a.toNat := g
          omega
        subst e
        simp only [h, if_false, beq_self_eq_true, Bool.true_and, decide_false, Bool.false_or]
        rcases ih with ⟨h1, h2⟩ | ⟨h1, h2, h3⟩ | ⟨h1, h2, h3⟩
        · left; exact ⟨h1, h2⟩
        · right; left; exact ⟨h1, by rw [h2], h3⟩
        · right; right; exact ⟨h1, by simpa using h2, h3⟩
end Go.Proofs.YtbkjdcpfkepheaaGreatDoor.Lv
namespace Go.Proofs.YtbkjdcpfkepheaaGreatDoor.Lv
open Go
end Go.Proofs.YtbkjdcpfkepheaaGreatDoor.Lv
namespace Go.Proofs.YtbkjdcpfkepheaaGreatDoor.Lv
open Go
def prB (c : UInt8) : UInt8 := if okB c then 32 else 0
theorem pG (c : UInt8) : (prB c).toNat = pr8 c.toNat := by
  unfold prB pr8 okB
  by_cases h : c.toNat < 32 ∨ 126 < c.toNat
  · rw [if_pos h, if_neg (by simp; omega)]; rfl
  · rw [if_neg h, if_pos (by simp; omega)]; rfl
theorem F7 (c : UInt8) : (prB c).toNat < 128 := by rw [pG]; unfold pr8; split <;> omega
theorem pH (m : List UInt8) (hm : ∀ c ∈ m, c.toNat < 128) : ∀ (f pos : Nat), m.length ≤ pos + f →
    ((m.drop pos).all (fun c => decide (c.toNat ≠ 0)) = true → Lib.idxFuncFrom (fun n => decide (n = 0)) true ⟨m.toArray⟩ f pos = -1) ∧
    ((m.drop pos).all (fun c => decide (c.toNat ≠ 0)) = false → 0 ≤ Lib.idxFuncFrom (fun n => decide (n = 0)) true ⟨m.toArray⟩ f pos)
  | 0, pos, h => by
    rw [List.drop_eq_nil_of_le (by omega)]; exact ⟨fun _ => rfl, fun h => by simp at h⟩
  | f + 1, pos, h => by
    by_cases hp : pos < m.length
    · have hs : pos < (ByteArray.mk m.toArray).size := hp
      have hb : ((ByteArray.mk m.toArray)[pos]'hs) = m[pos] := rfl; have hd := decide_dec (m := m) hp hm; have ih := pH m hm f (pos + 1) (by omega); rw [List.drop_eq_getElem_cons hp, List.all_cons]; unfold Lib.idxFuncFrom; rw [if_pos hs, hd]
      by_cases z : m[pos].toNat = 0
      · simp only [z, decide_true, if_true]
        refine ⟨fun h => by simp at h, fun _ => by omega⟩
      · simp only [z, decide_false, Bool.false_eq_true, if_false, ne_eq, not_false_eq_true, decide_true, Bool.true_and]
        exact ih
    · rw [List.drop_eq_nil_of_le (by omega)]
      refine ⟨fun _ => ?_, fun h => by simp at h⟩; exact Lib.idxFuncFrom_end _ _ _ _ _ (by show ¬ pos < m.length; omega)
where
  decide_dec {m : List UInt8} {pos : Nat} (hp : pos < m.length) (hm : ∀ c ∈ m, c.toNat < 128) : Utf8.decode ⟨m.toArray⟩ pos = (m[pos].toNat, 1) :=
    decode_ascii ⟨m.toArray⟩ pos hp (hm _ (List.getElem_mem hp))
theorem xk (l : List UInt8) : (l.map prB).all (fun c => decide (c.toNat ≠ 0)) = eG l := by
  unfold eG; rw [List.all_map]
  congr 1
  funext c
  show decide ((prB c).toNat ≠ 0) = okB c; unfold prB
  cases okB c <;> rfl
theorem xm (l : List UInt8) : decide (Lib.idxFunc (fun n => decide (n = 0)) true ⟨(l.map prB).toArray⟩ < 0) = eG l := by
  have h := pH (l.map prB) (fun c hc => by obtain ⟨x, _, rfl⟩ := List.mem_map.1 hc; exact F7 x) (l.map prB).length 0 (by omega); rw [List.drop_zero, xk] at h; unfold Lib.idxFunc; show decide (Lib.idxFuncFrom _ _ _ (l.map prB).length 0 < 0) = _
  cases hp : eG l
  · have := h.2 hp
    exact decide_eq_false (by omega)
  · rw [h.1 hp]; rfl
end Go.Proofs.YtbkjdcpfkepheaaGreatDoor.Lv
namespace Go.Proofs.YtbkjdcpfkepheaaGreatDoor.Lv
open Go
end Go.Proofs.YtbkjdcpfkepheaaGreatDoor.Lv
namespace Go.Proofs.YtbkjdcpfkepheaaGreatDoor.Lv
open Go
theorem nf (q b : UInt8) (l : List UInt8) : Lib.index (b :: l) [q] = if b = q then 0 else if Lib.index l [q] = -1 then -1 else Lib.index l [q] + 1 := by
  show (if ([q] : List UInt8).isPrefixOf (b :: l) then (0 : Int) else if Lib.index l [q] == -1 then -1 else Lib.index l [q] + 1) = _; have e : ([q] : List UInt8).isPrefixOf (b :: l) = (q == b) := by simp [List.isPrefixOf]
  rw [e]
  by_cases h : b = q
  · subst h; simp
  · have h2 : (q == b) = false := by simpa using fun e => h e.symm
    rw [h2, if_neg h]
    simp only [Bool.false_eq_true, if_false, beq_iff_eq]
def pcs : List UInt8 → List (List UInt8)
  | [] => [[]]
  | c :: l => if c = 32 then [] :: pcs l else match pcs l with
    | [] => [[c]]
    | p :: ps => (c :: p) :: ps
theorem F8 : ∀ l, pcs l ≠ []
  | [] => by simp [pcs]
  | c :: l => by
    unfold pcs
    split
    · simp
    · split <;> simp
theorem oe : ∀ (l : List UInt8), Lib.index l [32] = -1 → pcs l = [l]
  | [], _ => rfl
  | b :: l, h => by
    rw [nf] at h
    by_cases c : b = 32
    · rw [if_pos c] at h; omega
    · rw [if_neg c] at h
      by_cases g : Lib.index l [32] = -1
      · unfold pcs; rw [if_neg c, oe l g]
      · rw [if_neg g] at h
        have := Lib.index_ge l [32]
        omega
theorem xn : ∀ (l : List UInt8) (i : Nat), Lib.index l [32] = i → pcs l = l.take i :: pcs (l.drop (i + 1))
  | [], i, h => by unfold Lib.index at h; simp at h
  | b :: l, i, h => by
    rw [nf] at h
    by_cases c : b = 32
    · rw [if_pos c] at h
      obtain rfl : i = 0 := by omega
      conv => lhs; unfold pcs
      rw [if_pos c]; rfl
    · rw [if_neg c] at h
      by_cases g : Lib.index l [32] = -1
      · rw [if_pos g] at h; omega
      · rw [if_neg g] at h
        have ge := Lib.index_ge l [32]; obtain ⟨j, hj⟩ : ∃ j : Nat, Lib.index l [32] = j := ⟨(Lib.index l [32]).toNat, by omega⟩; obtain rfl : i = j + 1 := by omega
        conv => lhs; unfold pcs
        rw [if_neg c, xn l j hj]
        simp
theorem nh : ∀ (k : Nat) (l : List UInt8), Lib.count l [32] ≤ k → Lib.splitK [32] 0 k l = pcs l
  | 0, l, h => by
    by_cases g : Lib.index l [32] = -1
    · rw [oe l g]; rfl
    · have ge := Lib.index_ge l [32]
      have := Lib.count_hit (s := l) (sub := [32]) (i := (Lib.index l [32]).toNat) (by simp) (by omega)
      omega
  | k + 1, l, h => by
    by_cases g : Lib.index l [32] = -1
    · rw [oe l g]
      unfold Lib.splitK; rw [if_pos (by simpa using g)]
    · have ge := Lib.index_ge l [32]
      obtain ⟨i, hi⟩ : ∃ i : Nat, Lib.index l [32] = i := ⟨(Lib.index l [32]).toNat, by omega⟩; have c := Lib.count_hit (s := l) (sub := [32]) (i := i) (by simp) hi; unfold Lib.splitK; rw [if_neg (by simpa using g), xn l i hi, hi]; rw [show ((i : Int)).toNat = i by omega, Nat.add_zero, show ([32] : List UInt8).length = 1 from rfl, nh k _ (by rw [show ([32] : List UInt8).length = 1 from rfl] at c; omega)]
def F9 (l : List UInt8) : List (List UInt8) := (pcs l).filter (fun p => !p.isEmpty)
def eY (l : List UInt8) : List UInt8 := Lib.join (F9 l) [32]
theorem tK : ∀ (l : List UInt8) (c : UInt8), ∃ ps p, pcs l = ps ++ [p] ∧ (p = [] ↔ (l = [] ∨ l.getLast? = some 32)) ∧ pcs (l ++ [c]) = if c = 32 then ps ++ [p] ++ [[]] else ps ++ [p ++ [c]]
  | [], c => by
    refine ⟨[], [], rfl, by simp, ?_⟩
    by_cases h : c = 32
    · simp [pcs, h]
    · simp [pcs, h]
  | b :: l, c => by
    obtain ⟨ps, p, h1, h2, h3⟩ := tK l c
    have gl : (b :: l).getLast? = some 32 ↔ (l = [] ∧ b = 32) ∨ (l ≠ [] ∧ l.getLast? = some 32) := by
      cases l with
      | nil => simp
      | cons x y => rw [List.getLast?_cons_cons]; simp
    by_cases hb : b = 32
    · refine ⟨[] :: ps, p, by conv => lhs; unfold pcs
                              rw [if_pos hb, h1]; rfl, ?_, ?_⟩
      · rw [h2, gl]
        constructor
        · rintro (h | h)
          · exact Or.inr (Or.inl ⟨h, hb⟩)
          · exact Or.inr (Or.inr ⟨by intro e; subst e; simp at h, h⟩)
        · rintro (h | ⟨h, _⟩ | ⟨_, h⟩)
          · simp at h
          · exact Or.inl h
          · exact Or.inr h
      · rw [List.cons_append]
        conv => lhs; unfold pcs
        rw [if_pos hb, h3]
        split <;> rfl
    · rcases ps with _ | ⟨q, ps⟩
      · refine ⟨[], b :: p, by conv => lhs; unfold pcs
                               rw [if_neg hb, h1]; rfl, ?_, ?_⟩
        · rw [gl]
          constructor
          · intro h; simp at h
          · rintro (h | ⟨_, h⟩ | ⟨h, h'⟩)
            · simp at h
            · exact absurd h hb
            · exfalso
              have pe := h2.2 (Or.inr h'); subst pe
              -- the only piece is empty: then there is no blank in l
              exact pcs_one_empty h1 h
        · rw [List.cons_append]
          conv => lhs; unfold pcs
          rw [if_neg hb, h3]
          by_cases h32 : c = 32 <;> simp [h32]
      · refine ⟨(b :: q) :: ps, p, by conv => lhs; unfold pcs
                                      rw [if_neg hb, h1]; rfl, ?_, ?_⟩
        · rw [h2, gl]
          constructor
          · rintro (h | h)
            · exfalso; subst h; simp [pcs] at h1
            · exact Or.inr (Or.inr ⟨by intro e; subst e; simp at h, h⟩)
          · rintro (h | ⟨_, h⟩ | ⟨_, h⟩)
            · simp at h
            · exact absurd h hb
            · exact Or.inr h
        · rw [List.cons_append]
          conv => lhs; unfold pcs
          rw [if_neg hb, h3]
          by_cases h32 : c = 32 <;> simp [h32]
where
  pcs_one_empty {l : List UInt8} (h : pcs l = [] ++ [[]]) (hne : l ≠ []) : False := by
    cases l with
    | nil => exact hne rfl
    | cons b l =>
      unfold pcs at h
      split at h
      · have := F8 l
        simp at h
        exact this h
      · split at h <;> simp at h
theorem pI (xs : List (List UInt8)) (y : List UInt8) : Lib.join (xs ++ [y]) [32] = if xs = [] then y else Lib.join xs [32] ++ 32 :: y := by
  cases xs with
  | nil => simp [Lib.join_one]
  | cons x r =>
    rw [if_neg (by simp), List.cons_append, Lib.join_cons, Lib.join_cons]; unfold Lib.joinTail
    simp
theorem D1 {xs : List (List UInt8)} (h : ∀ x ∈ xs, x ≠ []) : Lib.join xs [32] = [] ↔ xs = [] := by
  cases xs with
  | nil => simp [Lib.join_nil]
  | cons x r =>
    rw [Lib.join_cons]; have := h x (by simp)
    simp [this]
theorem Bj (ps : List (List UInt8)) : ∀ x ∈ ps.filter (fun p => !p.isEmpty), x ≠ [] := fun x hx => by
  have := (List.mem_filter.1 hx).2
  simpa using this
theorem Bk : eY [] = [] := rfl
theorem jd (l : List UInt8) (c : UInt8) : eY (l ++ [c]) = if c = 32 then eY l else if eY l ≠ [] ∧ l.getLast? = some 32 then eY l ++ [32, c] else eY l ++ [c] := by
  obtain ⟨ps, p, h1, h2, h3⟩ := tK l c; unfold eY F9; rw [h1, h3]
  by_cases hc : c = 32
  · rw [if_pos hc, if_pos hc, List.filter_append]; simp
  · rw [if_neg hc, if_neg hc, List.filter_append, List.filter_append]
    have e1 : [p ++ [c]].filter (fun p => !p.isEmpty) = [p ++ [c]] := by simp
    rw [e1, pI]; have wn := D1 (Bj ps)
    by_cases hp : p = []
    · have e2 : [p].filter (fun p => !p.isEmpty) = [] := by rw [hp]; rfl
      rw [e2, List.append_nil, hp, List.nil_append]
      by_cases f : ps.filter (fun p => !p.isEmpty) = []
      · rw [if_pos f, f, Lib.join_nil]; simp
      · rw [if_neg f]
        have lb : l.getLast? = some 32 := by
          rcases h2.1 hp with h | h
          · exfalso; subst h
            have : ps = [] := by
              have e := congrArg List.length h1
              simp [pcs] at e; exact e
            subst this; exact f rfl
          · exact h
        rw [if_pos ⟨fun e => f (wn.1 e), lb⟩]
    · have e2 : [p].filter (fun p => !p.isEmpty) = [p] := by
        have : p.isEmpty = false := by simpa using hp
        simp [this]
      rw [e2, pI]; have nb : ¬ (l.getLast? = some 32) := fun h => hp (h2.2 (Or.inr h)); rw [if_neg (show ¬ (_ ∧ l.getLast? = some 32) from fun h => nb h.2)]
      split <;> simp
theorem lg (l : List UInt8) : (eY l).length ≤ l.length := by
  suffices h : ∀ l : List UInt8, (eY l.reverse).length ≤ l.length ∧ ((eY l.reverse) ≠ [] → l.reverse.getLast? = some 32 → (eY l.reverse).length + 1 ≤ l.length) by
    have := (h l.reverse).1; simpa using this
  intro l
  induction l with
  | nil => simp [Bk]
  | cons c l ih =>
    rw [List.reverse_cons, jd, List.length_cons]; obtain ⟨i1, i2⟩ := ih
    by_cases hc : c = 32
    · rw [if_pos hc]
      exact ⟨by omega, fun _ _ => by omega⟩
    · rw [if_neg hc]
      have g : ((l.reverse ++ [c]).getLast? = some 32) → False := fun h => by simp at h; exact hc h
      by_cases k : eY l.reverse ≠ [] ∧ l.reverse.getLast? = some 32
      · rw [if_pos k]
        have := i2 k.1 k.2; refine ⟨by simp; omega, fun _ h => (g h).elim⟩
      · rw [if_neg k]
        refine ⟨by simp; omega, fun _ h => (g h).elim⟩
end Go.Proofs.YtbkjdcpfkepheaaGreatDoor.Lv
namespace Go.Proofs.YtbkjdcpfkepheaaGreatDoor.Lv
open Go
def IP (l : List UInt8) : List UInt8 := l.filter (fun c => decide (c ≠ 32))
end Go.Proofs.YtbkjdcpfkepheaaGreatDoor.Lv
namespace Go.Proofs.YtbkjdcpfkepheaaGreatDoor.Lv
open Go
end Go.Proofs.YtbkjdcpfkepheaaGreatDoor.Lv
namespace Go.Proofs.YtbkjdcpfkepheaaGreatDoor.Lv
open Go
def sg (ng : Bool) (n : Int) : Int := if ng then -n else n
def fit (n : Int) : Int × Bool := if -9223372036854775807 ≤ n ∧ n ≤ 9223372036854775807 then (n, true) else (0, false)
def rnd (x d : Int) : Int := x / d + if d ≤ 2 * (x % d) then 1 else 0
def Ba (x d : Int) : Int × Bool := if d ≠ 0 ∧ x / d ≤ 9223372036854775807 then (rnd x d, true) else (0, false)
def abs (a : Int) : Int := if a < 0 then -a else a
def neg (a : Int) : Bool := decide (a < 0)
def nk (a b d : Int) (ng : Bool) : Int × Bool := if d = 0 then (0, false) else fit (sg ng (rnd (a * b) d))
def lh (a b : Int) : Int × Bool := fit (sg (neg a != neg b) (rnd (abs a * abs b) 10000))
def IQ (a b : Int) : Int × Bool := if b = 0 then (0, false) else fit (sg (neg a != neg b) (rnd (abs a * 10000) (abs b)))
def i64 (a : Int) : Prop := -9223372036854775808 ≤ a ∧ a ≤ 9223372036854775807
def u64 (a : Int) : Prop := 0 ≤ a ∧ a ≤ 18446744073709551615
theorem dF {n : Int} (h : -9223372036854775807 ≤ n) (g : n ≤ 9223372036854775807) : fit n = (n, true) := if_pos ⟨h, g⟩
theorem dB {n : Int} (h : n < -9223372036854775807 ∨ 9223372036854775807 < n) : fit n = (0, false) := if_neg (by omega)
theorem vu (a : Int) : 0 ≤ abs a := by unfold abs; split <;> omega
theorem Ga {a : Int} (h : i64 a) : abs a ≤ 9223372036854775808 := by unfold abs; obtain ⟨h1, h2⟩ := h; split <;> omega
theorem fD (x d : Int) : x / d ≤ rnd x d ∧ rnd x d ≤ x / d + 1 := by unfold rnd; split <;> omega
theorem nl (a : Int) : sg (neg a) (abs a) = a := by unfold sg neg abs; by_cases h : a < 0 <;> simp [h]
end Go.Proofs.YtbkjdcpfkepheaaGreatDoor.Lv
namespace Go.Proofs.YtbkjdcpfkepheaaGreatDoor.Lv
open Go
theorem Dg (t : Int) (h0 : 0 ≤ t) (h1 : t ≤ 18446744073709551615) : bits .and .u64 t 4294967295 = t % 4294967296 := and_low32 t h0 (by omega)
theorem xo (x : Int) (h0 : 0 ≤ x) (h1 : x ≤ 18446744073709551615) : IntKind.u64.wrap x = x := by
  show x % 2 ^ 64 = x
  omega
theorem gW (x : Int) : IntKind.u64.wrap x = x % 18446744073709551616 := rfl
theorem Gb (p k l : Nat) (hl : l < 2 ^ k) (hp : p * 2 ^ k + l < 18446744073709551616) : bits .or .u64 ((p * 2 ^ k : Nat) : Int) (l : Int) = ((p * 2 ^ k + l : Nat) : Int) := by
  rw [bits_or_u64_nat _ _ (by omega) (by omega)]; rw [Nat.mul_comm, ← Nat.two_pow_add_eq_or_of_lt hl]
theorem Gc (lo k : Nat) (hk : k ≤ 64) (h : lo < 18446744073709551616) : lo / 2 ^ (64 - k) < 2 ^ k := by
  rw [Nat.div_lt_iff_lt_mul (Nat.two_pow_pos _), ← Nat.pow_add]; have : k + (64 - k) = 64 := by omega
  rw [this]; omega
theorem rN (hi lo k : Nat) (hk : k ≤ 64) : (hi * 18446744073709551616 + lo) * 2 ^ k = (hi * 2 ^ k + lo / 2 ^ (64 - k)) * 18446744073709551616 + lo * 2 ^ k % 18446744073709551616 := by
  have e : 2 ^ (64 - k) * 2 ^ k = 18446744073709551616 := by rw [← Nat.pow_add, show 64 - k + k = 64 from by omega]
  have h1 : lo * 2 ^ k / 18446744073709551616 = lo / 2 ^ (64 - k) := by
    rw [← e, Nat.mul_div_mul_right _ _ (Nat.two_pow_pos k)]
  have h2 := Nat.div_add_mod (lo * 2 ^ k) 18446744073709551616; rw [h1] at h2; generalize lo * 2 ^ k % 18446744073709551616 = m at *; generalize lo / 2 ^ (64 - k) = l at *; generalize 2 ^ k = t at *
  grind
theorem D4 (B a b q r u1 u : Int) (hq : u = q * a + r) (h : q * b ≤ B * r + u1) : q * (a * B + b) ≤ u * B + u1 := by
  subst hq; grind
theorem D5 (B a b q r u1 u : Int) (hq : u = q * a + r) (h : B * r + u1 < q * b) : u * B + u1 < q * (a * B + b) := by
  subst hq; grind
def Guess (u u1 a v : Int) (Q R : Int) : Prop := 0 ≤ Q ∧ Q ≤ 4294967297 ∧ 0 ≤ R ∧ u = Q * a + R ∧ (u * 4294967296 + u1) / v ≤ Q
structure Digit (u u1 a b v : Int) : Prop where
  u0 : 0 ≤ u
  uv : u < v
  l0 : 0 ≤ u1
  l1 : u1 < 4294967296
  a0 : 2147483648 ≤ a
  a1 : a < 4294967296
  b0 : 0 ≤ b
  b1 : b < 4294967296
  hv : v = a * 4294967296 + b
theorem Digit.lt {u u1 a b v : Int} (d : Digit u u1 a b v) : (u * 4294967296 + u1) / v < 4294967296 := by
  have h := d.uv; have h2 := d.l1; have h3 := d.u0; apply Int.ediv_lt_of_lt_mul (by omega)
  omega
theorem Digit.qa {u u1 a b v : Int} (d : Digit u u1 a b v) : 0 ≤ u / a ∧ u / a ≤ 4294967297 ∧ 0 ≤ u - u / a * a ∧ u - u / a * a < a ∧ 0 ≤ u / a * a ∧ u / a * a ≤ u := by
  obtain ⟨u0, uv, l0, l1, a0, a1, b0, b1, hv⟩ := d; have h1 := Int.emod_nonneg u (b := a) (by omega); have h2 := Int.emod_lt_of_pos u (b := a) (by omega); have h3 := Int.ediv_nonneg (a := u) (b := a) u0 (by omega)
  have h4 : u / a < 4294967298 := by
    apply Int.ediv_lt_of_lt_mul (by omega); omega
  have h5 : u / a * a = u - u % a := by have := Int.mul_ediv_add_emod u a; have := Int.mul_comm a (u / a); omega
  have h6 : 0 ≤ u / a * a := Int.mul_nonneg h3 (by omega)
  omega
theorem Digit.start {u u1 a b v : Int} (d : Digit u u1 a b v) : Guess u u1 a v (u / a) (u - u / a * a) := by
  have q := d.qa; obtain ⟨q1, q2, q3, q4, q5, q6⟩ := q; refine ⟨q1, q2, q3, by omega, ?_⟩; obtain ⟨u0, uv, l0, l1, a0, a1, b0, b1, hv⟩ := d
  have h : (u * 4294967296 + u1) / v < u / a + 1 := by
    apply Int.ediv_lt_of_lt_mul (by omega); generalize u / a = q at *; subst hv; have e : u = q * a + (u - q * a) := by omega
    generalize u - q * a = r at *; subst e; have : q * b ≥ 0 := Int.mul_nonneg q1 b0; have e2 : (q + 1) * (a * 4294967296 + b) = q * a * 4294967296 + q * b + a * 4294967296 + b := by grind
    rw [e2]; omega
  omega
theorem Guess.done {u u1 a b v Q R : Int} (d : Digit u u1 a b v) (g : Guess u u1 a v Q R) (h : Q * b ≤ 4294967296 * R + u1) : Q = (u * 4294967296 + u1) / v := by
  obtain ⟨g1, g2, g3, g4, g5⟩ := g; have h6 := D4 4294967296 a b Q R u1 u g4 h; rw [← d.hv] at h6; have := (Int.le_ediv_iff_mul_le (c := v) (a := Q) (b := u * 4294967296 + u1) (by have := d.uv; have := d.u0; omega)).2 h6
  omega
theorem Guess.past {u u1 a b v Q R : Int} (d : Digit u u1 a b v) (g : Guess u u1 a v Q R) (hQ : Q ≤ 4294967296) (h : 4294967296 ≤ R) : Q = (u * 4294967296 + u1) / v := by
  refine g.done d ?_; obtain ⟨g1, g2, g3, g4, g5⟩ := g; have h1 : Q * b ≤ 4294967296 * b := Int.mul_le_mul_of_nonneg_right hQ d.b0; have := d.b1; have := d.l0; have := d.b0
  omega
theorem Guess.less {u u1 a b v Q R : Int} (d : Digit u u1 a b v) (g : Guess u u1 a v Q R) (h : 4294967296 ≤ Q ∨ 4294967296 * R + u1 < Q * b) : 1 ≤ Q ∧ Guess u u1 a v (Q - 1) (R + a) := by
  obtain ⟨g1, g2, g3, g4, g5⟩ := g; have hl := d.lt; have ha := d.a0
  have hd : (u * 4294967296 + u1) / v < Q := by
    rcases h with h | h
    · omega
    · have h6 := D5 4294967296 a b Q R u1 u g4 h
      rw [← d.hv] at h6; exact Int.ediv_lt_of_lt_mul (by have := d.uv; have := d.u0; omega) h6
  have h7 : 0 ≤ (u * 4294967296 + u1) / v := Int.ediv_nonneg (by have := d.u0; have := d.l0; omega) (by have := d.uv; have := d.u0; omega); refine ⟨by omega, by omega, by omega, by omega, ?_, by omega⟩; rw [g4]; grind
theorem Guess.bounds {u u1 a b v Q R : Int} (d : Digit u u1 a b v) (g : Guess u u1 a v Q R) : 0 ≤ Q * b ∧ Q * b ≤ 18446744073709551615 := by
  obtain ⟨g1, g2, g3, g4, g5⟩ := g; have h1 : Q * b ≤ 4294967297 * b := Int.mul_le_mul_of_nonneg_right g2 d.b0; have h2 : 0 ≤ Q * b := Int.mul_nonneg g1 d.b0; have := d.b1
  omega
theorem Digit.rest {u u1 a b v : Int} (d : Digit u u1 a b v) (hv : v ≤ 18446744073709551615) : IntKind.u64.wrap (IntKind.u64.wrap (IntKind.u64.wrap (u * 4294967296) + u1) - IntKind.u64.wrap ((u * 4294967296 + u1) / v * v)) = (u * 4294967296 + u1) % v := by
  have h1 := Int.mul_ediv_add_emod (u * 4294967296 + u1) v; have h2 := Int.emod_lt_of_pos (u * 4294967296 + u1) (b := v) (by have := d.uv; have := d.u0; omega); have h3 := Int.emod_nonneg (u * 4294967296 + u1) (b := v) (by have := d.uv; have := d.u0; omega); rw [Int.mul_comm] at h1
  simp only [gW]
  omega
end Go.Proofs.YtbkjdcpfkepheaaGreatDoor.Lv
namespace Go.Proofs.YtbkjdcpfkepheaaGreatDoor.Lv
open Go
def wd (h l : Int) : Int := h * 18446744073709551616 + l
def aF (n : Int) : Int := n / 18446744073709551616 % 18446744073709551616
def aK (n : Int) : Int := n % 18446744073709551616
theorem aQ (n : Int) : u64 (aF n) := by unfold aF u64; omega
theorem aO (n : Int) : u64 (aK n) := by unfold aK u64; omega
theorem xp (n : Int) : wd (aF n) (aK n) = n % 340282366920938463463374607431768211456 := by unfold wd aF aK; omega
theorem cV {n : Int} (h : 0 ≤ n) (g : n < 340282366920938463463374607431768211456) : wd (aF n) (aK n) = n := by rw [xp]; omega
theorem D6 {h l : Int} (a : u64 h) (b : u64 l) : aF (wd h l) = h := by unfold aF wd; obtain ⟨a1, a2⟩ := a; obtain ⟨b1, b2⟩ := b; omega
theorem D7 {h l : Int} (a : u64 h) (b : u64 l) : aK (wd h l) = l := by unfold aK wd; obtain ⟨a1, a2⟩ := a; obtain ⟨b1, b2⟩ := b; omega
end Go.Proofs.YtbkjdcpfkepheaaGreatDoor.Lv
namespace Go.Proofs.YtbkjdcpfkepheaaGreatDoor.Lv
open Go
def dg : Nat → Nat → List UInt8
  | 0, _ => []
  | f + 1, n => if n < 10 then [UInt8.ofNat (48 + n)] else dg f (n / 10) ++ [UInt8.ofNat (48 + n % 10)]
theorem xq : ∀ (f n : Nat), n < 10 ^ f → 0 < f → dg f n = dg (f + 1) n
  | 0, _, _, h => absurd h (by omega)
  | 1, n, h, _ => by
    have : n < 10 := by simpa using h
    simp [dg, this]
  | f + 2, n, h, _ => by
    unfold dg
    by_cases c : n < 10
    · simp [c]
    · rw [if_neg c, if_neg c, xq (f + 1) (n / 10) (by rw [Nat.div_lt_iff_lt_mul (by omega)]; rw [Nat.pow_succ] at h; exact h) (by omega)]
def xh (n : Nat) : List UInt8 := dg 20 n
theorem xr {n : Nat} (h : n < 10) : xh n = [UInt8.ofNat (48 + n)] := by unfold xh dg; rw [if_pos h]
theorem lF {n : Nat} (h : 10 ≤ n) (g : n < 100000000000000000000) : xh n = xh (n / 10) ++ [UInt8.ofNat (48 + n % 10)] := by
  have e : dg 19 (n / 10) = dg 20 (n / 10) := xq 19 (n / 10) (by omega) (by omega); show dg 20 n = dg 20 (n / 10) ++ _; rw [← e]
  conv => lhs; unfold dg
  rw [if_neg (by omega)]
theorem li {n : Nat} : ∀ (k : Nat), n < 10 ^ k → 0 < k → k ≤ 20 → (xh n).length ≤ k := by
  intro k
  induction k generalizing n with
  | zero => intro _ h; omega
  | succ k ih =>
    intro h _ hk; have h20 : (10 : Nat) ^ (k + 1) ≤ 10 ^ 20 := Nat.pow_le_pow_right (by omega) hk
    by_cases c : n < 10
    · rw [xr c]; simp
    · rw [lF (by omega) (by omega)]
      have hk0 : 0 < k := by
        rcases Nat.eq_zero_or_pos k with h0 | h0
        · subst h0; simp at h; omega
        · exact h0
      have := ih (n := n / 10) (by rw [Nat.div_lt_iff_lt_mul (by omega)]; rw [Nat.pow_succ] at h; exact h) hk0 (by omega)
      simp; omega
def je (l : List UInt8) : List UInt8 := (l.reverse.dropWhile (· == 48)).reverse
theorem nm (l : List UInt8) : je (l ++ [48]) = je l := by unfold je; simp
theorem rO (l : List UInt8) {c : UInt8} (h : c ≠ 48) : je (l ++ [c]) = l ++ [c] := by
  unfold je; rw [List.reverse_append]
  simp only [List.reverse_cons, List.reverse_nil, List.nil_append, List.singleton_append]
  rw [List.dropWhile_cons_of_neg (by simpa using h)]
  simp
def fmt (a : Int) : List UInt8 :=
  (if a < 0 then [45] else []) ++ xh (a.natAbs / 10000) ++ (if a.natAbs % 10000 = 0 then [] else 46 :: je ((xh (10000 + a.natAbs % 10000)).drop 1))
def rP (p : Nat) : List UInt8 := [UInt8.ofNat (48 + p / 1000), UInt8.ofNat (48 + p / 100 % 10), UInt8.ofNat (48 + p / 10 % 10), UInt8.ofNat (48 + p % 10)]
theorem xt {p : Nat} (h : p < 10000) : xh (10000 + p) = 49 :: rP p := by
  rw [lF (by omega) (by omega), show (10000 + p) / 10 = 1000 + p / 10 by omega, lF (by omega) (by omega), show (1000 + p / 10) / 10 = 100 + p / 100 by omega,
    lF (by omega) (by omega), show (100 + p / 100) / 10 = 10 + p / 1000 by omega, lF (by omega) (by omega), show (10 + p / 1000) / 10 = 1 by omega, xr (by omega)]
  rw [show (10000 + p) % 10 = p % 10 by omega, show (1000 + p / 10) % 10 = p / 10 % 10 by omega, show (100 + p / 100) % 10 = p / 100 % 10 by omega, show (10 + p / 1000) % 10 = p / 1000 by omega]
  rfl
end Go.Proofs.YtbkjdcpfkepheaaGreatDoor.Lv
namespace Go.Proofs.YtbkjdcpfkepheaaGreatDoor.Lv
open Go
def isD (c : UInt8) : Bool := decide (48 ≤ c.toNat ∧ c.toNat ≤ 57)
def nd : List UInt8 → Nat
  | [] => 0
  | c :: l => if isD c then nd l + 1 else 0
theorem dL : ∀ l : List UInt8, nd l ≤ l.length
  | [] => Nat.le_refl _
  | c :: l => by have := dL l; unfold nd; split <;> simp <;> omega
theorem xu {l : List UInt8} {k : Nat} (h : k < l.length) (d : isD l[k] = true) : nd (l.drop k) = 1 + nd (l.drop (k + 1)) := by
  rw [List.drop_eq_getElem_cons h]; show (if isD l[k] = true then nd (l.drop (k + 1)) + 1 else 0) = _; rw [if_pos d]; omega
theorem xv {l : List UInt8} {k : Nat} (h : k < l.length) (d : isD l[k] = false) : nd (l.drop k) = 0 := by
  rw [List.drop_eq_getElem_cons h]; show (if isD l[k] = true then nd (l.drop (k + 1)) + 1 else 0) = _; rw [if_neg (by simp [d])]
theorem Dh {l : List UInt8} {k : Nat} (h : l.length ≤ k) : nd (l.drop k) = 0 := by rw [List.drop_eq_nil_of_le h]; rfl
def xi : List UInt8 → Option (List UInt8)
  | [] => some []
  | c :: r => if c = 46 ∧ r ≠ [] ∧ nd r = r.length then some r else none
def val (l : List UInt8) : Nat := l.foldl (fun v c => 10 * v + (c.toNat - 48)) 0
theorem fK (l : List UInt8) (c : UInt8) : val (l ++ [c]) = 10 * val l + (c.toNat - 48) := by unfold val; rw [List.foldl_append]; rfl
def pad (r : List UInt8) : List UInt8 := r ++ [48, 48, 48, 48, 48]
def br (r : List UInt8) : List UInt8 := (pad r).take 4
def ed (r : List UInt8) : UInt8 := (pad r).getD 4 48
def bw (ng : Bool) (m : List UInt8) : Int × Int :=
  if nd m = 0 then (0, 4)
  else match xi (m.drop (nd m)) with
    | none => (0, 4)
    | some r =>
      let v : Int := val (m.take (nd m) ++ br r) + (if 53 ≤ (ed r).toNat then 1 else 0)
      if v ≤ 9223372036854775807 then (sg ng v, 0) else (0, 3)
def cW (l : List UInt8) : Int × Int := if l.head? = some 45 then bw true l.tail else bw false l
theorem fM {l : List UInt8} {k : Nat} (h : k < l.length) : val (l.take (k + 1)) = 10 * val (l.take k) + (l[k].toNat - 48) := by
  rw [List.take_succ_eq_append_getElem h, fK]
theorem lG : ∀ {l : List UInt8}, nd l = l.length → ∀ c ∈ l, isD c = true
  | [], _, c, hc => by cases hc
  | a :: l, h, c, hc => by
    by_cases d : isD a = true
    · have e : nd (a :: l) = nd l + 1 := if_pos d
      rw [e] at h; rcases List.mem_cons.1 hc with rfl | hc
      · exact d
      · exact lG (by simpa using h) c hc
    · have e : nd (a :: l) = 0 := if_neg d
      rw [e] at h; simp at h
theorem gC {c : UInt8} : isD c = true ↔ 48 ≤ c.toNat ∧ c.toNat ≤ 57 := by unfold isD; simp
end Go.Proofs.YtbkjdcpfkepheaaGreatDoor.Lv
namespace Go.Proofs.YtbkjdcpfkepheaaGreatDoor.Lv
open Go
theorem tL : ∀ (m l : List UInt8), val l ≤ val (l ++ m)
  | [], l => by rw [List.append_nil]; exact Nat.le_refl _
  | c :: m, l => by
    have h := tL m (l ++ [c]); rw [fK, List.append_assoc] at h; have e : l ++ ([c] ++ m) = l ++ c :: m := rfl; rw [e] at h
    omega
theorem rQ (l : List UInt8) (k : Nat) : val (l.take k) ≤ val l := by
  have h := tL (l.drop k) (l.take k); rw [List.take_append_drop] at h; exact h
theorem xw (r : List UInt8) {j : Nat} (h : j < r.length) : (pad r)[j]? = r[j]? := by unfold pad; rw [List.getElem?_append_left h]
theorem tM (r : List UInt8) {j : Nat} (h : r.length ≤ j) (g : j < r.length + 5) : (pad r)[j]? = some 48 := by
  unfold pad; rw [List.getElem?_append_right h]; obtain ⟨i, hi⟩ : ∃ i, i = j - r.length := ⟨_, rfl⟩; rw [← hi]
  match i, (show i < 5 by omega) with
  | 0, _ => rfl
  | 1, _ => rfl
  | 2, _ => rfl
  | 3, _ => rfl
  | 4, _ => rfl
theorem D8 (r : List UInt8) : (pad r).length = r.length + 5 := by unfold pad; simp
theorem nn (r : List UInt8) {j : Nat} (h : j < 4) : (br r)[j]? = (pad r)[j]? := by unfold br; rw [List.getElem?_take_of_lt h]
theorem dG (r : List UInt8) : (br r).length = 4 := by unfold br; rw [List.length_take, D8]; omega
theorem jf {l : List UInt8} {k : Nat} {c : UInt8} (h : l[k]? = some c) : val (l.take (k + 1)) = 10 * val (l.take k) + (c.toNat - 48) := by
  obtain ⟨hk, e⟩ := List.getElem?_eq_some_iff.1 h; rw [fM hk, e]
def jg (f P : Nat) (L : List UInt8) (k : Nat) : Nat := val (L.take (if k ≤ P then k - f else k - f - 1))
section
variable {pre wh t r : List UInt8} {f P n : Nat}
theorem dH {L : List UInt8} (h : f ≤ P) : jg f P L f = 0 := by unfold jg; rw [if_pos h, Nat.sub_self]; rfl
theorem dI {L : List UInt8} (h : f ≤ P) : jg f P L (P + 1) = jg f P L P := by
  unfold jg; rw [if_neg (by omega), if_pos (Nat.le_refl _), show P + 1 - f - 1 = P - f by omega]
theorem jh {L : List UInt8} (h : f ≤ P) (hl : L.length = P - f + 4) : jg f P L (P + 5) = val L := by
  unfold jg; rw [if_neg (by omega), show P + 5 - f - 1 = L.length by omega, List.take_length]
theorem gD {L : List UInt8} (h : f ≤ P) (hl : L.length = P - f + 4) (k : Nat) : jg f P L k ≤ jg f P L (P + 5) := by
  rw [jh h hl]; exact rQ _ _
theorem Bl {L : List UInt8} {k : Nat} {c : UInt8} (h : f ≤ k) (hk : k < P) (e : L[k - f]? = some c) : jg f P L (k + 1) = 10 * jg f P L k + (c.toNat - 48) := by
  unfold jg; rw [if_pos (by omega), if_pos (by omega), show k + 1 - f = k - f + 1 by omega, jf e]
theorem pJ {L : List UInt8} {k : Nat} {c : UInt8} (h : f ≤ P) (hk : P < k) (e : L[k - f - 1]? = some c) : jg f P L (k + 1) = 10 * jg f P L k + (c.toNat - 48) := by
  unfold jg; rw [if_neg (by omega), if_neg (by omega), show k + 1 - f - 1 = k - f - 1 + 1 by omega, jf e]
theorem gX (hw : ∀ c ∈ wh, isD c = true) (hr : ∀ c ∈ r, isD c = true) (ht : t = [] ∧ r = [] ∨ t = 46 :: r) (hf : pre.length = f) (hP : P = f + wh.length)
    (k : Nat) (h : k < (pre ++ (wh ++ t)).length) (h1 : f ≤ k) (h2 : k ≠ P) (h3 : k < P + 5) :
    48 ≤ ((pre ++ (wh ++ t))[k]).toNat ∧ ((pre ++ (wh ++ t))[k]).toNat ≤ 57 ∧ jg f P (wh ++ br r) (k + 1) = 10 * jg f P (wh ++ br r) k + (((pre ++ (wh ++ t))[k]).toNat - 48) := by
  obtain ⟨c, hc⟩ : ∃ c, c = (pre ++ (wh ++ t))[k] := ⟨_, rfl⟩; rw [← hc]; have e : (pre ++ (wh ++ t))[k]? = some c := by rw [hc, List.getElem?_eq_getElem]
  rw [List.getElem?_append_right (by omega), hf] at e
  by_cases lt : k < P
  · rw [List.getElem?_append_left (by omega)] at e
    have d := gC.1 (hw c (List.mem_of_getElem? e)); refine ⟨d.1, d.2, Bl h1 lt ?_⟩; rw [List.getElem?_append_left (by omega)]; exact e
  · rw [List.getElem?_append_right (by omega)] at e
    rcases ht with ⟨rfl, rfl⟩ | rfl
    · simp at e
    · rw [show k - f - wh.length = (k - f - 1 - wh.length) + 1 by omega, List.getElem?_cons_succ] at e
      have d := gC.1 (hr c (List.mem_of_getElem? e)); refine ⟨d.1, d.2, pJ (by omega) (by omega) ?_⟩
      have hlt : k - f - 1 - wh.length < r.length := by
        obtain ⟨h, _⟩ := List.getElem?_eq_some_iff.1 e; exact h
      rw [List.getElem?_append_right (by omega), nn _ (by omega), xw _ hlt]; exact e
theorem ji (ht : t = [] ∧ r = [] ∨ t = 46 :: r) (hf : pre.length = f) (hP : P = f + wh.length)
    (k : Nat) (h : (pre ++ (wh ++ t)).length ≤ k) (h2 : k ≠ P) (h3 : k < P + 5) : jg f P (wh ++ br r) (k + 1) = 10 * jg f P (wh ++ br r) k := by
  rw [List.length_append, List.length_append] at h
  have e : (wh ++ br r)[k - f - 1]? = some 48 := by
    rw [List.getElem?_append_right (by omega), nn _ (by omega), tM]
    · rcases ht with ⟨rfl, rfl⟩ | rfl
      · simp
      · simp at h; omega
    · omega
  rw [pJ (by omega) (by omega) e]
  rfl
end
theorem lH (r : List UInt8) (h : r.length ≤ 4) : ed r = 48 := by unfold ed; rw [List.getD_eq_getElem?_getD, tM r h (by omega)]; rfl
theorem np (r : List UInt8) (h : 4 < r.length) : r[4]? = some (ed r) := by
  unfold ed; rw [List.getD_eq_getElem?_getD, xw r h, List.getElem?_eq_getElem h]; rfl
end Go.Proofs.YtbkjdcpfkepheaaGreatDoor.Lv
namespace Go.Proofs.YtbkjdcpfkepheaaGreatDoor.Lv
open Go
theorem ew {d : Nat} (h : d < 10) : (UInt8.ofNat (48 + d)).toNat = 48 + d := by simp; omega
theorem tN (l : List UInt8) {p : Nat} (h : p < 10000) : val (l ++ rP p) = val l * 10000 + p := by
  have e : l ++ rP p = (((l ++ [UInt8.ofNat (48 + p / 1000)]) ++ [UInt8.ofNat (48 + p / 100 % 10)]) ++ [UInt8.ofNat (48 + p / 10 % 10)]) ++ [UInt8.ofNat (48 + p % 10)] := by simp [rP]
  rw [e, fK, fK, fK, fK, ew (by omega), ew (by omega), ew (by omega), ew (by omega)]
  omega
theorem tP {P : List UInt8 → Prop} (h0 : P []) (h1 : ∀ l c, P l → P (l ++ [c])) : ∀ l, P l := by
  have h : ∀ l : List UInt8, P l.reverse := by
    intro l
    induction l with
    | nil => exact h0
    | cons a l ih => rw [List.reverse_cons]; exact h1 _ _ ih
  intro l; have := h l.reverse
  rwa [List.reverse_reverse] at this
theorem vv : ∀ (l : List UInt8), ∃ k, l = je l ++ List.replicate k 48 := by
  refine tP ⟨0, rfl⟩ ?_
  · intro l c ih
    by_cases h : c = 48
    · subst h
      obtain ⟨k, hk⟩ := ih; refine ⟨k + 1, ?_⟩; rw [nm, List.replicate_succ', ← List.append_assoc, ← hk]
    · exact ⟨0, by rw [rO l h]; simp⟩
theorem og (l : List UInt8) : (je l).length ≤ l.length := by
  obtain ⟨k, hk⟩ := vv l; have := congrArg List.length hk; rw [List.length_append] at this
  omega
theorem rR {l : List UInt8} {k : Nat} {r : List UInt8} (h : l = r ++ List.replicate k 48) : (je l).length ≤ r.length := by
  induction k generalizing l with
  | zero => rw [h]; simp; exact og r
  | succ k ih =>
    rw [List.replicate_succ', ← List.append_assoc] at h; rw [h, nm]; exact ih rfl
theorem pK (r : List UInt8) : (je (br r)).length ≤ r.length := by
  by_cases h : 4 ≤ r.length
  · exact Nat.le_trans (og _) (by rw [dG]; exact h)
  · refine rR (k := 4 - r.length) ?_
    unfold br pad; rw [List.take_append, List.take_of_length_le (by omega)]
    congr 1
    match r.length, (show r.length < 4 by omega) with
    | 0, _ => rfl
    | 1, _ => rfl
    | 2, _ => rfl
    | 3, _ => rfl
theorem rS {t r : List UInt8} (h : xi t = some r) : (t = [] ∧ r = []) ∨ (t = 46 :: r ∧ r ≠ [] ∧ nd r = r.length) := by
  rcases t with _ | ⟨c, t⟩
  · left; simp [xi] at h; exact ⟨rfl, h⟩
  · by_cases g : c = 46 ∧ t ≠ [] ∧ nd t = t.length
    · rw [show xi (c :: t) = some t from if_pos g] at h
      have e : t = r := Option.some.inj h; subst e; exact Or.inr ⟨by rw [g.1], g.2.1, g.2.2⟩
    · rw [show xi (c :: t) = none from if_neg g] at h
      cases h
theorem Di : ∀ (l : List UInt8), (∀ c ∈ l, isD c = true) → val l < 10 ^ l.length := by
  refine tP (fun _ => by simp [val]) ?_
  · intro l c ih h
    have h1 := ih (fun x hx => h x (by simp [hx])); have h2 := gC.1 (h c (by simp)); rw [fK, List.length_append, List.length_singleton, Nat.pow_succ]
    omega
theorem nq {v : Nat} {l : List UInt8} (hl : ∀ c ∈ l, isD c = true) (h0 : 0 < l.length) (hv : v ≤ val l) (hb : v < 100000000000000000000) : (xh v).length ≤ l.length := by
  by_cases c : l.length ≤ 20
  · exact li l.length (Nat.lt_of_le_of_lt hv (Di l hl)) h0 c
  · have := li (n := v) 20 (by omega) (by omega) (by omega)
    omega
theorem xx {v : Nat} {l : List UInt8} (hl : ∀ c ∈ l, isD c = true) (hv : v = val l + 1) (hb : v < 100000000000000000000) : (xh v).length ≤ l.length + 1 := by
  by_cases c : l.length + 1 ≤ 20
  · refine li (l.length + 1) ?_ (by omega) c
    have := Di l hl; rw [Nat.pow_succ]; omega
  · have := li (n := v) 20 (by omega) (by omega) (by omega)
    omega
theorem D9 : ∀ (f : List UInt8), f.length = 4 → (∀ c ∈ f, isD c = true) → ∃ p, p < 10000 ∧ f = rP p := by
  intro f h hd
  match f, h with
  | [a, b, c, d], _ =>
    have ha := gC.1 (hd a (by simp)); have hb := gC.1 (hd b (by simp)); have hc := gC.1 (hd c (by simp)); have hd' := gC.1 (hd d (by simp)); refine ⟨(a.toNat - 48) * 1000 + (b.toNat - 48) * 100 + (c.toNat - 48) * 10 + (d.toNat - 48), by omega, ?_⟩; unfold rP
    congr 1
    · apply UInt8.toNat_inj.1; rw [ew (by omega)]; omega
    congr 1
    · apply UInt8.toNat_inj.1; rw [ew (by omega)]; omega
    congr 1
    · apply UInt8.toNat_inj.1; rw [ew (by omega)]; omega
    congr 1
    · apply UInt8.toNat_inj.1; rw [ew (by omega)]; omega
theorem tQ : ∀ (m : List UInt8), ∀ c ∈ m.take (nd m), isD c = true
  | [], c, hc => by simp at hc
  | a :: m, c, hc => by
    by_cases d : isD a = true
    · have e : nd (a :: m) = nd m + 1 := if_pos d
      rw [e, List.take_succ_cons] at hc; rcases List.mem_cons.1 hc with rfl | hc
      · exact d
      · exact tQ m c hc
    · have e : nd (a :: m) = 0 := if_neg d
      rw [e] at hc; simp at hc
theorem xy (b : Bool) (v : Nat) : (fmt (sg b v)).length ≤ (if b then 1 else 0) + (xh (v / 10000)).length + (if v % 10000 = 0 then 0 else 1 + (je (rP (v % 10000))).length) := by
  unfold fmt; have e : (sg b (v : Int)).natAbs = v := by unfold sg; split <;> omega
  rw [e, xt (by omega), show (49 :: rP (v % 10000)).drop 1 = rP (v % 10000) from rfl]
  have s : (if sg b (v : Int) < 0 then [45] else ([] : List UInt8)).length ≤ if b then 1 else 0 := by
    by_cases hh : sg b (v : Int) < 0
    · rw [if_pos hh]
      cases b
      · exact absurd hh (by unfold sg; simp)
      · simp
    · rw [if_neg hh]; simp
  rw [List.length_append, List.length_append]
  have t : (if v % 10000 = 0 then [] else 46 :: je (rP (v % 10000))).length = if v % 10000 = 0 then 0 else 1 + (je (rP (v % 10000))).length := by
    split
    · rfl
    · simp; omega
  omega
theorem xz {b : Bool} {m : List UInt8} (h : (bw b m).2 = 0) :
    ∃ (v : Nat), v ≤ 9223372036854775807 ∧ (bw b m) = (sg b v, 0) ∧ (xh (v / 10000)).length + (if v % 10000 = 0 then 0 else 1 + (je (rP (v % 10000))).length) ≤ m.length := by
  by_cases n0 : nd m = 0
  · exfalso; unfold bw at h; rw [if_pos n0] at h; simp at h
  · rcases hf : xi (m.drop (nd m)) with _ | r
    · exfalso; unfold bw at h; rw [if_neg n0, hf] at h; simp at h
    · obtain ⟨v, hv⟩ : ∃ v : Nat, v = val (m.take (nd m) ++ br r) + (if 53 ≤ (ed r).toNat then 1 else 0) := ⟨_, rfl⟩
      have e : bw b m = if (v : Int) ≤ 9223372036854775807 then (sg b v, 0) else (0, 3) := by
        unfold bw; rw [if_neg n0, hf]; have e2 : (v : Int) = (val (m.take (nd m) ++ br r) : Int) + (if 53 ≤ (ed r).toNat then 1 else 0) := by rw [hv]; split <;> simp
        rw [e2]
      by_cases g : (v : Int) ≤ 9223372036854775807
      · rw [if_pos g] at e
        refine ⟨v, by omega, e, ?_⟩; have ln := dL m; have lw : (m.take (nd m)).length = nd m := by rw [List.length_take]; omega
        have hw := tQ m
        have hr : ∀ c ∈ br r, isD c = true := by
          intro c hc; rcases List.mem_append.1 (List.mem_of_mem_take hc) with h1 | h1
          · rcases rS hf with ⟨_, rfl⟩ | ⟨_, _, h3⟩
            · cases h1
            · exact lG h3 c h1
          · simp at h1; subst h1; rfl
        obtain ⟨p, hp, hpf⟩ := D9 (br r) (dG r) hr; have sp := pK r; have lm : m.length = nd m + (m.drop (nd m)).length := by rw [List.length_drop]; omega
        rw [hpf, tN _ hp] at hv; rw [hpf] at sp
        by_cases five : 53 ≤ (ed r).toNat
        · rw [if_pos five] at hv
          have r5 : 4 < r.length := by
            rcases Nat.lt_or_ge 4 r.length with h | h
            · exact h
            · rw [lH r h] at five; exact absurd five (by decide)
          have lt : (m.drop (nd m)).length = 1 + r.length := by
            rcases rS hf with ⟨_, rfl⟩ | ⟨h1, _, _⟩
            · simp at r5
            · rw [h1]; simp; omega
          by_cases p9 : p = 9999
          · have v1 : v / 10000 = val (m.take (nd m)) + 1 := by omega
            have v2 : v % 10000 = 0 := by omega
            have := xx (v := v / 10000) hw v1 (by omega); rw [if_pos v2]; omega
          · have := nq (v := v / 10000) hw (by omega) (by omega) (by omega)
            have s4 := og (rP (v % 10000)); have l4 : (rP (v % 10000)).length = 4 := rfl
            split <;> omega
        · rw [if_neg five] at hv
          have v1 : v / 10000 = val (m.take (nd m)) := by omega
          have v2 : v % 10000 = p := by omega
          have := nq (v := v / 10000) hw (by omega) (by omega) (by omega); rw [v2]; rcases rS hf with ⟨h1, rfl⟩ | ⟨h1, h2, _⟩
          · have p0 : p = 0 := by
              have e0 : val ([] ++ br []) = val ([] ++ rP p) := by rw [hpf]
              rw [tN [] hp, show val ([] ++ br []) = 0 from rfl, show val [] = 0 from rfl] at e0
              omega
            rw [if_pos p0]; omega
          · rw [h1, List.length_cons] at lm
            split <;> omega
      · exfalso; rw [e, if_neg g] at h; simp at h
theorem Bm {l : List UInt8} (h : (cW l).2 = 0) : ∃ n : Int, -9223372036854775807 ≤ n ∧ n ≤ 9223372036854775807 ∧ cW l = (n, 0) ∧ (fmt n).length ≤ l.length := by
  unfold cW at *; rcases l with _ | ⟨c, m⟩
  · exfalso; simp [bw, nd] at h
  · by_cases hc : c = 45
    · subst hc
      rw [if_pos (by rfl)] at *; obtain ⟨v, v1, v2, v3⟩ := xz h; refine ⟨sg true v, by unfold sg; simp <;> omega, by unfold sg; simp <;> omega, v2, ?_⟩; have := xy true v
      simp only [if_pos] at this
      rw [List.length_cons]; rw [List.tail_cons] at v3
      omega
    · rw [if_neg (by simpa using hc)] at *
      obtain ⟨v, v1, v2, v3⟩ := xz h; refine ⟨sg false v, by unfold sg; simp <;> omega, by unfold sg; simp <;> omega, v2, ?_⟩; have := xy false v
      simp only [Bool.false_eq_true, if_false] at this
      omega
end Go.Proofs.YtbkjdcpfkepheaaGreatDoor.Lv
namespace Go.Proofs.YtbkjdcpfkepheaaGreatDoor.Lv
open Go
structure Vl where
  k : Nat
  n : Int
  t : List UInt8
def okT (t : List UInt8) : Bool := decide (t.length ≤ 256) && eG t
def vOk (v : Vl) : Bool :=
  if v.k = 0 then decide (v.n = 0 ∧ v.t = []) else if v.k = 1 then decide (v.t = [] ∧ v.n ≠ -9223372036854775808)
  else if v.k = 2 then decide (v.t = [] ∧ (v.n = 0 ∨ v.n = 1)) else if v.k = 3 then decide (v.n = 0) && okT v.t
  else if v.k = 4 then decide (v.t = [] ∧ 1 ≤ v.n ∧ v.n ≤ 6) else false
def aG (c : Int) : Vl := ⟨4, if 1 ≤ c ∧ c ≤ 7 then c else 2, []⟩
def ay (n : Int) : Vl := if n = -9223372036854775808 then aG 3 else ⟨1, n, []⟩
def eL (b : Bool) : Vl := ⟨2, if b then 1 else 0, []⟩
def I1 : List UInt8 := [84, 82, 85, 69]
def noT : List UInt8 := [70, 65, 76, 83, 69]
def iC (t : List UInt8) : Vl := if (cW (eY t)).2 = 0 then ay (cW (eY t)).1 else if (cW (eY t)).2 = 3 then aG 3 else aG 2
def aL (v : Vl) : Vl := if vOk v = false then aG 2 else if v.k = 0 then ay 0 else if v.k = 2 then ay (v.n * 10000) else if v.k = 3 then iC v.t else v
def F1 (v : Vl) : Vl := if vOk v = false then aG 2 else if v.k = 0 then ⟨3, 0, []⟩ else if v.k = 1 then ⟨3, 0, fmt v.n⟩ else if v.k = 2 then ⟨3, 0, if v.n = 1 then I1 else noT⟩ else v
def rJ (v : Vl) (o : Nat) : Vl := if v.k = 0 then ⟨o, v.n, v.t⟩ else v
def mS (k : Nat) : Int := if k = 1 then 1 else if k = 3 then 2 else 3
def sgn (a b : Int) : Int := if a < b then -1 else if b < a then 1 else 0
def mT (x y : Vl) : Int := if x.k ≠ y.k then sgn (mS x.k) (mS y.k) else if x.k = 3 then Lib.compareBytes (gB x.t) (gB y.t) else sgn x.n y.n
def nr (v : Vl) : Bool := vOk v && decide (v.k ≠ 4)
def lI (a b : Vl) : Int × Int := if nr a && nr b then (mT (rJ a b.k) (rJ b a.k), 0) else (0, 2)
theorem Vl.same {a b : Vl} (h1 : a.k = b.k) (h2 : a.n = b.n) (h3 : a.t = b.t) : a = b := by cases a; cases b; simp only at h1 h2 h3; subst h1; subst h2; subst h3; rfl
theorem ok0 {n : Int} {t : List UInt8} : vOk ⟨0, n, t⟩ = decide (n = 0 ∧ t = []) := rfl
theorem ok1 {n : Int} {t : List UInt8} : vOk ⟨1, n, t⟩ = decide (t = [] ∧ n ≠ -9223372036854775808) := rfl
theorem ok2 {n : Int} {t : List UInt8} : vOk ⟨2, n, t⟩ = decide (t = [] ∧ (n = 0 ∨ n = 1)) := rfl
theorem ok3 {n : Int} {t : List UInt8} : vOk ⟨3, n, t⟩ = (decide (n = 0) && okT t) := rfl
theorem ok4 {n : Int} {t : List UInt8} : vOk ⟨4, n, t⟩ = decide (t = [] ∧ 1 ≤ n ∧ n ≤ 6) := rfl
theorem ok5 {k : Nat} {n : Int} {t : List UInt8} (h : 5 ≤ k) : vOk ⟨k, n, t⟩ = false := by
  unfold vOk; rw [if_neg (by simp only; omega), if_neg (by simp only; omega), if_neg (by simp only; omega), if_neg (by simp only; omega), if_neg (by simp only; omega)]
theorem fd {v : Vl} (h : vOk v = true) : v = ⟨0, 0, []⟩ ∨ (∃ n : Int, n ≠ -9223372036854775808 ∧ v = ⟨1, n, []⟩) ∨ v = eL false ∨ v = eL true ∨ (∃ t, okT t = true ∧ v = ⟨3, 0, t⟩) ∨ (∃ c : Int, 1 ≤ c ∧ c ≤ 6 ∧ v = ⟨4, c, []⟩) := by
  obtain ⟨k, n, t⟩ := v
  by_cases k0 : k = 0
  · subst k0; rw [ok0, decide_eq_true_eq] at h; obtain ⟨rfl, rfl⟩ := h; exact Or.inl rfl
  by_cases k1 : k = 1
  · subst k1; rw [ok1, decide_eq_true_eq] at h; obtain ⟨rfl, h⟩ := h; exact Or.inr (Or.inl ⟨n, h, rfl⟩)
  by_cases k2 : k = 2
  · subst k2; rw [ok2, decide_eq_true_eq] at h; obtain ⟨rfl, rfl | rfl⟩ := h
    · exact Or.inr (Or.inr (Or.inl rfl))
    · exact Or.inr (Or.inr (Or.inr (Or.inl rfl)))
  by_cases k3 : k = 3
  · subst k3; rw [ok3, Bool.and_eq_true, decide_eq_true_eq] at h; obtain ⟨rfl, h⟩ := h; exact Or.inr (Or.inr (Or.inr (Or.inr (Or.inl ⟨t, h, rfl⟩))))
  by_cases k4 : k = 4
  · subst k4; rw [ok4, decide_eq_true_eq] at h; obtain ⟨rfl, h1, h2⟩ := h; exact Or.inr (Or.inr (Or.inr (Or.inr (Or.inr ⟨n, h1, h2, rfl⟩))))
  · rw [ok5 (by omega)] at h; cases h
theorem rU (c : Int) (h : c ≠ 7) : vOk (aG c) = true := by
  unfold aG; rw [ok4, decide_eq_true_eq]; refine ⟨rfl, ?_, ?_⟩ <;> split <;> omega
theorem rV (n : Int) : vOk (ay n) = true := by
  unfold ay; split
  · exact rU 3 (by omega)
  · rw [ok1, decide_eq_true_eq]; exact ⟨rfl, by assumption⟩
theorem Bn (b : Bool) : vOk (eL b) = true := by cases b <;> rfl
theorem Bo (t : List UInt8) : vOk (iC t) = true := by
  unfold iC
  split
  · exact rV _
  · split <;> exact rU _ (by omega)
theorem xA (t : List UInt8) : (iC t).k = 1 ∨ (iC t).k = 4 := by
  unfold iC
  split
  · unfold ay; split
    · exact Or.inr rfl
    · exact Or.inl rfl
  · split <;> exact Or.inr rfl
theorem pL (v : Vl) : vOk (aL v) = true ∧ ((aL v).k = 1 ∨ (aL v).k = 4) := by
  by_cases h : vOk v = true
  · rcases fd h with rfl | ⟨n, hn, rfl⟩ | rfl | rfl | ⟨t, ht, rfl⟩ | ⟨c, h1, h2, rfl⟩
    · exact ⟨rfl, Or.inl rfl⟩
    · unfold aL; rw [h]; exact ⟨h, Or.inl rfl⟩
    · exact ⟨rfl, Or.inl rfl⟩
    · exact ⟨rfl, Or.inl rfl⟩
    · unfold aL; rw [h]; exact ⟨Bo t, xA t⟩
    · unfold aL; rw [h]; exact ⟨h, Or.inr rfl⟩
  · unfold aL; rw [if_pos (by simpa using h)]; exact ⟨rfl, Or.inr rfl⟩
end Go.Proofs.YtbkjdcpfkepheaaGreatDoor.Lv
namespace Go.Proofs.YtbkjdcpfkepheaaGreatDoor.Lv
open Go
theorem Bp {v : Vl} (h : vOk v = true) (k : v.k = 1 ∨ v.k = 4) : aL v = v := by
  unfold aL; rw [if_neg (by rw [h]; simp), if_neg (by omega), if_neg (by omega), if_neg (by omega)]
end Go.Proofs.YtbkjdcpfkepheaaGreatDoor.Lv
