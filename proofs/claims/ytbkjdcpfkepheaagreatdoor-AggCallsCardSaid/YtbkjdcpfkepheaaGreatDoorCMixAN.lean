/- Small texts together: MAgg, GAgg0, SX13, SX12, SZ1. -/
import Derived.Test.YtbkjdcpfkepheaaGreatDoorCMixAM
import Derived.Laws.Cells
set_option linter.unusedVariables false
set_option linter.unusedSimpArgs false
namespace Go.Proofs.YtbkjdcpfkepheaaGreatDoor
namespace Lv
open Go
structure Rc where
  c1 : Int
  r1 : Int
  c2 : Int
  r2 : Int
deriving DecidableEq
structure Cl where
  c : Int
  r : Int
  v : Vl
structure Ar where
  w : Bool
  v : Vl
  x : Rc
  l : List Cl
def vU (c r : Int) : Bool := decide (1 ≤ c ∧ c ≤ 1024 ∧ 1 ≤ r ∧ r ≤ 1024)
def okR (x : Rc) : Bool := vU x.c1 x.r1 && vU x.c2 x.r2 && decide (x.c1 ≤ x.c2 ∧ x.r1 ≤ x.r2)
def jL (x : Rc) (c r : Int) : Bool := decide (x.c1 ≤ c ∧ c ≤ x.c2 ∧ x.r1 ≤ r ∧ r ≤ x.r2)
def bh (x : Rc) : Int := x.c2 - x.c1 + 1
def cd (x : Rc) : Int := x.r2 - x.r1 + 1
def aJ (x : Rc) : Int := if okR x then bh x * cd x else 0
def bN (x : Rc) (c r : Int) : Int := (r - x.r1) * bh x + c - x.c1
def dA (p q : Cl) : Bool := decide (p.r < q.r) || (decide (p.r = q.r) && decide (p.c < q.c))
def mc (x : Rc) (b : Int) (c : Cl) : Bool := jL x c.c c.r && decide (c.v.k ≠ 0) && vOk c.v && decide (b < bN x c.c c.r)
def db (x : Rc) : Int → List Cl → Bool
  | _, [] => true
  | b, c :: l => mc x b c && db x (bN x c.c c.r) l
def sD : Rc := ⟨0, 0, 0, 0⟩
def Js (a : Ar) : Bool := if a.w then decide (a.v.k = 0 ∧ a.v.n = 0 ∧ a.v.t = []) && okR a.x && db a.x (-1) a.l else vOk a.v && decide (a.x = sD) && decide (a.l.length = 0)
def rK (a : Ar) : List Vl := if a.w then (a.l.map Cl.v).filter (fun v => decide (v.k = 1 ∨ v.k = 4)) else [aL a.v]
def aH (l : List Ar) : List Vl := (l.map rK).flatten
def cE (l : List Ar) : List Int × Vl × Bool := match ax (aH l) with
  | some e => ([], e, false)
  | none => ((aH l).map Vl.n, aj, true)
def bR (l : List Ar) : List Int × Vl × Bool := if l.all Js then cE l else ([], aG 2, false)
def ai (a : Ar) : Rc × List Cl := if a.w then (a.x, a.l) else (⟨1, 1, 1, 1⟩, if a.v.k = 0 then [] else [⟨1, 1, a.v⟩])
def rL (l : List Cl) (c r : Int) : Vl := match l.find? (fun p => decide (p.c = c ∧ p.r = r)) with
  | some p => p.v
  | none => aj
def aX (a b : Vl) : Bool := decide ((lI a b).2 = 0) && decide ((lI a b).1 = 0)
def ar (l : List Int) : List Int := l.mergeSort (fun a b => decide (a ≤ b))
def fH : Int → List Int → Int × Bool
  | x, [] => (x, true)
  | x, n :: l => if (lh x n).2 then fH (lh x n).1 l else (0, false)
def cR (fn : Nat) (l : List Int) : Vl :=
  if fn = 9 ∨ fn = 46 then eX (lZ l)
  else if fn = 14 ∨ fn = 48 then (if l = [] then aG 1 else eX (bM l))
  else if fn = 17 then (if l = [] then aG 3 else if l.length % 2 = 1 then ay ((ar l).getD (l.length / 2) 0) else eX (bM [(ar l).getD (l.length / 2 - 1) 0, (ar l).getD (l.length / 2) 0]))
  else if l = [] then ay 0
  else if fn = 15 ∨ fn = 49 then ay (l.tail.foldl min (l.headD 0))
  else if fn = 16 ∨ fn = 50 then ay (l.tail.foldl max (l.headD 0))
  else eX (fH (l.headD 0) l.tail)
def cw (fn : Nat) : Bool := decide (fn = 9 ∨ fn = 10 ∨ fn = 14 ∨ fn = 15 ∨ fn = 16 ∨ fn = 17 ∨ fn = 46 ∨ fn = 48 ∨ fn = 49 ∨ fn = 50)
def bS (fn : Nat) (l : List Ar) : Int := ((l.map fun a =>
  if fn = 13 then aJ (ai a).1 - (ai a).2.length
  else ((((ai a).2.filter fun c => decide (fn = 12 ∨ c.v.k = 1)).length : Nat) : Int)).sum)
def dK (v : Vl) : Int := Int.tdiv (aL v).n 10000
def cH (a : Ar) (k : Vl) (desc : Bool) : Vl :=
  if (cE [a]).2.2 = false then (cE [a]).2.1
  else if isE (aL k) then aL k
  else if dK k < 1 ∨ ((cE [a]).1.length : Int) < dK k then aG 3
  else ay ((if desc then (ar (cE [a]).1).reverse else ar (cE [a]).1).getD (dK k - 1).toNat 0)
def cM (a : Ar) (v : Vl) : Vl :=
  if v.k = 4 then v
  else ay (((if aX aj v then aJ (ai a).1 - (ai a).2.length else 0) + ((ai a).2.filter fun c => aX c.v v).length) * 10000)
def bG (x : Rc) (v : Vl) (b : Bool) : Int → List Cl → Int
  | next, [] => if b = true ∧ next < aJ x then next + 1 else 0
  | next, c :: l => if b = true ∧ next < bN x c.c c.r then next + 1 else if aX c.v v then bN x c.c c.r + 1 else bG x v b (bN x c.c c.r + 1) l
def dQ (v : Vl) (a : Ar) : Vl := if v.k = 4 then v else
  if bG (ai a).1 v (aX aj v) 0 (ai a).2 = 0 then aG 4 else ay (bG (ai a).1 v (aX aj v) 0 (ai a).2 * 10000)
def kJ (a : Ar) (i j : Int) : Vl := if i < 1 ∨ cd (ai a).1 < i ∨ j < 1 ∨ bh (ai a).1 < j then aG 5 else rL (ai a).2 ((ai a).1.c1 + (j - 1)) ((ai a).1.r1 + (i - 1))
def kK (a : Ar) (i : Int) : Vl := if i < 1 ∨ bh (ai a).1 * cd (ai a).1 < i then aG 5 else rL (ai a).2 ((ai a).1.c1 + (i - 1) % bh (ai a).1) ((ai a).1.r1 + (i - 1) / bh (ai a).1)
def aZ (a : Ar) (l : List Vl) : Vl := match ax (l.map aL) with
  | some e => e
  | none => match l.map dK with
    | [i] => kK a i
    | [i, j] => kJ a i j
    | _ => aj
def dw (fn : Nat) : Bool := decide ((9 ≤ fn ∧ fn ≤ 19) ∨ (43 ≤ fn ∧ fn ≤ 50))
def rM (fn : Nat) : Nat := if fn = 18 ∨ fn = 19 ∨ fn = 45 ∨ fn = 43 ∨ fn = 44 then 2 else 1
def oE (fn : Nat) : Nat := if fn = 13 ∨ 46 ≤ fn then 1 else if fn = 43 then 3 else if fn = 18 ∨ fn = 19 ∨ fn = 45 ∨ fn = 44 then 2 else 16
def dR (fn i : Nat) : Bool := if fn = 13 ∨ 46 ≤ fn ∨ fn = 18 ∨ fn = 19 ∨ fn = 45 ∨ fn = 43 then decide (i = 0) else if fn = 44 then decide (i = 1) else true
def kL (fn i : Nat) (a : Ar) : Bool := Js a && !(a.w && !dR fn i) && !(decide (46 ≤ fn) && !a.w)
def bc (fn : Nat) : Nat → List Ar → Bool
  | _, [] => true
  | i, a :: l => kL fn i a && bc fn (i + 1) l
def cU (fn : Nat) (l : List Ar) : Vl :=
  if cw fn then (match cE l with
    | (_, e, false) => e
    | (n, _, true) => cR fn n)
  else if fn = 18 ∨ fn = 19 then cH (l.getD 0 ⟨false, aj, sD, []⟩) (l.getD 1 ⟨false, aj, sD, []⟩).v (decide (fn = 18))
  else if fn = 45 then cM (l.getD 0 ⟨false, aj, sD, []⟩) (l.getD 1 ⟨false, aj, sD, []⟩).v
  else if fn = 44 then dQ (l.getD 0 ⟨false, aj, sD, []⟩).v (l.getD 1 ⟨false, aj, sD, []⟩)
  else if fn = 43 then aZ (l.getD 0 ⟨false, aj, sD, []⟩) (l.tail.map Ar.v)
  else ay (bS fn l * 10000)
def Jr (fn : Nat) (l : List Ar) : Vl × Int :=
  if dw fn = false then (aj, 10)
  else if l.length < rM fn ∨ oE fn < l.length then (aj, 11)
  else if bc fn 0 l = false then (aj, 2)
  else (cU fn l, 0)
theorem oG {x : Rc} {p q : Cl} (hp : jL x p.c p.r = true) (hq : jL x q.c q.r = true) : decide (bN x p.c p.r < bN x q.c q.r) = dA p q := by
  unfold jL at hp hq; rw [decide_eq_true_eq] at hp hq; unfold dA bN bh; obtain ⟨W, hW⟩ : ∃ W, W = x.c2 - x.c1 + 1 := ⟨_, rfl⟩; rw [← hW]
  by_cases h : p.r < q.r
  · rw [decide_eq_true h, Bool.true_or, decide_eq_true_eq]
    have h1 : (p.r - x.r1 + 1) * W ≤ (q.r - x.r1) * W := Int.mul_le_mul_of_nonneg_right (by omega) (by omega); rw [Int.add_mul, Int.one_mul] at h1
    omega
  · by_cases h2 : p.r = q.r
    · rw [h2, decide_eq_false (Int.lt_irrefl _), Bool.false_or, decide_eq_true rfl, Bool.true_and, decide_eq_decide]
      omega
    · rw [decide_eq_false h, decide_eq_false h2, Bool.false_and, Bool.false_or, decide_eq_false_iff_not]
      have h1 : (q.r - x.r1 + 1) * W ≤ (p.r - x.r1) * W := Int.mul_le_mul_of_nonneg_right (by omega) (by omega); rw [Int.add_mul, Int.one_mul] at h1
      omega
theorem me {x : Rc} {c r : Int} (h : jL x c r = true) : 0 ≤ bN x c r ∧ bN x c r < bh x * cd x := by
  unfold jL at h; rw [decide_eq_true_eq] at h; unfold bN cd; obtain ⟨W, hW⟩ : ∃ W, W = bh x := ⟨_, rfl⟩; have hw : W = x.c2 - x.c1 + 1 := hW; rw [← hW]; have h0 : 0 ≤ (r - x.r1) * W := Int.mul_nonneg (by omega) (by omega); have h1 : (r - x.r1) * W ≤ (x.r2 - x.r1) * W := Int.mul_le_mul_of_nonneg_right (by omega) (by omega); have h2 : W * (x.r2 - x.r1 + 1) = (x.r2 - x.r1) * W + W := by rw [Int.mul_add, Int.mul_one, Int.mul_comm]
  omega
end Lv

section
open Go.RowKit Lv
def RowK {α : Type} (k : Nat) (enc : α → List Value) (w : World) (A : Option Addr) (l : List α) : Prop :=
  ∀ i x, l[i]? = some x → ∃ b off, A = some ⟨b, off, none⟩ ∧ b < w.heap.size ∧ ∀ j v, (enc x)[j]? = some v → w.cell? ⟨b, off + i * k + j, none⟩ = some v
section
variable {α : Type} {k : Nat} {enc : α → List Value} {w w' : World} {A : Option Addr} {l : List α}
theorem RowK.kept (h : RowK k enc w A l) (q : Kept w w') : RowK k enc w' A l := fun i x hx => by
  obtain ⟨b, off, rfl, hb, hc⟩ := h i x hx; exact ⟨b, off, rfl, Nat.lt_of_lt_of_le hb q.size, fun j v hv => (q.cell (p := ⟨b, _, none⟩) hb).trans (hc j v hv)⟩
theorem RowK.nil : RowK k enc w A [] := fun i x h => by simp at h
theorem RowK.take (h : RowK k enc w A l) (n : Nat) : RowK k enc w A (l.take n) := fun i x hx => h i x (by
  rw [List.getElem?_take] at hx
  split at hx
  · exact hx
  · cases hx)
theorem RowK.addr (h : RowK k enc w A l) (h0 : l ≠ []) : ∃ b off, A = some ⟨b, off, none⟩ ∧ b < w.heap.size := by
  cases l with
  | nil => exact absurd rfl h0
  | cons x l =>
    obtain ⟨b, off, e, hb, _⟩ := h 0 x rfl; exact ⟨b, off, e, hb⟩
theorem lz (hk : ∀ x, (enc x).length = k) : ∀ (l : List α) (i j : Nat) (x : α) (v : Value), l[i]? = some x → (enc x)[j]? = some v → (l.map enc).flatten[i * k + j]? = some v ∧ i * k + j < l.length * k
  | [], i, _, _, _, h, _ => by simp at h
  | y :: l, 0, j, x, v, h, hv => by
    simp at h
    subst h; have hj : j < k := by rw [← hk y]; exact (List.getElem?_eq_some_iff.1 hv).1
    refine ⟨?_, by simp only [List.length_cons, Nat.succ_mul, Nat.zero_mul]; omega⟩; rw [List.map_cons, List.flatten_cons, Nat.zero_mul, Nat.zero_add, List.getElem?_append_left (by rw [hk]; exact hj)]; exact hv
  | y :: l, i + 1, j, x, v, h, hv => by
    obtain ⟨h1, h2⟩ := lz hk l i j x v (by simpa using h) hv; have e : (i + 1) * k + j = k + (i * k + j) := by rw [Nat.succ_mul]; omega
    refine ⟨?_, by simp only [List.length_cons, Nat.succ_mul] at *; omega⟩; rw [List.map_cons, List.flatten_cons, e, List.getElem?_append_right (by rw [hk]; omega), hk, Nat.add_sub_cancel_left]; exact h1
theorem RowK.box {g : Nat} {t : TypeId} {cs : Array Value} (h : Box w g t cs) (hk : ∀ x, (enc x).length = k) (hl : cs.toList.take (l.length * k) = (l.map enc).flatten) : RowK k enc w (some ⟨g, 0, none⟩) l := fun i x hx => by
  refine ⟨g, 0, rfl, h.inside, fun j v hv => ?_⟩; obtain ⟨h1, h2⟩ := lz hk l i j x v hx hv; rw [Nat.zero_add, h.cell, ← h1, ← hl, List.getElem?_take_of_lt h2]
  simp
theorem RowK.own {base : Nat} {e : TypeId} {v : Value} (hk : ∀ x, (enc x).length = k) (h : w.ownsRow base e k v l.length (l.map enc).flatten) : ∃ A cap, v = .slice A l.length cap ∧ RowK k enc w A l ∧ l.length ≤ cap ∧ cap ≤ maxLen ∧ (l ≠ [] → ∃ g, A = Option.some ⟨g, 0, none⟩ ∧ base ≤ g) := by
  rcases h.2 with ⟨rfl, h0⟩ | ⟨g, cap, cur, rfl, hb, hh, h4, h5, h6, h7⟩
  · have : l = [] := List.eq_nil_of_length_eq_zero h0
    subst this; exact ⟨none, 0, rfl, RowK.nil, Nat.le_refl _, Nat.zero_le _, fun h => absurd rfl h⟩
  · exact ⟨Option.some ⟨g, 0, none⟩, cap, rfl, RowK.box (t := e) (cs := cur) hh hk h7, h4, h5, fun _ => ⟨g, rfl, hb⟩⟩
def ElemK (w : World) (b p : Nat) (vs : List Value) : Prop := b < w.heap.size ∧ ∀ j v, vs[j]? = some v → w.cell? ⟨b, p + j, none⟩ = some v
theorem ElemK.kept {b p : Nat} {vs : List Value} (h : ElemK w b p vs) (q : Kept w w') : ElemK w' b p vs := ⟨Nat.lt_of_lt_of_le h.1 q.size, fun j v hv => (q.cell (p := ⟨b, _, none⟩) h.1).trans (h.2 j v hv)⟩
theorem RowK.elem (h : RowK k enc w A l) {i : Nat} {x : α} (hx : l[i]? = some x) : ∃ b off, A = some ⟨b, off, none⟩ ∧ ElemK w b (off + i * k) (enc x) := by
  obtain ⟨b, off, e, hb, hc⟩ := h i x hx; exact ⟨b, off, e, hb, hc⟩
variable {a : Act} {o : Oper}
theorem vV {T e : TypeId} (s : Nat) (hu : Tryz.prog.underlying T = some (.slice e)) (hs : (sizeOf e).run Tryz.prog w = .ok s w) {b off n c i : Nat} (hi : i < n) : (Instr.indexAt T (.slice (some ⟨b, off, none⟩) n c) (.int .i64 i)).run Tryz.prog w = .ok (.pointer (some ⟨b, off + i * s, none⟩)) w := by
  have hr := run_underlying (w := w) hu; have b0 : (0 : Int) ≤ (i : Int) := by omega
  have b1 : (i : Int) < (n : Int) := by omega
  have e := ia (g := b) (off := off) (i * s)
  simp [Instr.indexAt, asIntOf, hr, hs, Result.andThen, b0, b1, e]
  intro hc; omega
theorem al {T e : TypeId} (s : Nat) (hu : Tryz.prog.underlying T = some (.slice e)) (hs : (sizeOf e).run Tryz.prog w = .ok s w) {x y : Operand} (ho : o.op = .indexAddr T x y) {A : Option Addr} {b off n c i : Nat} (hA : A = some ⟨b, off, none⟩) (hx : a.eval x = .slice A n c) (hy : a.eval y = .int .i64 i) (hi : i < n) : (execOp a.eval o).run Tryz.prog w = .ok (.value (.pointer (some ⟨b, off + i * s, none⟩))) w := by
  subst hA; exact eK ho hx hy (vV s hu hs hi)
theorem bf {T : TypeId} {x : Operand} {n b p q : Nat} (j : Nat) {ws vs : List Value} (ho : o.op = .load T x) (ha : (isAgg T).run Tryz.prog w = .ok true w) (hs : (sizeOf T).run Tryz.prog w = .ok n w) (hx : a.eval x = .pointer (some ⟨b, q, none⟩)) (hq : q = p + j) (he : ElemK w b p ws) (hv : (ws.drop j).take n = vs := by rfl) (hn : vs.length = n := by rfl) : (execOp a.eval o).run Tryz.prog w = .ok (.value (.agg vs.toArray)) w := by
  subst hq
  have hl := run_loadCells_list (P := Tryz.prog) (w := w) ⟨b, p + j, none⟩ vs (fun q v hq => by
    rw [ia, show p + j + q = p + (j + q) by omega]; refine he.2 (j + q) v ?_; rw [← hv, List.getElem?_take] at hq
    split at hq
    · rwa [List.getElem?_drop] at hq
    · cases hq)
  rw [hn] at hl; unfold execOp
  simp only [ho, hx, Instr.loadAt, Instr.sureAddr, loadVar, Sem.run_bind, Sem.run_pure, Result.andThen_ok, ha, hs, if_true, hl]
theorem dS {T : TypeId} {x : Operand} {b p q : Nat} (j : Nat) {ws : List Value} {v : Value} (ho : o.op = .load T x) (ha : (isAgg T).run Tryz.prog w = .ok false w) (hx : a.eval x = .pointer (some ⟨b, q, none⟩)) (hq : q = p + j) (he : ElemK w b p ws) (hv : ws[j]? = some v) : (execOp a.eval o).run Tryz.prog w = .ok (.value v) w := by
  subst hq; exact kE ho ha hx (he.2 j v hv)
theorem dD {l : List α} {i : Nat} {x : α} (h : l[i]? = some x) : l.drop i = x :: l.drop (i + 1) := by
  obtain ⟨hi, e⟩ := List.getElem?_eq_some_iff.1 h; rw [List.drop_eq_getElem_cons hi, e]
theorem fu {l : List α} {i : Nat} {x : α} (h : l[i]? = some x) : l.take (i + 1) = l.take i ++ [x] := by
  rw [List.take_add_one, h]
  rfl
theorem bI {l : List α} {i : Nat} (h : i < l.length) : ∃ x, l[i]? = some x := ⟨_, List.getElem?_eq_getElem h⟩
end
/-! cells, ranges, arguments -/
def rcV (x : Rc) : List Value := [.int .i64 x.c1, .int .i64 x.r1, .int .i64 x.c2, .int .i64 x.r2]
def clV (c : Cl) : List Value := [.int .i64 c.c, .int .i64 c.r, .int .u8 c.v.k, .int .i64 c.v.n, .string ⟨c.v.t.toArray⟩]
def arV (a : Ar) (s : Value) : List Value := [.bool a.w, .int .u8 a.v.k, .int .i64 a.v.n, .string ⟨a.v.t.toArray⟩, .int .i64 a.x.c1, .int .i64 a.x.r1, .int .i64 a.x.c2, .int .i64 a.x.r2, s]
theorem eC (c : Cl) : (clV c).length = 5 := rfl
def CellsAt (w : World) (s : Value) (l : List Cl) : Prop := ∃ A cap, s = .slice A l.length cap ∧ RowK 5 clV w A l ∧ l.length ≤ cap
theorem CellsAt.kept {w w' : World} {s : Value} {l : List Cl} (h : CellsAt w s l) (q : Kept w w') : CellsAt w' s l := by
  obtain ⟨A, c, e, r, hc⟩ := h; exact ⟨A, c, e, r.kept q, hc⟩
theorem CellsAt.nil (w : World) : CellsAt w (.slice none 0 0) [] := ⟨none, 0, rfl, RowK.nil, Nat.le_refl _⟩
def ArgsAt (w : World) (A : Option Addr) (l : List Ar) : Prop := ∃ L : List (Ar × Value), L.map Prod.fst = l ∧ RowK 9 (fun p : Ar × Value => arV p.1 p.2) w A L ∧ ∀ p ∈ L, CellsAt w p.2 p.1.l
theorem ArgsAt.kept {w w' : World} {A : Option Addr} {l : List Ar} (h : ArgsAt w A l) (q : Kept w w') : ArgsAt w' A l := by
  obtain ⟨L, e, r, c⟩ := h; exact ⟨L, e, r.kept q, fun p hp => (c p hp).kept q⟩
theorem ArgsAt.elem {w : World} {A : Option Addr} {l : List Ar} (h : ArgsAt w A l) {i : Nat} {x : Ar} (hx : l[i]? = some x) : ∃ b off A1 c1, A = some ⟨b, off, none⟩ ∧ ElemK w b (off + i * 9) (arV x (.slice A1 x.l.length c1)) ∧ RowK 5 clV w A1 x.l ∧ x.l.length ≤ c1 := by
  obtain ⟨L, e, r, c⟩ := h; subst e; rw [List.getElem?_map] at hx
  cases hL : L[i]? with
  | none => rw [hL] at hx; cases hx
  | some p =>
    rw [hL] at hx
    cases hx
    obtain ⟨b, off, hA, he⟩ := r.elem hL; obtain ⟨A1, c1, e1, r1, h1⟩ := c p (List.mem_of_getElem? hL); exact ⟨b, off, A1, c1, hA, e1 ▸ he, r1, h1⟩
end

section
open Go.RowKit
section
variable {P : Program} {ops : Array Oper} {n : Nat} {ys : List Yield} {w0 : World} {a0 : Act} {i : Nat} {o : Oper} {r : List Oper} {u v v2 : Value} {c : Prop} {x y z : Operand} {b d : Bool} {t j : Nat} {T T2 e : TypeId} {k : IntKind} {p q m g off N : Nat} {B : World} {H : List Th} {cs : Array Value} {ws vs : List Value} {f : FuncId}
def Ev (ops : Array Oper) (n : Nat) (ys : List Yield) (w0 : World) (a0 : Act) (o : Oper) (c : Prop) (x : Operand) (v : Value) : Prop := ∀ a w, Kept w0 w → BesideN ops n a0 a → iu ops ys o a w → c → a.eval x = v
def Rn (P : Program) (ops : Array Oper) (n : Nat) (ys : List Yield) (w0 : World) (a0 : Act) (o : Oper) (c : Prop) (v : Value) : Prop := ∀ a w, Kept w0 w → BesideN ops n a0 a → iu ops ys o a w → c → (execOp a.eval o).run P w = .ok (.value v) w
def Aft (o : Oper) (j : Nat) : Prop := (o.after.toList.any fun e => Region.binds .any e && e.on == j) = true
theorem zd (j : Nat) (hj : ys[j]? = some (yV v) := by exact rfl) (ha : Aft o j := by exact rfl) (ht : (ops[j]?).bind (·.dst) = some t := by exact rfl) : Ev ops n ys w0 a0 o c (.tmp t) v := fun _ _ _ _ hd _ => dep hd j ha hj ht
theorem zi (j : Nat) (hj : ys[j]? = some (yIf c (yV v)) := by exact rfl) (ha : Aft o j := by exact rfl) (ht : (ops[j]?).bind (·.dst) = some t := by exact rfl) : Ev ops n ys w0 a0 o c (.tmp t) v := fun _ _ _ _ hd hc => di hd j hj hc ha ht
theorem ua (h : Rn P ops n ys w0 a0 o True v) (hy : ys[i]? = some (yV v)) (tl : Arms P ops n ys w0 a0 (i + 1) r) (hg : o.guard = none := by exact rfl) : Arms P ops n ys w0 a0 i (o :: r) := IV (wn hg) (fun a w hk bs hd => h a w hk bs hd trivial) hy tl
theorem rfa {k : Nat} (h0 : Ev ops n ys w0 a0 o c x u) (ho : o.op = .fieldAddr T x k := by exact rfl) (h : ∀ w, (Instr.fieldAt T u k).run P w = .ok v w := by intro w; kernel_rfl) : Rn P ops n ys w0 a0 o c v := fun a w hk bs hd hz => aE ho (h0 a w hk bs hd hz) (h w)
theorem rpl (s : Nat) (hu : Tryz.prog.underlying T = some (.slice e)) {A : Option Addr} {N cap i : Nat} (hA : A = some ⟨g, off, none⟩) (h0 : Ev ops n ys w0 a0 o c x (.slice A N cap)) (h1 : Ev ops n ys w0 a0 o c y (.int .i64 i)) (hi : i < N) (ho : o.op = .indexAddr T x y := by exact rfl) (hs : ∀ w, (sizeOf e).run Tryz.prog w = .ok s w := by intro w; kernel_rfl) : Rn Tryz.prog ops n ys w0 a0 o c (.pointer (some ⟨g, off + i * s, none⟩)) := fun a w hk bs hd hz => al s hu (hs w) ho hA (h0 a w hk bs hd hz) (h1 a w hk bs hd hz) hi
def Cn (ops : Array Oper) (n : Nat) (ys : List Yield) (w0 : World) (a0 : Act) (o : Oper) (c : Prop) (f : FuncId) (args : Array Value) : Prop := ∀ a w, Kept w0 w → BesideN ops n a0 a → iu ops ys o a w → c → (execOp a.eval o).run Tryz.prog w = .ok (.enter f args) w
theorem ud {l : Array Value} (j : Nat) (h : Cn ops n ys w0 a0 o True f l) (q : ∀ {w}, Kept w0 w → Calls Tryz.prog f l w fun e w' => e = .returned v ∧ Kept w w') (hy : ys[i]? = some (yV v)) (tl : Arms Tryz.prog ops n ys w0 a0 (i + 1) r) (hg : o.guard = some (j, b) := by exact rfl) (hj : ys[j]? = some (yV (.bool b)) := by exact rfl) (ha : Aft o j := by exact rfl) : Arms Tryz.prog ops n ys w0 a0 i (o :: r) := Jf (wg hg hj ha) (fun a w hk bs hd => h a w hk bs hd trivial) (fun a w hk bs hd => q hk) hy tl
end
/- what stands behind a region -/
section
variable {ops : Array Oper} {n : Nat} {ys : List Yield} {a : Act} {w : World} {v : Value} {t g s : Nat} {b : Obj} {Q : Exit → Act → World → Prop} {w0 wr : World} {H : List Th} {a0 : Act}
theorem zh (hv : ∀ j, j < n → Ys ys j (At ops a j) w) (j : Nat) (hy : ys[j]? = some (yV v) := by exact rfl) (ht : (ops[j]?).bind (·.dst) = some t := by exact rfl) (hj : Nat.blt j n = true := by exact rfl) : a.eval (.tmp t) = v := got hv j hj hy ht
end
end

section
open Go.RowKit
section
variable {P : Program} {a : Act} {o : Oper} {w : World}
theorem xb1 {T : TypeId} {q0 : Nat} {x0 : Operand} {u0 r : Value} (ho : o.op = .build T #[(q0, x0)]) (h0 : a.eval x0 = u0) (h : (Instr.build T #[(q0, u0)]).run P w = .ok r w) : (execOp a.eval o).run P w = .ok (.value r) w := cG ho (by simp only [List.map_toArray, List.map_cons, List.map_nil, h0]) h
theorem qs {T : TypeId} {n : Nat} {q0 : Nat} {x0 : Operand} {u0 : Value} {b : Obj} (ho : o.op = .buildSlice T n #[(q0, x0)]) (h0 : a.eval x0 = u0) (h : (Instr.buildSlice T n #[(q0, u0)]).run P w = .ok (.slice (some ⟨w.heap.size, 0, none⟩) n n) (w.alloc b)) : (execOp a.eval o).run P w = .ok (.value (.slice (some ⟨w.heap.size, 0, none⟩) n n)) (w.alloc b) := eR ho (by simp only [List.map_toArray, List.map_cons, List.map_nil, h0]) h
theorem xb2 {T : TypeId} {q0 q1 : Nat} {x0 x1 : Operand} {u0 u1 r : Value} (ho : o.op = .build T #[(q0, x0), (q1, x1)]) (h0 : a.eval x0 = u0) (h1 : a.eval x1 = u1) (h : (Instr.build T #[(q0, u0), (q1, u1)]).run P w = .ok r w) : (execOp a.eval o).run P w = .ok (.value r) w := cG ho (by simp only [List.map_toArray, List.map_cons, List.map_nil, h0, h1]) h
theorem Dw {T : TypeId} {n : Nat} {q0 q1 : Nat} {x0 x1 : Operand} {u0 u1 : Value} {b : Obj} (ho : o.op = .buildSlice T n #[(q0, x0), (q1, x1)]) (h0 : a.eval x0 = u0) (h1 : a.eval x1 = u1) (h : (Instr.buildSlice T n #[(q0, u0), (q1, u1)]).run P w = .ok (.slice (some ⟨w.heap.size, 0, none⟩) n n) (w.alloc b)) : (execOp a.eval o).run P w = .ok (.value (.slice (some ⟨w.heap.size, 0, none⟩) n n)) (w.alloc b) := eR ho (by simp only [List.map_toArray, List.map_cons, List.map_nil, h0, h1]) h
theorem xb3 {T : TypeId} {q0 q1 q2 : Nat} {x0 x1 x2 : Operand} {u0 u1 u2 r : Value} (ho : o.op = .build T #[(q0, x0), (q1, x1), (q2, x2)]) (h0 : a.eval x0 = u0) (h1 : a.eval x1 = u1) (h2 : a.eval x2 = u2) (h : (Instr.build T #[(q0, u0), (q1, u1), (q2, u2)]).run P w = .ok r w) : (execOp a.eval o).run P w = .ok (.value r) w := cG ho (by simp only [List.map_toArray, List.map_cons, List.map_nil, h0, h1, h2]) h
theorem Gt {T : TypeId} {n : Nat} {q0 q1 q2 : Nat} {x0 x1 x2 : Operand} {u0 u1 u2 : Value} {b : Obj} (ho : o.op = .buildSlice T n #[(q0, x0), (q1, x1), (q2, x2)]) (h0 : a.eval x0 = u0) (h1 : a.eval x1 = u1) (h2 : a.eval x2 = u2) (h : (Instr.buildSlice T n #[(q0, u0), (q1, u1), (q2, u2)]).run P w = .ok (.slice (some ⟨w.heap.size, 0, none⟩) n n) (w.alloc b)) : (execOp a.eval o).run P w = .ok (.value (.slice (some ⟨w.heap.size, 0, none⟩) n n)) (w.alloc b) := eR ho (by simp only [List.map_toArray, List.map_cons, List.map_nil, h0, h1, h2]) h
theorem xb4 {T : TypeId} {q0 q1 q2 q3 : Nat} {x0 x1 x2 x3 : Operand} {u0 u1 u2 u3 r : Value} (ho : o.op = .build T #[(q0, x0), (q1, x1), (q2, x2), (q3, x3)]) (h0 : a.eval x0 = u0) (h1 : a.eval x1 = u1) (h2 : a.eval x2 = u2) (h3 : a.eval x3 = u3) (h : (Instr.build T #[(q0, u0), (q1, u1), (q2, u2), (q3, u3)]).run P w = .ok r w) : (execOp a.eval o).run P w = .ok (.value r) w := cG ho (by simp only [List.map_toArray, List.map_cons, List.map_nil, h0, h1, h2, h3]) h
end
end

section
open Go.RowKit
set_option linter.unusedVariables false
/- F9 for what is often said (prune.py puts them) -/
abbrev oZ : Obj := .cells #[.int .u8 0, .int .i64 0, .string ⟨[].toArray⟩] 25 (0, 0)
def F4 : List Value → Nat → Option Value
  | [], _ => none
  | v :: _, 0 => some v
  | _ :: r, k + 1 => F4 r k
theorem oH (l : List Value) (k : Nat) : F4 l k = l[k]? := by
  induction l generalizing k with
  | nil => simp [F4]
  | cons v r ih => cases k with
    | zero => rfl
    | succ k => rw [List.getElem?_cons_succ]; exact ih k
def lk : List (Nat × Value) → Nat → Option Value
  | [], _ => none
  | (u, v) :: r, t => match Nat.beq u t with
    | true => some v
    | false => lk r t
theorem yA : ∀ {L : List (Nat × Value)} {t : Nat} {v : Value}, lk L t = some v → (t, v) ∈ L
  | [], _, _, h => by cases h
  | (u, x) :: r, t, v, h => by
    unfold lk at h
    split at h
    · rename_i e
      cases h
      rw [Nat.eq_of_beq_eq_true e]; exact List.mem_cons_self
    · exact List.mem_cons_of_mem _ (yA h)
structure Sg (N : Nat) (wr : World) (H : List Th) (L : List (Nat × Value)) (a : Act) (w : World) : Prop where
  z : a.tmps.size = N
  q : a.defers = []
  o : Own wr H w
  s : ∀ p ∈ L, a.eval (.tmp p.1) = p.2
section
variable {N : Nat} {wr wr' : World} {H H' : List Th} {L : List (Nat × Value)} {a : Act} {w w' : World}
theorem Sg.g (s : Sg N wr H L a w) (t : Nat) {v : Value} (h : lk L t = some v := by exact rfl) : a.eval (.tmp t) = v := s.s _ (yA h)
theorem Sg.ow (s : Sg N wr H L a w) (o : Own wr' H' w') : Sg N wr' H' L a w' := ⟨s.z, s.q, o, s.s⟩
def sb (L : List (Nat × Value)) : List (Nat × Value) → Prop
  | [] => True
  | (t, v) :: r => lk L t = some v ∧ sb L r
theorem sb0 : sb L [] := trivial
theorem sb1 {t : Nat} {v : Value} {r : List (Nat × Value)} (h : lk L t = some v) (k : sb L r) : sb L ((t, v) :: r) := ⟨h, k⟩
theorem Dx : ∀ {M : List (Nat × Value)}, sb L M → ∀ p ∈ M, p ∈ L
  | [], _, p, h => by cases h
  | (u, x) :: r, h, p, e => by
    rcases List.mem_cons.1 e with rfl | e
    · exact yA h.1
    · exact Dx h.2 p e
theorem Sg.c (s : Sg N wr H L a w) {M : List (Nat × Value)} (h : sb L M := by repeat (first | exact sb0 | refine sb1 rfl ?_)) : Sg N wr H M a w := ⟨s.z, s.q, s.o, fun p e => s.s p (Dx h p e)⟩
theorem ix (z : a.tmps.size = N) (q : a.defers = []) (o : Own wr H w) : Sg N wr H [] a w := ⟨z, q, o, fun p h => by cases h⟩
theorem Sg.i (s : Sg N wr H L a w) {t : Nat} {v : Value} (e : a.eval (.tmp t) = v) : Sg N wr H ((t, v) :: L) a w := ⟨s.z, s.q, s.o, fun p h => by
  rcases List.mem_cons.1 h with rfl | h
  · exact e
  · exact s.s p h⟩
end
inductive Yd where
  | v (x : Value)
  | p (b : Obj)
  | l (c : Nat) (b : Obj)
  | i (c : Prop) (x : Value)
  | u
  | y (q : Yield)
def Yd.den (B : Nat) : Yd → Yield
  | .v x => yV x
  | .p b => I2 B b
  | .l c b => Gh B c b
  | .i c x => yIf c (yV x)
  | .u => yNo
  | .y q => q
def wrt (t : Nat) : List Oper → Bool
  | [] => false
  | o :: r => match o.dst with
    | none => wrt t r
    | some u => match Nat.beq u t with
      | true => true
      | false => wrt t r
theorem yB {t : Nat} : ∀ {l : List Oper} {o : Oper}, o ∈ l → o.dst = some t → wrt t l = true
  | [], _, h, _ => by cases h
  | x :: l, o, h, e => by
    unfold wrt; rcases List.mem_cons.1 h with rfl | h
    · have : Nat.beq t t = true := Nat.beq_refl t
      simp only [e, this]
    · have := yB h e
      cases x.dst with
      | none => exact this
      | some u => cases hb : Nat.beq u t with
        | true => simp only [hb]
        | false => simp only [hb]; exact this
theorem ko {t n : Nat} {l : List Oper} (h : wrt t (l.take n) = false) : cq l.toArray n t = false := by
  cases hw : cq l.toArray n t with
  | false => rfl
  | true =>
    unfold cq at hw; rw [List.any_eq_true] at hw; obtain ⟨j, hj, hd⟩ := hw; rw [List.mem_range] at hj
    cases hq : l.toArray[j]? with
    | none => rw [hq] at hd; cases hd
    | some o =>
      rw [hq] at hd; have e : o.dst = some t := by simpa using hd
      have hl : (l.take n)[j]? = some o := by rw [List.getElem?_take_of_lt hj]; simpa using hq
      rw [yB (List.mem_of_getElem? hl) e] at h
      cases h
def Et (o : Oper) (j : Nat) : Bool := o.after.toList.any fun e => Region.binds .any e && e.on == j
def yC (t : Nat) : List Oper → Nat → Option Nat
  | [], _ => none
  | o :: r, j => match o.dst with
    | none => yC t r (j + 1)
    | some u => match Nat.beq u t with
      | true => some j
      | false => yC t r (j + 1)
def Iw : List Yd → Nat → Option Yd
  | [], _ => none
  | y :: _, 0 => some y
  | _ :: r, k + 1 => Iw r k
def yat (pre : List Yd) (j : Nat) : Option Yd := match Nat.blt j pre.length with
  | true => Iw pre (pre.length - (j + 1))
  | false => none
def yt (l : List Oper) (n : Nat) (pre : List Yd) (t : Nat) : Option (Nat × Yd) := match yC t (l.take n) 0 with
  | none => none
  | some j => match yat pre j with
    | none => none
    | some y => some (j, y)
def fy (l : List Oper) (n : Nat) (o : Oper) (t : Nat) (pre : List Yd) : Option Value := match yt l n pre t with
  | some (j, .v x) => (match Et o j with
    | true => some x
    | false => none)
  | _ => none
def ev (l : List Oper) (n : Nat) (L : List (Nat × Value)) (pre : List Yd) (o : Oper) : Operand → Option Value
  | .const v => some v
  | .func f => some (.func (.func f) #[] #[])
  | .tmp t => match wrt t (l.take n) with
    | true => fy l n o t pre
    | false => lk L t
  | .global _ => none
def fyi (l : List Oper) (n : Nat) (o : Oper) (t : Nat) (pre : List Yd) : Option (Prop × Value) := match yt l n pre t with
  | some (j, .i c x) => (match Et o j with
    | true => some (c, x)
    | false => none)
  | _ => none
def Ext (B : Nat) : List Yd → List Yield → Prop
  | [], _ => True
  | y :: p, ys => ys[p.length]? = some (y.den B) ∧ Ext B p ys
section
variable {l : List Oper} {n N : Nat} {wr : World} {H : List Th} {L : List (Nat × Value)} {w0 : World} {a0 : Act} {pre : List Yd} {o : Oper} {ys : List Yield} {a : Act} {w : World} {r : List Oper}
structure Cx (l : List Oper) (n N : Nat) (wr : World) (H : List Th) (L : List (Nat × Value)) (w0 : World) (a0 : Act) (pre : List Yd) (o : Oper) (ys : List Yield) (a : Act) (w : World) : Prop where
  sg : Sg N wr H L a0 w0
  x : Ext w0.heap.size pre ys
  k : Kept w0 w
  b : BesideN l.toArray n a0 a
  d : iu l.toArray ys o a w
theorem oI {t : Nat} : ∀ {l : List Oper} {i j : Nat}, yC t l i = some j → ∃ k, j = i + k ∧ (l[k]?).bind (·.dst) = some t
  | [], _, _, h => by cases h
  | o :: r, i, j, h => by
    unfold yC at h
    split at h
    · obtain ⟨k, e, hk⟩ := oI h
      exact ⟨k + 1, by omega, by simpa using hk⟩
    · rename_i u hu
      split at h
      · rename_i hb
        cases h
        exact ⟨0, rfl, by simp [hu, Nat.eq_of_beq_eq_true hb]⟩
      · obtain ⟨k, e, hk⟩ := oI h
        exact ⟨k + 1, by omega, by simpa using hk⟩
theorem uf {B : Nat} {y : Yd} : ∀ {pre : List Yd} {k : Nat}, Iw pre k = some y → Ext B pre ys → ys[pre.length - (k + 1)]? = some (y.den B)
  | [], k, h, _ => by cases h
  | z :: p, 0, h, x => by cases h; exact x.1
  | z :: p, k + 1, h, x => by
    have := uf (pre := p) (k := k) h x.2; rw [List.length_cons, Nat.add_sub_add_right]; exact this
theorem oJ {B : Nat} {y : Yd} {j : Nat} (h : yat pre j = some y) (x : Ext B pre ys) : ys[j]? = some (y.den B) := by
  unfold yat at h
  split at h
  · rename_i hb
    have hj : j < pre.length := Nat.le_of_ble_eq_true hb; have := uf h x
    rwa [show pre.length - (pre.length - (j + 1) + 1) = j by omega] at this
  · cases h
theorem yD {t : Nat} {B j : Nat} {y : Yd} (h : yt l n pre t = some (j, y)) (x : Ext B pre ys) : ys[j]? = some (y.den B) ∧ (l.toArray[j]?).bind (·.dst) = some t := by
  unfold yt at h
  split at h
  · cases h
  · rename_i i hi
    split at h
    · cases h
    · rename_i z hz
      cases h
      obtain ⟨k, e, hk⟩ := oI hi; rw [Nat.zero_add] at e; rw [← e] at hk; refine ⟨oJ hz x, ?_⟩; rw [List.getElem?_toArray]; rcases Nat.lt_or_ge j n with c | c
      · rwa [List.getElem?_take_of_lt c] at hk
      · rw [List.getElem?_eq_none (by rw [List.length_take]; omega)] at hk; cases hk
theorem Ix {t : Nat} {v : Value} (x : Ext w0.heap.size pre ys) (d : iu l.toArray ys o a w) (h : fy l n o t pre = some v) : a.eval (.tmp t) = v := by
  unfold fy at h
  split at h
  · rename_i j z hz
    obtain ⟨h1, h2⟩ := yD hz x
    split at h
    · rename_i ha; cases h; exact dep d j ha h1 h2
    · cases h
  · cases h
theorem Cx.e (c : Cx l n N wr H L w0 a0 pre o ys a w) {x : Operand} {v : Value} (h : ev l n L pre o x = some v := by exact rfl) : a.eval x = v := by
  cases x with
  | const u => cases h; rfl
  | func f => cases h; rfl
  | global g => cases h
  | tmp t =>
    unfold ev at h
    simp only at h
    split at h
    · exact Ix c.x c.d h
    · rename_i hw; exact c.b.get t (ko hw) (c.sg.g t h)
theorem Gu {t : Nat} {q : Prop} {v : Value} (hc : q) (x : Ext w0.heap.size pre ys) (d : iu l.toArray ys o a w) (h : fyi l n o t pre = some (q, v)) : a.eval (.tmp t) = v := by
  unfold fyi at h
  split at h
  · rename_i j c z hz
    obtain ⟨h1, h2⟩ := yD hz x
    split at h
    · rename_i ha; cases h; exact (gI h2).symm.trans ((ysI h1 (vK d j ha)).1 hc)
    · cases h
  · cases h
theorem Cx.f (c : Cx l n N wr H L w0 a0 pre o ys a w) {t : Nat} {q : Prop} {v : Value} (hc : q) (h : fyi l n o t pre = some (q, v) := by exact rfl) : a.eval (.tmp t) = v := Gu hc c.x c.d h
theorem Cx.ow (c : Cx l n N wr H L w0 a0 pre o ys a w) : Own wr H w := c.sg.o.keep c.k
def Pre (l : List Oper) (n N : Nat) (wr : World) (H : List Th) (L : List (Nat × Value)) (w0 : World) (a0 : Act) (pre : List Yd) (r : List Oper) : Prop :=
  (l.take n).drop pre.length = r ∧ ∀ ys, Ext w0.heap.size pre ys → ∀ i o, i < pre.length → l[i]? = some o → ∀ a w, Sg N wr H L a0 w0 → Kept w0 w → BesideN l.toArray n a0 a → iu l.toArray ys o a w → gp Tryz.prog l.toArray ys i o a w
theorem Z0 : Pre l n N wr H L w0 a0 [] (l.take n) := ⟨rfl, fun _ _ i o hi => absurd hi (Nat.not_lt_zero i)⟩
theorem Pre.at_ (h : Pre l n N wr H L w0 a0 pre (o :: r)) : l[pre.length]? = some o := by
  have e : ((l.take n).drop pre.length)[0]? = some o := by rw [h.1]; rfl
  rw [List.getElem?_drop, Nat.add_zero] at e
  have hn : pre.length < n := by
    rcases Nat.lt_or_ge pre.length n with c | c
    · exact c
    · rw [List.getElem?_eq_none (by rw [List.length_take]; omega)] at e; cases e
  rwa [List.getElem?_take_of_lt hn] at e
theorem Pre.snoc (h : Pre l n N wr H L w0 a0 pre (o :: r)) {y : Yd} (st : ∀ {ys a w}, Cx l n N wr H L w0 a0 pre o ys a w → ys[pre.length]? = some (y.den w0.heap.size) → gp Tryz.prog l.toArray ys pre.length o a w) : Pre l n N wr H L w0 a0 (y :: pre) r := by
  have e := h.at_; refine ⟨?_, fun ys x i q hi hq a w s k b d => ?_⟩
  · have := congrArg (List.drop 1) h.1
    rw [List.drop_drop] at this
    simpa [Nat.add_comm] using this
  · rcases Nat.lt_or_ge i pre.length with c | c
    · exact h.2 ys x.2 i q c hq a w s k b d
    · have : i = pre.length := by rw [List.length_cons] at hi; omega
      subst this; rw [hq] at e
      cases e
      exact st ⟨s, x.2, k, b, d⟩ x.1
def gN (pre : List Yd) (o : Oper) : Bool := match o.guard with
  | none => true
  | some (j, b) => match Et o j with
    | false => false
    | true => match yat pre j with
      | some (.v (.bool d)) => (match d, b with
        | true, true => true
        | false, false => true
        | _, _ => false)
      | _ => false
theorem Cx.yes (c : Cx l n N wr H L w0 a0 pre o ys a w) (h : gN pre o = true) : Region.wanted o (yielded l.toArray a.tmps) = true := by
  unfold gN at h
  split at h
  · rename_i e; exact aC e
  · rename_i j b e
    split at h
    · cases h
    · rename_i ha
      split at h
      · rename_i d hd
        have hy := iT (vK c.d j ha) (oJ hd c.x)
        split at h
        · exact jP e hy
        · exact jP e hy
        · cases h
      · cases h
def gz (pre : List Yd) (o : Oper) : Option Prop := match o.guard with
  | none => none
  | some (j, b) => match Et o j with
    | false => none
    | true => match yat pre j with
      | some (.v (.bool d)) => some (d = b)
      | some (.i c (.bool d)) => some (c ∧ d = b)
      | _ => none
theorem Cx.z (c : Cx l n N wr H L w0 a0 pre o ys a w) {q : Prop} (h : gz pre o = some q) : (q → Region.wanted o (yielded l.toArray a.tmps) = true) ∧ (¬ q → Region.wanted o (yielded l.toArray a.tmps) = false) := by
  unfold gz at h
  split at h
  · cases h
  · rename_i j b e
    split at h
    · cases h
    · rename_i ha
      split at h
      · rename_i d hd
        cases h
        exact g1 j e (oJ hd c.x) ha a w c.d
      · rename_i p d hd
        cases h
        exact g2 j e (oJ hd c.x) ha a w c.d
      · cases h
theorem zO (h : Pre l n N wr H L w0 a0 pre (o :: r)) {v : Value} (run : ∀ {ys a w}, Cx l n N wr H L w0 a0 pre o ys a w → (execOp a.eval o).run Tryz.prog w = .ok (.value v) w) (hg : gN pre o = true := by exact rfl) : Pre l n N wr H L w0 a0 (.v v :: pre) r :=
  h.snoc fun c e => jQ (c.yes hg) (run c) (ysV e rfl) (fsV e)
theorem zE {x : Value} (h : Pre l n N wr H L w0 a0 (.v x :: pre) r) {y : Value} (e : x = y) : Pre l n N wr H L w0 a0 (.v y :: pre) r := e ▸ h
def IX (k : BinOp) (n m : Int) : Option Value := match k with
  | .lss => some (.bool (decide (n < m)))
  | .leq => some (.bool (decide (n ≤ m)))
  | .gtr => some (.bool (decide (m < n)))
  | .geq => some (.bool (decide (m ≤ n)))
  | .eql => some (.bool (decide (n = m)))
  | .neq => some (.bool (decide (n ≠ m)))
  | _ => none
def Iy : Value → Option Value
  | .bool b => some (.bool (!b))
  | _ => none
def Iz (k : BinOp) (T : TypeId) : Value → Value → Option Value
  | .int a n, .int b m => match decide (a = b) with
    | true => IX k n m
    | false => none
  | .string ⟨⟨s⟩⟩, .string ⟨⟨t⟩⟩ => match k with
    | .eql => some (.bool (decide (s = t)))
    | .neq => some (.bool (decide (s ≠ t)))
    | _ => none
  | .bool a, .bool b => match Nat.beq T 4 with
    | true => (match k with
      | .eql => some (.bool (a == b))
      | .neq => some (.bool (a != b))
      | _ => none)
    | false => none
  | _, _ => none
def IA (k : Nat) : Value → Option Value
  | .tuple vs => F4 vs.toList k
  | _ => none
def pv (e : Operand → Option Value) : Op → Option Value
  | .move x => e x
  | .assign x => e x
  | .unOp .not _ x => (e x).bind Iy
  | .binOp k T x y _ => (e x).bind fun u => (e y).bind fun v => Iz k T u v
  | .extract x k => (e x).bind (IA k)
  | _ => none
theorem yE {k : BinOp} {T T2 : TypeId} {x y : Operand} (ho : o.op = .binOp k T x y T2) {u z v : Value} (e1 : a.eval x = u) (e2 : a.eval y = z) (h : Iz k T u z = some v) : (execOp a.eval o).run Tryz.prog w = .ok (.value v) w := by
  unfold Iz at h
  split at h
  · split at h
    · rename_i hk
      have := of_decide_eq_true hk; subst this; unfold IX at h
      split at h <;> cases h
      · exact I4 ho e1 e2
      · exact I5 ho e1 e2
      · exact I6 ho e1 e2
      · exact I7 ho e1 e2
      · exact Ik ho e1 e2
      · exact I8 ho e1 e2
    · cases h
  · split at h <;> cases h
    · exact Ja ho e1 e2
    · exact Jb ho e1 e2
  · split at h
    · rename_i ht
      have := Nat.eq_of_beq_eq_true ht; subst this
      split at h <;> cases h
      · exact Ji ho e1 e2
      · exact Jh ho e1 e2
    · cases h
  · cases h
theorem Gv {e : Operand → Option Value} {v : Value} (he : ∀ x u, e x = some u → a.eval x = u) (h : pv e o.op = some v) : (execOp a.eval o).run Tryz.prog w = .ok (.value v) w := by
  generalize ho : o.op = op at h; unfold pv at h
  split at h
  · exact fs ho (he _ v h)
  · exact iR ho (he _ v h)
  · obtain ⟨u, hu, hn⟩ := Option.bind_eq_some_iff.1 h
    unfold Iy at hn
    split at hn <;> cases hn
    exact F3 ho (he _ _ hu)
  · obtain ⟨u, hu, h⟩ := Option.bind_eq_some_iff.1 h
    obtain ⟨z, hz, h⟩ := Option.bind_eq_some_iff.1 h; exact yE ho (he _ _ hu) (he _ _ hz) h
  · obtain ⟨u, hu, hn⟩ := Option.bind_eq_some_iff.1 h
    unfold IA at hn
    split at hn
    · exact tW ho (he _ _ hu) (by rw [oH, Array.getElem?_toList] at hn; unfold Instr.extract; simp only [hn]; rfl)
    · cases hn
  · cases h
theorem zP (h : Pre l n N wr H L w0 a0 pre (o :: r)) {v : Value} (e : pv (ev l n L pre o) o.op = some v := by exact rfl) (hg : gN pre o = true := by exact rfl) : Pre l n N wr H L w0 a0 (.v v :: pre) r :=
  zO h (fun c => Gv (fun x u hu => c.e hu) e) hg
theorem zi0 (h : Pre l n N wr H L w0 a0 pre (o :: r)) {q : Prop} {v : Value} (G : ∀ {ys a w}, Cx l n N wr H L w0 a0 pre o ys a w → (q → Region.wanted o (yielded l.toArray a.tmps) = true) ∧ (¬ q → Region.wanted o (yielded l.toArray a.tmps) = false)) (run : ∀ {ys a w}, Cx l n N wr H L w0 a0 pre o ys a w → q → (execOp a.eval o).run Tryz.prog w = .ok (.value v) w) : Pre l n N wr H L w0 a0 (.i q v :: pre) r :=
  h.snoc fun {ys a w} c e => by
    by_cases hc : q
    · exact jQ ((G c).1 hc) (run c hc) (Gr e hc rfl) (BL e)
    · exact nC ((G c).2 hc) (Gs e hc) (BL e)
theorem zI (h : Pre l n N wr H L w0 a0 pre (o :: r)) {q : Prop} {v : Value} (g : gz pre o = some q := by exact rfl) (run : ∀ {ys a w}, Cx l n N wr H L w0 a0 pre o ys a w → q → (execOp a.eval o).run Tryz.prog w = .ok (.value v) w) : Pre l n N wr H L w0 a0 (.i q v :: pre) r := zi0 h (fun c => c.z g) run
theorem vW {p1 p2 : List Yd} {r1 : List Oper} (h : Pre l n N wr H L w0 a0 p1 r1) (k : Pre l n N wr H L w0 a0 p1 r1 → Pre l n N wr H L w0 a0 p2 []) : Pre l n N wr H L w0 a0 p2 [] := k h
def fyY (l : List Oper) (n : Nat) (o : Oper) (t : Nat) (pre : List Yd) : Option Yd := match yt l n pre t with
  | some (j, y) => (match Et o j with
    | true => some y
    | false => none)
  | none => none
theorem Dy {t : Nat} {B : Nat} {q : Yd} (x : Ext B pre ys) (d : iu l.toArray ys o a w) (h : fyY l n o t pre = some q) : (q.den B).p (a.eval (.tmp t)) w := by
  unfold fyY at h
  split at h
  · rename_i j y hy
    obtain ⟨h1, h2⟩ := yD hy x
    split at h
    · rename_i ha
      cases h
      have := vK d j ha; unfold Ys at this; rw [h1, gI h2] at this; exact this
    · cases h
  · cases h
theorem Cx.sl (c : Cx l n N wr H L w0 a0 pre o ys a w) {t m : Nat} {b : Obj} (h : fyY l n o t pre = some (.l m b) := by exact rfl) : ∃ g, a.eval (.tmp t) = .slice (some ⟨g, 0, none⟩) m m ∧ w0.heap.size ≤ g ∧ w.heap[g]? = some b := Dy (q := .l m b) c.x c.d h
end
