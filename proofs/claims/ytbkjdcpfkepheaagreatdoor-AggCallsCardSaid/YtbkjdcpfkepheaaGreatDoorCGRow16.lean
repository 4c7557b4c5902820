/- Layer 16: rows of cells and of arguments that are the call's own: appended to, copied, stored to. -/
import Derived.Test.YtbkjdcpfkepheaaGreatDoorCMixAV
import Derived.Test.YtbkjdcpfkepheaaGreatDoorCMixAS
namespace Go.Proofs.YtbkjdcpfkepheaaGreatDoor
section
set_option linter.unusedVariables false
set_option linter.unusedSimpArgs false
open Go.RowKit Lv
set_option maxRecDepth 100000
theorem uH (e : TypeId) (k s b : Nat) (h : (Tryz.prog.info? e).map (fun i => (i.zero.map (fun z => z.cells.size), i.size, i.bytes)) = some (some k, s, b)) (hs : s = k) : ∃ i z, Tryz.prog.info? e = some i ∧ i.zero = some z ∧ i.size = k ∧ i.bytes = b ∧ z.cells.size = k := by
  subst hs
  cases hi : Tryz.prog.info? e with
  | none => rw [hi] at h; cases h
  | some i =>
    rw [hi] at h
    simp only [Option.map_some, Option.some.injEq, Prod.mk.injEq] at h
    cases hz : i.zero with
    | none => rw [hz] at h; simp at h
    | some z => rw [hz] at h; simp at h; exact ⟨i, z, rfl, hz, h.2.1, h.2.2, h.1⟩
section
variable {w w0 w' : World} {a : Act} {o : Oper} {ops : Array Oper} {rest : List Oper} {Q : Exit → Act → World → Prop}
theorem ku (hw : Region.wanted o (yielded ops a.tmps) = true) {T e : TypeId} {s x : Operand} (ho : o.op = .call { callee := .builtin .append, args := #[s, x], argTypes := #[T, T] }) (hu : Tryz.prog.underlying T = some (.slice e)) {k by_ : Nat} (hi : ∃ i z, Tryz.prog.info? e = some i ∧ i.zero = some z ∧ i.size = k ∧ i.bytes = by_ ∧ z.cells.size = k) (hk : 0 < k) {base n m c : Nat} {v : Value} {xs news : List Value} {ad : Addr} (hs : a.eval s = v) (hx : a.eval x = .slice (some ad) m c) (hown : w.ownsRow base e k v n xs) (hl : news.length = m * k) (hnews : ∀ j u, news[j]? = some u → w.cell? (ad.add j) = some u) (h1 : ∀ u ∈ news, u.oneCell' = true) (hn : (n + m) * by_ ≤ 140737488355328) (hm : n + m ≤ maxLen) (hbase : base ≤ w.heap.size)
    (h : ∀ v' w', w'.ownsRow base e k v' (n + m) (xs ++ news) → w.grownBy w' v.ownBlock → (v'.ownBlock = v.ownBlock ∨ v'.ownBlock = some w.heap.size) → wpList Tryz.prog ops Q rest (a.put o.dst v') w') : wpList Tryz.prog ops Q (o :: rest) a w := by
  obtain ⟨i, z, hi, hz, h2, h3, h4⟩ := hi; obtain ⟨v', w', hrun, ho', hg', _, hb⟩ := run_append_own_at (P := Tryz.prog) w base T o.type e i z k by_ hu hi hz h2 h3 h4 hk v n xs hown ad m c news hl hnews h1 hm hn hbase; refine js hw ?_ (h v' w' ho' hg' hb); unfold execOp
  simp only [ho, resolve, invoke, builtin, Sem.run_bind, Sem.run_pure, Result.andThen_ok, List.map_toArray, List.map_cons, List.map_nil, hs, hx, hrun]
theorem oW {b n k : Nat} {e : TypeId} {v : Value} {xs : List Value} (h : w.ownsRow b e k v n xs) : w.ownsRow 0 e k v n xs := by
  obtain ⟨h1, h2⟩ := h; refine ⟨h1, ?_⟩; rcases h2 with h2 | ⟨g, cap, cur, hv, _, r⟩
  · exact Or.inl h2
  · exact Or.inr ⟨g, cap, cur, hv, Nat.zero_le _, r⟩
theorem lC {b n k : Nat} {e : TypeId} {v : Value} {xs : List Value} (h : w.ownsRow b e k v n xs) (q : Kept w w') : w'.ownsRow b e k v n xs := (Th.row b e k v n xs).loc w w' h (fun g hg => q.block g ((Th.row b e k v n xs).ins w h g hg))
theorem zl {b n k m c : Nat} {A : Option Addr} {e : TypeId} {xs : List Value} (h : w.ownsRow b e k (.slice A n c) n xs) (hm : m ≤ n) : w.ownsRow b e k (.slice A m c) m (xs.take (m * k)) := by
  obtain ⟨h1, h2⟩ := h; have hmk : m * k ≤ n * k := Nat.mul_le_mul_right _ hm; refine ⟨by rw [List.length_take]; omega, ?_⟩; rcases h2 with ⟨e1, h0⟩ | ⟨g, cap, cur, hv, hg, hh, h4, h5, h6, h7⟩
  · cases e1
    exact Or.inl ⟨by rw [show m = 0 by omega], by omega⟩
  · cases hv
    refine Or.inr ⟨g, c, cur, rfl, hg, hh, by omega, h5, h6, ?_⟩; rw [← h7, List.take_take, Nat.min_eq_left hmk]
theorem ET {b n k g c i : Nat} {e : TypeId} {xs : List Value} (u : Value) (h : w.ownsRow b e k (.slice (some ⟨g, 0, none⟩) n c) n xs) : (w.setCell ⟨g, i, none⟩ u).ownsRow b e k (.slice (some ⟨g, 0, none⟩) n c) n (xs.set i u) := by
  obtain ⟨h1, h2⟩ := h; refine ⟨by rw [List.length_set]; exact h1, ?_⟩; rcases h2 with ⟨e1, h0⟩ | ⟨g', cap, cur, hv, hg, hh, h4, h5, h6, h7⟩
  · cases e1
  · cases hv
    refine Or.inr ⟨g, c, cur.setIfInBounds i u, rfl, hg, Box.at_ (t := e) (cs := cur) hh i u, h4, h5, by rw [Array.size_setIfInBounds]; exact h6, ?_⟩; rw [← h7, Array.toList_setIfInBounds, List.take_set]
theorem Own.rowPut {H : List Th} (h : Own w0 H w) (j : Nat) {b n k g c : Nat} {e : TypeId} {xs : List Value} (he : H[j]? = some (Th.row b e k (.slice (some ⟨g, 0, none⟩) n c) n xs)) (i : Nat) (u : Value) : Own w0 (H.set j (Th.row b e k (.slice (some ⟨g, 0, none⟩) n c) n (xs.set i u))) (w.setCell ⟨g, i, none⟩ u) :=
  h.turn j he (t' := Th.row b e k (.slice (some ⟨g, 0, none⟩) n c) n (xs.set i u)) (ET u (h.row j he)) ⟨rfl, rfl, rfl, by simp [World.setCell], fun q hq ne => Below.heap_setCell w ⟨g, i, none⟩ u q (fun c => ne (by rw [c]; rfl))⟩ (Or.inl rfl)
end
section
variable {α : Type} {k : Nat} {enc : α → List Value}
theorem jB (hk : ∀ x, (enc x).length = k) (l : List α) : (l.map enc).flatten.length = l.length * k := by
  induction l with
  | nil => simp
  | cons x l ih => rw [List.map_cons, List.flatten_cons, List.length_append, hk, ih, List.length_cons, Nat.succ_mul, Nat.add_comm]
theorem jC (hk : ∀ x, (enc x).length = k) : ∀ (l : List α) (m : Nat), ((l.map enc).flatten).take (m * k) = ((l.take m).map enc).flatten
  | [], m => by simp
  | x :: l, 0 => by simp
  | x :: l, m + 1 => by
    rw [List.map_cons, List.flatten_cons, List.take_succ_cons, List.map_cons, List.flatten_cons, Nat.succ_mul, Nat.add_comm, List.take_append, hk, List.take_of_length_le (by rw [hk]; omega), show k + m * k - k = m * k by omega, jC hk l m]
theorem jD (hk : ∀ x, (enc x).length = k) {j : Nat} {u : Value} (hj : j < k) : ∀ (l : List α) (i : Nat) (x y : α), l[i]? = some x → enc y = (enc x).set j u → ((l.map enc).flatten).set (i * k + j) u = ((l.set i y).map enc).flatten
  | [], i, x, y, h, _ => by simp at h
  | z :: l, 0, x, y, h, e => by
    simp at h
    subst h; rw [List.map_cons, List.flatten_cons, Nat.zero_mul, Nat.zero_add, List.set_cons_zero, List.map_cons, List.flatten_cons, e, List.set_append_left _ _ (by rw [hk]; exact hj)]
  | z :: l, i + 1, x, y, h, e => by
    have ih := jD hk hj l i x y (by simpa using h) e; rw [List.map_cons, List.flatten_cons, List.set_cons_succ, List.map_cons, List.flatten_cons, List.set_append_right _ _ (by rw [hk, Nat.succ_mul]; omega), hk, show (i + 1) * k + j - k = i * k + j by rw [Nat.succ_mul]; omega, ih]
end
theorem zm (c : Cl) : ∀ u ∈ clV c, u.oneCell' = true := by
  intro u hu
  simp [clV] at hu
  rcases hu with rfl | rfl | rfl | rfl | rfl <;> rfl
theorem zn {l : List Cl} : ∀ u ∈ (l.map clV).flatten, u.oneCell' = true := by
  intro u hu; obtain ⟨x, hx, hu⟩ := List.mem_flatten.1 hu; obtain ⟨c, _, rfl⟩ := List.mem_map.1 hx; exact zm c u hu
/-! things -/
def cf (p : Ar × Value) : Th := Th.row 0 46 5 p.2 p.1.l.length (p.1.l.map clV).flatten
abbrev GN (p : Ar × Value) : List Value := arV p.1 p.2
def dW (v : Value) (L : List (Ar × Value)) : Th := Th.row 0 39 9 v L.length (L.map GN).flatten
theorem gd (p : Ar × Value) : (GN p).length = 9 := rfl
theorem sR {w : World} {p : Ar × Value} (h : (cf p).p w) : CellsAt w p.2 p.1.l := by
  obtain ⟨A, cap, e, r, hc, _⟩ := RowK.own eC h; exact ⟨A, cap, e, r, hc⟩
def sS (w : World) (l : List Ar) (e : Ending) (w' : World) : Prop := ∃ A cap, e = .returned (.slice A l.length cap) ∧ ArgsAt w' A l ∧ l.length ≤ cap ∧ (A = none → cap = 0) ∧ Kept w w'
def OwnArgs (w : World) (l : List Ar) (e : Ending) (w' : World) : Prop := ∃ v L, e = .returned v ∧ L.map Prod.fst = l ∧ Own w (dW v L :: L.map cf) w'
theorem OwnArgs.new {w w' : World} {l : List Ar} {e : Ending} (h : OwnArgs w l e w') : sS w l e w' := by
  obtain ⟨v, L, rfl, rfl, h⟩ := h; obtain ⟨A, cap, rfl, r, hc, hm, hg⟩ := RowK.own gd (h.row 0 rfl); refine ⟨A, cap, by rw [List.length_map], ⟨L, rfl, r, fun p hp => sR (h.has _ (List.mem_cons_of_mem _ (List.mem_map_of_mem hp)))⟩, by rw [List.length_map]; exact hc, ?_, h.kept⟩; rintro rfl; rcases (h.row 0 rfl).2 with ⟨e, _⟩ | ⟨g, c, cur, e, _⟩
  · injection e
  · injection e with e1 e2 e3
    cases e1
theorem wE {w : World} {a : Act} {o : Oper} {T e : TypeId} {s x : Operand} (ho : o.op = .call { callee := .builtin .append, args := #[s, x], argTypes := #[T, T] }) (hu : Tryz.prog.underlying T = some (.slice e)) {k by_ : Nat} (hi : ∃ i z, Tryz.prog.info? e = some i ∧ i.zero = some z ∧ i.size = k ∧ i.bytes = by_ ∧ z.cells.size = k) {base n : Nat} {v : Value} {xs : List Value} (hs : a.eval s = v) (hx : a.eval x = .slice none 0 0) (hown : w.ownsRow base e k v n xs) : (execOp a.eval o).run Tryz.prog w = .ok (.value v) w := by
  obtain ⟨i, z, hi, hz, h2, h3, h4⟩ := hi; subst h2; have hrun := run_append_owned_none (P := Tryz.prog) (w := w) base T o.type e i i.size hu hi v n xs hown; unfold execOp
  simp only [ho, resolve, invoke, builtin, Sem.run_bind, Sem.run_pure, Result.andThen_ok, List.map_toArray, List.map_cons, List.map_nil, hs, hx, hrun]
theorem zo {α : Type} {k : Nat} {enc : α → List Value} (hk : ∀ x, (enc x).length = k) {w : World} {ad : Addr} {l : List α} (h : RowK k enc w (some ad) l) (j : Nat) (u : Value) (hj : (l.map enc).flatten[j]? = some u) : w.cell? (ad.add j) = some u := by
  have hjl : j < l.length * k := by rw [← jB hk]; exact (List.getElem?_eq_some_iff.1 hj).1
  have hk0 : 0 < k := by
    rcases Nat.eq_zero_or_pos k with h0 | h0
    · subst h0; omega
    · exact h0
  have hi : j / k < l.length := (Nat.div_lt_iff_lt_mul hk0).2 hjl; obtain ⟨x, hx⟩ := bI hi; obtain ⟨b', off', e, hb, hc⟩ := h _ _ hx
  cases e
  have hm := Nat.mod_lt j hk0; have hq : (enc x)[j % k]? = some ((enc x)[j % k]'(by rw [hk]; exact hm)) := List.getElem?_eq_getElem _; obtain ⟨g1, _⟩ := lz hk l (j / k) (j % k) x _ hx hq; have e2 : j / k * k + j % k = j := by rw [Nat.mul_comm]; exact Nat.div_add_mod j k
  rw [e2] at g1; rw [Go.WideShapes.add_plain]; have := hc _ _ hq; rw [Nat.add_assoc, e2, ← g1, hj] at this; exact this
/-! what a call has made, told by the least block that it may lie in -/
def er (b : Nat) (l : List Cl) (v : Value) (w : World) : Prop := w.ownsRow b 46 5 v l.length (l.map clV).flatten
def mu (b : Nat) (x : Rc) (l : List Cl) (v : Value) (w : World) : Prop := ∃ A c, v = .agg #[.int .i64 x.c1, .int .i64 x.r1, .int .i64 x.c2, .int .i64 x.r2, .slice A l.length c] ∧ er b l (.slice A l.length c) w
def Cd (b : Nat) (a : Ar) (v : Value) (w : World) : Prop := ∃ A c, v = aA a (.slice A a.l.length c) ∧ er b a.l (.slice A a.l.length c) w
def uI (b : Nat) (a : Ar) (v : Value) (w : World) : Prop := ∃ g A c, v = .slice (some ⟨g, 0, none⟩) 1 1 ∧ b ≤ g ∧ w.heap[g]? = some (.cells #[.bool a.w, .int .u8 a.v.k, .int .i64 a.v.n, .string ⟨a.v.t.toArray⟩, .int .i64 a.x.c1, .int .i64 a.x.r1, .int .i64 a.x.c2, .int .i64 a.x.r2, .slice A a.l.length c] 39 (0, 0)) ∧ er b a.l (.slice A a.l.length c) w
theorem zp {w : World} {b c n k : Nat} {e : TypeId} {v : Value} {xs : List Value} (h : w.ownsRow b e k v n xs) (hc : c ≤ b) : w.ownsRow c e k v n xs := by
  obtain ⟨h1, h2⟩ := h; refine ⟨h1, ?_⟩; rcases h2 with h2 | ⟨g, cap, cur, hv, hg, r⟩
  · exact Or.inl h2
  · exact Or.inr ⟨g, cap, cur, hv, Nat.le_trans hc hg, r⟩
theorem oX (b : Nat) (x : Rc) (l : List Cl) : ∀ v w w', mu b x l v w → Kept w w' → mu b x l v w' := fun v w w' ⟨s, c, e, h⟩ k => ⟨s, c, e, lC h k⟩
theorem sT (b : Nat) (a : Ar) : ∀ v w w', Cd b a v w → Kept w w' → Cd b a v w' := fun v w w' ⟨s, c, e, h⟩ k => ⟨s, c, e, lC h k⟩
theorem qN (b : Nat) (a : Ar) : ∀ v w w', uI b a v w → Kept w w' → uI b a v w' := fun v w w' ⟨g, s, c, e, hb, hh, h⟩ k => ⟨g, s, c, e, hb, (k.block g (Array.getElem?_eq_some_iff.1 hh).1).trans hh, lC h k⟩
theorem mv {w : World} {b : Nat} {l : List Cl} {s : Value} (h : er b l s w) : s.oneCell' = true := ym h
theorem zt {w0 w w' : World} {H : List Th} {b : Nat} {l : List Cl} {s : Value} (o : Own w0 H w) (k : Kept w w') (h : er b l s w') (hb : w.heap.size ≤ b) : Own w0 (Th.row 0 46 5 s l.length (l.map clV).flatten :: H) w' :=
  o.add (t := Th.row 0 46 5 s l.length (l.map clV).flatten) (oW h) k (fun g e => Nat.le_trans hb (World.ownsRow.lt h g e).1)
section
variable {w : World} {a : Act} {o : Oper} {ops : Array Oper} {rest : List Oper} {Q : Exit → Act → World → Prop}
theorem gP (hw : Region.wanted o (yielded ops a.tmps) = true) {s x : Operand} (ho : o.op = .call { callee := .builtin .append, args := #[s, x], argTypes := #[22, 22] }) {v : Value} {L : List (Ar × Value)} {y : Ar} {sy : Value} {g c : Nat} (hs : a.eval s = v) (hx : a.eval x = .slice (some ⟨g, 0, none⟩) 1 c) (hown : (dW v L).p w) (hg : w.heap[g]? = some (.cells #[.bool y.w, .int .u8 y.v.k, .int .i64 y.v.n, .string ⟨y.v.t.toArray⟩, .int .i64 y.x.c1, .int .i64 y.x.r1, .int .i64 y.x.c2, .int .i64 y.x.r2, sy] 39 (0, 0))) (h1 : sy.oneCell' = true) (hl : L.length ≤ 900000)
    (h : ∀ v' w', (dW v' (L ++ [(y, sy)])).p w' → w.grownBy w' v.ownBlock → (v'.ownBlock = v.ownBlock ∨ v'.ownBlock = some w.heap.size) → wpList Tryz.prog ops Q rest (a.put o.dst v') w') : wpList Tryz.prog ops Q (o :: rest) a w := by
  refine ku hw ho Tryz.underlying22 (k := 9) (by_ := 96) (uH _ _ _ _ (by kernel_rfl) rfl) (by decide) (news := arV y sy) hs hx hown rfl (fun j u hj => ?_) (fun u hu => ?_) (by omega) (by simp only [maxLen]; omega) (Nat.zero_le _) (fun v' w' ho' hg' hb => h v' w' ?_ hg' hb)
  · rw [Go.WideShapes.add_plain, Nat.zero_add, cell_of_row w g j _ 39 (0, 0) hg, ← hj]
    simp [arV]
  · simp only [arV, List.mem_cons, List.not_mem_nil, or_false] at hu
    rcases hu with rfl | rfl | rfl | rfl | rfl | rfl | rfl | rfl | rfl <;> first | exact h1 | rfl
  · show w'.ownsRow 0 39 9 v' (L ++ [(y, sy)]).length ((L ++ [(y, sy)]).map GN).flatten
    rw [List.length_append, List.length_singleton, List.map_append, List.flatten_append]; exact (by simpa using ho')
end
theorem oY {w0 w : World} {v : Value} {L : List (Ar × Value)} {y : Ar} {s : Value} (h : Own w0 (Th.row 0 46 5 s y.l.length (y.l.map clV).flatten :: dW v (L ++ [(y, s)]) :: L.map cf) w) : Own w0 (dW v (L ++ [(y, s)]) :: (L ++ [(y, s)]).map cf) w := by
  refine h.perm ?_; rw [List.map_append]; refine (List.Perm.swap _ _ _).trans (List.Perm.cons _ ?_); exact (List.perm_append_singleton _ _).symm
theorem Own.rowNew {w0 w : World} {H : List Th} (h : Own w0 H w) (k : Nat) {b size n : Nat} {t : TypeId} {v : Value} {xs : List Value} (e : H[k]? = some (Th.row b t size v n xs)) : w.ownsRow w0.heap.size t size v n xs := by
  have ho := h.old _ (List.mem_of_getElem? e); obtain ⟨h1, h2⟩ := h.row k e; refine ⟨h1, ?_⟩; rcases h2 with h2 | ⟨g, cap, cur, hv, hg, r⟩
  · exact Or.inl h2
  · subst hv
    exact Or.inr ⟨g, cap, cur, rfl, ho g rfl, r⟩
theorem wF {w0 wr w : World} {H : List Th} {l : List Cl} {s : Value} {b : Nat} (o : Own w0 H wr) (ov : Own w0 H w) (hb : b = wr.heap.size) (h : er b l s w) : Own w0 (Th.row 0 46 5 s l.length (l.map clV).flatten :: H) w := by
  subst hb; exact ov.consT (t := Th.row 0 46 5 s l.length (l.map clV).flatten) (oW h) (fun g e => Nat.le_trans o.kept.size (World.ownsRow.lt h g e).1) (fun q hq g e => o.below (World.ownsRow.lt h g e).1 q hq)
theorem kU {w0 w : World} (h : Own w0 [] w) : Own w0 (dW (.slice none 0 0) [] :: ([] : List (Ar × Value)).map cf) w :=
  h.consT (t := dW (.slice none 0 0) []) (World.ownsRow_nil w 0 _ _) (fun g e => by cases e) (fun s hs g e => by cases e)
theorem mX {b : Nat} {l : List Cl} {v : Value} {w : World} (h : er b l v w) : ∃ A c, v = .slice A l.length c := bV h
/-! what comes in -/
def CellsIn (w : World) (s : Value) (l : List Cl) : Prop := ∃ A cap, s = .slice A l.length cap ∧ RowK 5 clV w A l ∧ l.length ≤ cap ∧ (A = none → cap = 0)
def ArgsIn (w : World) (A : Option Addr) (l : List Ar) : Prop := ∃ L : List (Ar × Value), L.map Prod.fst = l ∧ RowK 9 (fun p : Ar × Value => arV p.1 p.2) w A L ∧ ∀ p ∈ L, CellsIn w p.2 p.1.l
theorem CellsIn.kept {w w' : World} {s : Value} {l : List Cl} (h : CellsIn w s l) (q : Kept w w') : CellsIn w' s l := by
  obtain ⟨A, c, e, r, hc⟩ := h; exact ⟨A, c, e, r.kept q, hc⟩
theorem ArgsIn.kept {w w' : World} {A : Option Addr} {l : List Ar} (h : ArgsIn w A l) (q : Kept w w') : ArgsIn w' A l := by
  obtain ⟨L, e, r, c⟩ := h; exact ⟨L, e, r.kept q, fun p hp => (c p hp).kept q⟩
theorem ArgsIn.take {w : World} {A : Option Addr} {l : List Ar} (h : ArgsIn w A l) (n : Nat) : ArgsIn w A (l.take n) := by
  obtain ⟨L, rfl, r, c⟩ := h; exact ⟨L.take n, by rw [List.map_take], r.take n, fun p hp => c p (List.mem_of_mem_take hp)⟩
theorem ArgsIn.at_ {w : World} {A : Option Addr} {l : List Ar} (h : ArgsIn w A l) : ArgsAt w A l := by
  obtain ⟨L, rfl, r, c⟩ := h; exact ⟨L, rfl, r, fun p hp => by obtain ⟨A1, c1, e, r1, h1, _⟩ := c p hp; exact ⟨A1, c1, e, r1, h1⟩⟩
theorem ArgsIn.elem {w : World} {A : Option Addr} {l : List Ar} (h : ArgsIn w A l) {i : Nat} {x : Ar} (hx : l[i]? = some x) : ∃ b off A1 c1, A = some ⟨b, off, none⟩ ∧ ElemK w b (off + i * 9) (arV x (.slice A1 x.l.length c1)) ∧ RowK 5 clV w A1 x.l ∧ x.l.length ≤ c1 ∧ (A1 = none → c1 = 0) := by
  obtain ⟨L, e, r, c⟩ := h; subst e; rw [List.getElem?_map] at hx
  cases hL : L[i]? with
  | none => rw [hL] at hx; cases hx
  | some p =>
    rw [hL] at hx
    cases hx
    obtain ⟨b, off, hA, he⟩ := r.elem hL; obtain ⟨A1, c1, e1, r1, h1, n1⟩ := c p (List.mem_of_getElem? hL); exact ⟨b, off, A1, c1, hA, e1 ▸ he, r1, h1, n1⟩
/-! stores into rows of the call's own -/
section
variable {w w0 : World} {a : Act} {o : Oper} {ops : Array Oper} {rest : List Oper} {Q : Exit → Act → World → Prop} {H : List Th}
theorem mw (ow : Own w0 H w) (j : Nat) {b n n' k g c off : Nat} {e T : TypeId} {xs : List Value} {x y : Operand} {u : Value} (hw : Region.wanted o (yielded ops a.tmps) = true) (hn : o.dst = none) (ho : o.op = .store T x y) (hs : (sizeOf T).run Tryz.prog w = .ok 1 w) (hx : a.eval x = .pointer (some ⟨g, off, none⟩)) (hy : a.eval y = u) {A : Option Addr} (hA : A = some ⟨g, 0, none⟩) (he : H[j]? = some (Th.row b e k (.slice A n c) n' xs)) (h1 : u.oneCell' = true) (hoff : off < n' * k)
    (h : ∀ w', Own w0 (H.set j (Th.row b e k (.slice A n c) n' (xs.set off u))) w' → wpList Tryz.prog ops Q rest a w') : wpList Tryz.prog ops Q (o :: rest) a w := by
  have hr := ow.row j he; subst hA; rcases hr.2 with ⟨e1, h0⟩ | ⟨g', cap, cur, hv, hg, hh, h4, h5, h6, h7⟩
  · cases e1
  · cases hv
    have hsz : off + 1 ≤ cur.size := by
      have : n * k ≤ c * k := Nat.mul_le_mul_right _ h4
      omega
    refine lV hw hn (su (off := off) ho hx hy hs (t := e) (cs := cur) hh h1 hsz) (h _ ?_); have := ow.rowPut j he off u; exact this
theorem RowK.fz {α : Type} {k : Nat} {enc : α → List Value} {A : Option Addr} {l : List α} (h : RowK k enc w A l) (cap : Nat) : RowK k enc w (fz A cap) l := fun i x hx => by
  obtain ⟨b, off, rfl, r⟩ := h i x hx; exact ⟨b, off, ss b off cap, r⟩
theorem ArgsIn.fz {A : Option Addr} {l : List Ar} (h : ArgsIn w A l) (cap : Nat) : ArgsIn w (fz A cap) l := by
  obtain ⟨L, e, r, c⟩ := h; exact ⟨L, e, r.fz cap, c⟩
theorem qO {T e : TypeId} {s : Nat} (hu : Tryz.prog.underlying T = some (.slice e)) (hz : (sizeOf e).run Tryz.prog w = .ok s w) {x y : Operand} (ho : o.op = .slice T x none (some y) none) {A : Option Addr} {n cap h : Nat} (hx : a.eval x = .slice A n cap) (hy : a.eval y = .int .i64 h) (hh : h ≤ cap) : (execOp a.eval o).run Tryz.prog w = .ok (.value (.slice (Go.Proofs.YtbkjdcpfkepheaaGreatDoor.fz A cap) h cap)) w := by
  have hr := run_underlying (w := w) hu; have h0 : (0 : Int) ≤ (h : Int) := by omega
  have h1 : (h : Int) ≤ (cap : Int) := by omega
  unfold execOp Go.Proofs.YtbkjdcpfkepheaaGreatDoor.fz; rw [ho]
  simp only [hx, hy, Option.map_some, Option.map_none]
  go_simp
end
theorem kv {α : Type} : ∀ {l : List α} {k : Nat} (h : k < l.length), (l[k] :: l.eraseIdx k).Perm l
  | x :: l, 0, _ => List.Perm.refl _
  | x :: l, k + 1, h => by
    have := kv (l := l) (k := k) (by simpa using h); rw [List.getElem_cons_succ, List.eraseIdx_cons_succ]; exact (List.Perm.swap _ _ _).trans (List.Perm.cons _ this)
theorem qP {w0 w w' : World} {H : List Th} (h : Own w0 [] w) (k : Own w H w') : Own w0 H w' := by
  have := h.join k
  rwa [List.append_nil] at this
theorem uJ {w0 w : World} {t t' : Th} {H : List Th} (h : Own w0 (t :: H) w) (hp : t.p w → t'.p w) (hb : t'.blk = t.blk) : Own w0 (t' :: H) w :=
  h.turn 0 rfl (t' := t') (hp (h.has _ (List.mem_cons_self ..))) ⟨rfl, rfl, rfl, Nat.le_refl _, fun _ _ _ => rfl⟩ (Or.inl hb)
theorem Ce {w0 w : World} {t : Th} {L : List (Ar × Value)} {k : Nat} {p : Ar × Value} (h : Own w0 (t :: L.map cf) w) (hk : L[k]? = some p) : Own w0 (cf p :: t :: (L.map cf).eraseIdx k) w := by
  refine h.perm ?_; have hk' : (L.map cf)[k]? = some (cf p) := by rw [List.getElem?_map, hk]; rfl
  obtain ⟨hl, e⟩ := List.getElem?_eq_some_iff.1 hk'
  have hp : (L.map cf).Perm (cf p :: (L.map cf).eraseIdx k) := by
    have := kv hl; rw [e] at this; exact this.symm
  exact (List.Perm.cons _ hp).trans (List.Perm.swap _ _ _)
theorem Cf {w0 w : World} {t : Th} {L : List (Ar × Value)} {k : Nat} {p : Ar × Value} (h : Own w0 (cf p :: t :: (L.map cf).eraseIdx k) w) (hk : k < L.length) : Own w0 (t :: (L.set k p).map cf) w := by
  refine h.perm ?_; refine (List.Perm.swap _ _ _).trans (List.Perm.cons _ ?_); rw [List.map_set]; have hl : k < ((L.map cf).set k (cf p)).length := by rw [List.length_set, List.length_map]; exact hk
  have := kv hl; rw [List.getElem_set_self, List.eraseIdx_set_eq] at this; exact this
theorem lD {α : Type} {k : Nat} {enc : α → List Value} (hk : ∀ x, (enc x).length = k) {w : World} {b g n n' c i : Nat} {e : TypeId} {l : List α} {x : α} {A : Option Addr} (hA : A = some ⟨g, 0, none⟩) (h : w.ownsRow b e k (.slice A n c) n' (l.map enc).flatten) (hx : l[i]? = some x) : ElemK w g (0 + i * k) (enc x) := by
  subst hA; rcases h.2 with ⟨e1, h0⟩ | ⟨g', cap, cur, hv, hg, hh, h4, h5, h6, h7⟩
  · cases e1
  · cases hv
    refine ⟨(Array.getElem?_eq_some_iff.1 hh).1, fun j v hv => ?_⟩; obtain ⟨h1, h2⟩ := lz hk l i j x v hx hv; rw [Nat.zero_add, cell_of_row w g _ cur e (0, 0) hh, ← h1, ← h7, List.getElem?_take_of_lt, Array.getElem?_toList]; have := h.1; rw [jB hk] at this
    omega
theorem uK {w : World} {b n n' c k : Nat} {e : TypeId} {A : Option Addr} {xs : List Value} (h : w.ownsRow b e k (.slice A n c) n' xs) (h0 : 0 < n') : ∃ g, A = some ⟨g, 0, none⟩ ∧ n = n' ∧ n ≤ c := by
  rcases h.2 with ⟨e1, c0⟩ | ⟨g, cap, cur, hv, hg, hh, h4, r⟩
  · omega
  · cases hv
    exact ⟨g, rfl, rfl, h4⟩
/-! Few -/
def gq (c : Cl) : Cl := { c with v := kT c.v }
def Jt (a : Ar) : Ar := { a with v := kT a.v }
def gQ (a : Ar) : Ar := { a with v := kT a.v, l := (a.l.take 60).map gq }
def jE (l : List Ar) : List Ar := (l.take 20).map gQ
def dc (v : Value) (l : List Cl) : Th := Th.row 0 46 5 v l.length (l.map clV).flatten
theorem my (t : List UInt8) : t.take (min t.length 300) = t.take 300 := by
  rcases Nat.le_total t.length 300 with h | h
  · rw [Nat.min_eq_left h, List.take_of_length_le (Nat.le_refl _), List.take_of_length_le h]
  · rw [Nat.min_eq_right h]
theorem DJ {α : Type} {l : List α} {i : Nat} {x y : α} (h : l[i]? = some x) : (l.set i y)[i]? = some y := by
  have hi := (List.getElem?_eq_some_iff.1 h).1; rw [List.getElem?_set_self hi]
theorem jF {α β : Type} {f : α → α} {m : List α} {k : Nat} {a : α} (ha : m[k]? = some a) : ((m.take k).map f ++ m.drop k)[k]? = some a ∧ ((m.take k).map f ++ m.drop k).set k (f a) = (m.take (k + 1)).map f ++ m.drop (k + 1) := by
  have hk := (List.getElem?_eq_some_iff.1 ha).1; have l1 : ((m.take k).map f).length = k := by rw [List.length_map, List.length_take]; omega
  refine ⟨?_, ?_⟩
  · rw [List.getElem?_append_right (by omega), l1, Nat.sub_self, dD ha]; rfl
  · rw [List.set_append_right _ _ (by omega), l1, Nat.sub_self, dD ha, List.set_cons_zero, fu ha, List.map_append, List.append_assoc]; rfl
theorem zv {α : Type} {f : α → α} {m : List α} {k : Nat} (h : m.length ≤ k) : (m.take k).map f ++ m.drop k = m.map f := by
  rw [List.take_of_length_le h, List.drop_eq_nil_of_le h, List.append_nil]
theorem GO {L : List (Ar × Value)} {m : List Ar} {k : Nat} {a : Ar} (hL : L.map Prod.fst = (m.take k).map gQ ++ m.drop k) (ha : m[k]? = some a) : ∃ s, L[k]? = some (a, s) := by
  have := (jF (β := Unit) (f := gQ) ha).1; rw [← hL, List.getElem?_map] at this
  cases h : L[k]? with
  | none => rw [h] at this; cases this
  | some p => rw [h] at this; cases this; exact ⟨p.2, rfl⟩
theorem Cg {L : List (Ar × Value)} {m : List Ar} {k : Nat} {a : Ar} {s : Value} (hL : L.map Prod.fst = (m.take k).map gQ ++ m.drop k) (ha : m[k]? = some a) : (L.set k (gQ a, s)).map Prod.fst = (m.take (k + 1)).map gQ ++ m.drop (k + 1) := by
  rw [List.map_set, hL]; exact (jF (β := Unit) (f := gQ) ha).2
section
variable {w w0 : World} {a : Act} {o : Oper} {ops : Array Oper} {rest : List Oper} {Q : Exit → Act → World → Prop} {H : List Th}
theorem wG {B : Option Addr} {n c g k q : Nat} {L : List (Ar × Value)} {y : Ar} {s : Value} {T : List Th} {x z : Operand} (ow : Own w0 (dW (.slice B n c) L :: T) w) (hw : Region.wanted o (yielded ops a.tmps) = true) (hn : o.dst = none) (ho : o.op = .store 9 x z) (hx : a.eval x = .pointer (some ⟨g, q, none⟩)) (hq : q = k * 9 + 3) (hy : a.eval z = .string ⟨(y.v.t.take (min y.v.t.length 300)).toArray⟩) (hB : B = some ⟨g, 0, none⟩) (hL : L[k]? = some (y, s))
    (h : ∀ w', Own w0 (dW (.slice B n c) (L.set k (Jt y, s)) :: T) w' → wpList Tryz.prog ops Q rest a w') : wpList Tryz.prog ops Q (o :: rest) a w := by
  subst hq; have hk := (List.getElem?_eq_some_iff.1 hL).1; refine mw ow 0 hw hn ho (by kernel_rfl) hx hy hB rfl rfl (by omega) (fun w' o' => h w' ?_); rw [jD gd (by decide) L k (y, s) (Jt y, s) hL (by rw [my]; rfl)] at o'; have e : (L.set k (Jt y, s)).length = L.length := List.length_set ..; unfold dW; rw [e]; exact o'
theorem sU {B : Option Addr} {n c g k q : Nat} {L : List (Ar × Value)} {y z : Ar} {s u : Value} {T : List Th} {x v : Operand} {t1 : Th} (ow : Own w0 (t1 :: dW (.slice B n c) L :: T) w) (hw : Region.wanted o (yielded ops a.tmps) = true) (hn : o.dst = none) (ho : o.op = .store 35 x v) (hx : a.eval x = .pointer (some ⟨g, q, none⟩)) (hq : q = k * 9 + 8) (hy : a.eval v = u) (h1 : u.oneCell' = true) (hB : B = some ⟨g, 0, none⟩) (hL : L[k]? = some (y, s)) (hz : arV z u = (arV y s).set 8 u)
    (h : ∀ w', Own w0 (t1 :: dW (.slice B n c) (L.set k (z, u)) :: T) w' → wpList Tryz.prog ops Q rest a w') : wpList Tryz.prog ops Q (o :: rest) a w := by
  subst hq; have hk := (List.getElem?_eq_some_iff.1 hL).1; refine mw ow 1 hw hn ho (by kernel_rfl) hx hy hB rfl h1 (by omega) (fun w' o' => h w' ?_); rw [jD gd (by decide) L k (y, s) (z, u) hL hz] at o'; have e : (L.set k (z, u)).length = L.length := List.length_set ..; unfold dW; rw [e]; exact o'
theorem sV {B : Option Addr} {n c g i q : Nat} {l : List Cl} {y : Cl} {T : List Th} {x z : Operand} (ow : Own w0 (dc (.slice B n c) l :: T) w) (hw : Region.wanted o (yielded ops a.tmps) = true) (hn : o.dst = none) (ho : o.op = .store 9 x z) (hx : a.eval x = .pointer (some ⟨g, q, none⟩)) (hq : q = i * 5 + 4) (hy : a.eval z = .string ⟨(y.v.t.take (min y.v.t.length 300)).toArray⟩) (hB : B = some ⟨g, 0, none⟩) (hL : l[i]? = some y)
    (h : ∀ w', Own w0 (dc (.slice B n c) (l.set i (gq y)) :: T) w' → wpList Tryz.prog ops Q rest a w') : wpList Tryz.prog ops Q (o :: rest) a w := by
  subst hq; have hk := (List.getElem?_eq_some_iff.1 hL).1; refine mw ow 0 hw hn ho (by kernel_rfl) hx hy hB rfl rfl (by omega) (fun w' o' => h w' ?_); rw [jD eC (by decide) l i y (gq y) hL (by rw [my]; rfl)] at o'; have e : (l.set i (gq y)).length = l.length := List.length_set ..; unfold dc; rw [e]; exact o'
end
theorem EU {w0 w : World} {T : List Th} {y : Ar} {SA : Option Addr} {SC j : Nat} (h : Own w0 (cf (y, .slice SA y.l.length SC) :: T) w) (hj : j = min y.l.length 60) : Own w0 (dc (.slice SA j SC) (y.l.take 60) :: T) w := by
  refine uJ h (fun hp => ?_) ?_
  · have h2 := zl hp (m := j) (by show j ≤ y.l.length; omega)
    have e : (y.l.take 60).length = j := by rw [List.length_take]; omega
    show w.ownsRow 0 _ 5 (.slice SA j SC) (y.l.take 60).length ((y.l.take 60).map clV).flatten; rw [e, ← jC eC]
    have e2 : List.take (60 * 5) ((y.l.map clV).flatten) = List.take (j * 5) ((y.l.map clV).flatten) := by
      rw [jC eC, jC eC]
      congr 2
      rw [hj]; rcases Nat.le_total y.l.length 60 with c | c
      · rw [Nat.min_eq_left c, List.take_of_length_le c, List.take_of_length_le (Nat.le_refl _)]
      · rw [Nat.min_eq_right c]
    rw [e2]; exact h2
  · cases SA <;> rfl
