/- Layer 16: the reference's valid, Numbers; what the kit compares (printed by wip/mkref16.py). -/
import Derived.Test.YtbkjdcpfkepheaaGreatDoorCMixBB
set_option maxHeartbeats 4000000
namespace Go.Proofs.YtbkjdcpfkepheaaGreatDoor
section
set_option linter.unusedVariables false
set_option linter.unusedSimpArgs false
open Go.RowKit Lv
set_option maxRecDepth 100000
theorem Fx {a : Act} {w : World} {o : Oper} {T2 : TypeId} {x y : Operand} (ho : o.op = .binOp .neq 46 x y T2) {c : Cl} (hx : a.eval x = .agg #[.int .i64 c.c, .int .i64 c.r, .int .u8 c.v.k, .int .i64 c.v.n, .string ⟨c.v.t.toArray⟩]) (hy : a.eval y = .agg #[.int .i64 c.c, .int .i64 c.r, .int .u8 c.v.k, .int .i64 c.v.n, .string ⟨c.v.t.toArray⟩]) : (execOp a.eval o).run Tryz.prog w = .ok (.value (.bool false)) w := by
  unfold execOp; rw [ho]
  simp only [hx, hy]
  go_simp
theorem Fy {w : World} {A : Option Addr} {l : List Cl} {k b off : Nat} {c : Cl} (hr : RowK 5 clV w A l) (h : l[k]? = some c) (hA : A = some ⟨b, off, none⟩) : ∃ pc : Cl, (0 : Int) < (k : Int) → ElemK w b (off + (k - 1) * 5) (clV pc) ∧ l[k - 1]? = some pc := by
  have hk := (List.getElem?_eq_some_iff.1 h).1; obtain ⟨pc, hp⟩ := bI (l := l) (i := k - 1) (by omega); obtain ⟨b2, o2, e, he⟩ := hr.elem hp; rw [hA] at e
  cases e
  exact ⟨pc, fun _ => ⟨he, hp⟩⟩
abbrev AG (x : Rc) (k : Nat) (cl pc : Cl) : Prop := (((¬ (jL x cl.c cl.r = true)) ∨ ((cF cl.v : Int) ≠ (0 : Int))) ∨ ((cl.v.k : Int) = (0 : Int))) ∨ (((0 : Int) < (k : Int)) ∧ (¬ (dA pc cl = true)))
theorem AH {x : Rc} {k : Nat} {cl pc : Cl} (h : ¬ AG x k cl pc) : dT x cl ∧ ((0 : Int) < (k : Int) → dA pc cl = true) := by
  simp only [AG, not_or, Classical.not_not, not_and] at h
  obtain ⟨⟨⟨h1, h2⟩, h3⟩, h4⟩ := h; exact ⟨⟨h1, by omega, uw (fun c => c h2)⟩, h4⟩
theorem Fz {x : Rc} {l : List Cl} {k : Nat} {cl pc : Cl} (hf : ∀ j, j < k → ∀ q, l[j]? = some q → dT x q) (h : l[k]? = some cl) (hg : ¬ AG x k cl pc) : ∀ j, j < k + 1 → ∀ q, l[j]? = some q → dT x q := fun j hj q hq => by
  rcases Nat.lt_or_ge j k with c | c
  · exact hf j c q hq
  · have e : j = k := by omega
    subst e; rw [h] at hq
    cases hq
    exact (AH hg).1
theorem IK {x : Rc} {l : List Cl} {k : Nat} {cl pc : Cl} {P : Prop} (hu : ∀ j, j + 1 < k → ∀ p q, l[j]? = some p → l[j + 1]? = some q → dA p q = true) (h : l[k]? = some cl) (hp : (0 : Int) < (k : Int) → P ∧ l[k - 1]? = some pc) (hg : ¬ AG x k cl pc) : ∀ j, j + 1 < k + 1 → ∀ p q, l[j]? = some p → l[j + 1]? = some q → dA p q = true := fun j hj p q h1 h2 => by
  rcases Nat.lt_or_ge (j + 1) k with c | c
  · exact hu j c p q h1 h2
  · have e : k = j + 1 := by omega
    subst e; rw [h] at h2
    cases h2
    have h3 := (hp (by omega)).2; rw [Nat.add_sub_cancel, h1] at h3
    cases h3
    exact (AH hg).2 (by omega)
theorem FA {x : Rc} {l : List Cl} {k : Nat} (hf : ∀ j, j < k → ∀ q, l[j]? = some q → dT x q) (hu : ∀ j, j + 1 < k → ∀ p q, l[j]? = some p → l[j + 1]? = some q → dA p q = true) (h : l.length ≤ k) : db x (-1) l = true := dm.2 ⟨fun c hc => by
  obtain ⟨i, hi, e⟩ := List.getElem_of_mem hc; exact hf i (by omega) c (by rw [List.getElem?_eq_getElem hi, e]), qu l (fun i hi p q hp hq => hu i (by omega) p q hp hq)⟩
theorem Hj {x : Rc} {l : List Cl} {k : Nat} {cl pc : Cl} {P : Prop} (h : l[k]? = some cl) (hp : (0 : Int) < (k : Int) → P ∧ l[k - 1]? = some pc) (hb : AG x k cl pc) : db x (-1) l = false := by
  rw [Bool.eq_false_iff]; intro c; obtain ⟨f, r⟩ := dm.1 c; obtain ⟨f1, f2, f3⟩ := f cl (List.mem_of_getElem? h); rcases hb with ((b | b) | b) | ⟨b, d⟩
  · exact b f1
  · exact absurd f3 (by rw [uu b]; simp)
  · exact f2 (by omega)
  · have h2 := (hp b).2
    obtain ⟨hk, ek⟩ := List.getElem?_eq_some_iff.1 h; obtain ⟨hj, ej⟩ := List.getElem?_eq_some_iff.1 h2; have := List.pairwise_iff_getElem.1 r (k - 1) k hj hk (by omega); rw [ek, ej] at this; exact d this
theorem pu {l : List Ar} {k : Nat} {a : Ar} (h : l[k]? = some a) : aH (l.take (k + 1)) = aH (l.take k) ++ rK a := by
  unfold aH; rw [fu h, List.map_append, List.flatten_append]
  simp
theorem rq {l : List Ar} {k : Nat} {a : Ar} (h : l[k]? = some a) : aH l = aH (l.take k) ++ (rK a ++ aH (l.drop (k + 1))) := by
  have e : l = l.take k ++ a :: l.drop (k + 1) := by rw [← dD h, List.take_append_drop]
  unfold aH; rw [congrArg (List.map rK) e, List.map_append, List.map_cons, List.flatten_append, List.flatten_cons]
theorem FB {l : List Ar} {k : Nat} {a : Ar} (hw : a.w = false) (ha : l[k]? = some a) (hf : ax (aH (l.take k)) = none) (he : isE (aL a.v) = true) : ax (aH l) = some (aL a.v) := by
  rw [rq ha, sJ hw]; exact EA hf he
theorem Hk {l : List Ar} {k : Nat} {a : Ar} {L : List Int} (hw : a.w = false) (ha : l[k]? = some a) (hf : ax (aH (l.take k)) = none) (hL : L = (aH (l.take k)).map Vl.n) (he : isE (aL a.v) = false) : ax (aH (l.take (k + 1))) = none ∧ L ++ [(aL a.v).n] = (aH (l.take (k + 1))).map Vl.n := by
  rw [pu ha, sJ hw, List.map_append, hL]; exact ⟨mn hf he, rfl⟩
theorem mK {l : List Cl} {j : Nat} {c : Cl} (h : l[j]? = some c) : eZ (l.take (j + 1)) = eZ (l.take j) ++ (if c.v.k = 1 ∨ c.v.k = 4 then [c.v] else []) := by
  unfold eZ; rw [fu h, List.map_append, List.filter_append]
  by_cases hc : c.v.k = 1 ∨ c.v.k = 4
  · rw [if_pos hc]
    simp [hc]
  · rw [if_neg hc]
    simp [hc]
theorem wW {l : List Cl} {j : Nat} {c : Cl} (h : l[j]? = some c) (hc : c.v.k = 1 ∨ c.v.k = 4) : eZ l = eZ (l.take j) ++ c.v :: eZ (l.drop (j + 1)) := by
  have e : l = l.take (j + 1) ++ l.drop (j + 1) := (List.take_append_drop _ _).symm
  have e2 : eZ l = eZ (l.take (j + 1)) ++ eZ (l.drop (j + 1)) := by
    unfold eZ; rw [← List.filter_append, ← List.map_append, ← e]
  rw [e2, mK h, if_pos hc, List.append_assoc]
  rfl
theorem FC {l : List Ar} {k j : Nat} {a : Ar} {c : Cl} (hw : a.w = true) (ha : l[k]? = some a) (hc : a.l[j]? = some c) (hf : ax (aH (l.take k) ++ eZ (a.l.take j)) = none) (he : isE c.v = true) : ax (aH l) = some c.v := by
  have hk : c.v.k = 4 := by unfold isE at he; simpa using he
  rw [rq ha, lB hw, wW hc (Or.inr hk), List.append_assoc, List.cons_append, ← List.append_assoc]; exact EA hf he
theorem FD {l : List Ar} {k j : Nat} {a : Ar} {c : Cl} {M : List Int} (hc : a.l[j]? = some c) (hf : ax (aH (l.take k) ++ eZ (a.l.take j)) = none) (hM : M = (aH (l.take k) ++ eZ (a.l.take j)).map Vl.n) (hk : (c.v.k : Int) = (1 : Int)) : ax (aH (l.take k) ++ eZ (a.l.take (j + 1))) = none ∧ M ++ [c.v.n] = (aH (l.take k) ++ eZ (a.l.take (j + 1))).map Vl.n := by
  have h1 : c.v.k = 1 := by omega
  rw [mK hc, if_pos (Or.inl h1), ← List.append_assoc, List.map_append (l₁ := aH (l.take k) ++ eZ (a.l.take j)), hM]; exact ⟨mn hf (by unfold isE; simp [h1]), rfl⟩
theorem Hl {l : List Ar} {k j : Nat} {a : Ar} {c : Cl} {M : List Int} (hc : a.l[j]? = some c) (hf : ax (aH (l.take k) ++ eZ (a.l.take j)) = none) (hM : M = (aH (l.take k) ++ eZ (a.l.take j)).map Vl.n) (he : isE c.v = false) (hk : ¬ (c.v.k : Int) = (1 : Int)) : ax (aH (l.take k) ++ eZ (a.l.take (j + 1))) = none ∧ M = (aH (l.take k) ++ eZ (a.l.take (j + 1))).map Vl.n := by
  have h4 : ¬ c.v.k = 4 := by unfold isE at he; simpa using he
  rw [mK hc, if_neg (by omega), List.append_nil]; exact ⟨hf, hM⟩
theorem FF {l : List Ar} {k j : Nat} {a : Ar} {M : List Int} (hw : a.w = true) (ha : l[k]? = some a) (hf : ax (aH (l.take k) ++ eZ (a.l.take j)) = none) (hM : M = (aH (l.take k) ++ eZ (a.l.take j)).map Vl.n) (hj : a.l.length ≤ j) : ax (aH (l.take (k + 1))) = none ∧ M = (aH (l.take (k + 1))).map Vl.n := by
  rw [List.take_of_length_le hj] at hf hM; rw [pu ha, lB hw]; exact ⟨hf, hM⟩
theorem FG {l : List Ar} {k : Nat} {m : List Cl} (h : ax (aH (l.take k)) = none) : ax (aH (l.take k) ++ eZ (m.take 0)) = none := by
  rw [List.take_zero, show eZ [] = [] from rfl, List.append_nil]; exact h
theorem CO {l : List Ar} {k : Nat} {m : List Cl} {L : List Int} (h : L = (aH (l.take k)).map Vl.n) : L = (aH (l.take k) ++ eZ (m.take 0)).map Vl.n := by
  rw [List.take_zero, show eZ [] = [] from rfl, List.append_nil]; exact h
theorem FH {l : List Ar} {k : Nat} {L : List Int} (h : ax (aH (l.take k)) = none) (hL : L = (aH (l.take k)).map Vl.n) (hk : l.length ≤ k) : ax (aH l) = none ∧ L = (aH l).map Vl.n := by
  rw [List.take_of_length_le hk] at h hL; exact ⟨h, hL⟩
theorem mL (l : List Ar) (k : Nat) : (aH (l.take k)).length ≤ (aH l).length := by
  have e : aH l = aH (l.take k) ++ aH (l.drop k) := by
    unfold aH; rw [← List.flatten_append, ← List.map_append, List.take_append_drop]
  rw [e, List.length_append]
  omega
theorem Hm {l : List Ar} {k n : Nat} {L : List Int} (hn : (aH l).length ≤ n) (hL : L = (aH (l.take k)).map Vl.n) (_h : 0 ≤ 0) : L.length ≤ n := by
  rw [hL, List.length_map]; exact Nat.le_trans (mL l k) hn
theorem FI {l : List Ar} {k j n : Nat} {a : Ar} {M : List Int} (hn : (aH l).length ≤ n) (ha : l[k]? = some a) (hw : a.w = true) (hM : M = (aH (l.take k) ++ eZ (a.l.take j)).map Vl.n) : M.length ≤ n := by
  have h1 := mL l (k + 1); rw [pu ha, lB hw, List.length_append] at h1
  have h2 : (eZ (a.l.take j)).length ≤ (eZ a.l).length := by
    have e : eZ a.l = eZ (a.l.take j) ++ eZ (a.l.drop j) := by
      unfold eZ; rw [← List.filter_append, ← List.map_append, List.take_append_drop]
    rw [e, List.length_append]
    omega
  rw [hM, List.length_map, List.length_append]
  omega
theorem rr {w0 w : World} {H : List Th} {b : Nat} {v : Value} {L : List Int} {x : Int} (h : Own w0 (Th.row b 2 1 v (L.map cj ++ [cj x]).length (L.map cj ++ [cj x]) :: H) w) : Own w0 (Th.row b 2 1 v ((L ++ [x]).map cj).length ((L ++ [x]).map cj) :: H) w := by
  have e : L.map cj ++ [cj x] = (L ++ [x]).map cj := by rw [List.map_append]; rfl
  rw [e] at h; exact h
theorem AI {w : World} {b : Nat} {v : Value} {L : List Int} (h : w.ownsRow b 2 1 v (L.map cj).length (L.map cj)) : w.ownsRow b 2 1 v L.length (L.map (Value.int .i64)) := by
  rw [List.length_map] at h; exact h
theorem tv (A B : Option Addr) (cA cB : Nat) (l : List Cl) (w : World) (hA : RowK 5 clV w A l) (hB : RowK 5 clV w B l) (hl : l.length ≤ 900000) :
    Calls Tryz.prog 81 #[.slice A l.length cA, .slice B l.length cB] w fun e w' => e = .returned (.bool true) ∧ Kept w w' := by
  go_enter Tryz.func81, Tryz.ntmps81; refine z00 26 [(0, .slice A l.length cA), (1, .slice B l.length cB)] ?_; intro _ s; refine zr s 1 (zP Z0) ?_; intro _ _ s; refine sq fun hK1 => ?_; refine zr s 5 (zE (zP (zN (zP (zN (zP Z0))))) (y := .bool false) (congrArg Value.bool (by simp))) ?_; intro _ _ s; refine zx s ?_; refine wp_skip ?_; refine tn hK1 ?_; refine sq fun hK2 => ?_; refine zr s 1 (zP Z0) ?_; intro _ _ s; refine wp_block ?_; refine aP (fun (k : Nat) fr u => (k ≤ l.length) ∧ Sg 26 w [] [(0, .slice A l.length cA), (1, .slice B l.length cB), (4, .bool false), (5, .int .i64 (k : Int))] fr u) (fun k => l.length - k) 0 ⟨(Nat.zero_le _), s.c⟩ (fun k b_ u_ hI => ?_)
  revert b_ u_; intro _ _ hI
  obtain ⟨hk0, s⟩ := hI; refine sq fun hK3 => ?_; refine zr s 4 (zP (zN (zP (zP Z0)))) ?_; intro _ _ s; refine zi_ s ?_ ?_
  ·intro hc1
   refine wp_skip ?_; refine tn hK3 ?_; refine sq fun hK4 => ?_; refine wp_block ?_; have hltk : k < l.length := by omega
   obtain ⟨a, ha⟩ := bI hltk; obtain ⟨bx, ox, Ax, ex⟩ := hA.elem ha; obtain ⟨bz, oz, Az, ez⟩ := hB.elem ha; refine zr s 9 (zO (zO (zO (zP (zP (zO (zO (zP (zP Z0)) fun cc => al 5 Tryz.underlying35 (by kernel_rfl) rfl Ax cc.e cc.e hltk) (v := .agg #[.int .i64 a.c, .int .i64 a.r, .int .u8 a.v.k, .int .i64 a.v.n, .string ⟨a.v.t.toArray⟩]) fun cc => bf (n := 5) 0 rfl (by kernel_rfl) (by kernel_rfl) cc.e rfl (ex.kept cc.ow.kept)))) fun cc => al 5 Tryz.underlying35 (by kernel_rfl) rfl Az cc.e cc.e hltk) (v := .agg #[.int .i64 a.c, .int .i64 a.r, .int .u8 a.v.k, .int .i64 a.v.n, .string ⟨a.v.t.toArray⟩]) fun cc => bf (n := 5) 0 rfl (by kernel_rfl) (by kernel_rfl) cc.e rfl (ez.kept cc.ow.kept)) fun cc => Fx rfl cc.e cc.e) ?_; intro _ _ s; refine zx s ?_; refine wp_skip ?_; refine aB ?_; refine tn hK4 ?_; refine zu s 2 (by exact zAn (zP Z0) k 1) ?_; intro _ _ s; refine zw s ?_; intro _ _ s; refine aN ?_; exact bg ⟨(k + 1), ⟨hltk, s.c⟩, (show l.length - (k + 1) < l.length - k by omega)⟩
  intro hc1; refine wp_exit ?_; refine aM ?_; refine aM ?_; refine aD ?_; refine tn hK2 ?_; refine zr s 1 (zP Z0) ?_; intro _ _ s; refine wp_ret ?_; refine z1 s ?_; exact ⟨rfl, s.o.kept⟩
theorem wX (x : Rc) (A B : Option Addr) (cA cB : Nat) (l : List Cl) (w : World) (hA : RowK 5 clV w A l) (hB : RowK 5 clV w B l) (hl : l.length ≤ 900000) :
    Calls Tryz.prog 43 #[.agg #[.int .i64 x.c1, .int .i64 x.r1, .int .i64 x.c2, .int .i64 x.r2, .slice A l.length cA], .agg #[.int .i64 x.c1, .int .i64 x.r1, .int .i64 x.c2, .int .i64 x.r2, .slice B l.length cB]] w fun e w' => e = .returned (.bool true) ∧ Kept w w' := by
  go_enter Tryz.func43, Tryz.ntmps43; refine z00 17 [(0, .agg #[.int .i64 x.c1, .int .i64 x.r1, .int .i64 x.c2, .int .i64 x.r2, .slice A l.length cA]), (1, .agg #[.int .i64 x.c1, .int .i64 x.r1, .int .i64 x.c2, .int .i64 x.r2, .slice B l.length cB])] ?_; intro _ s; refine zr s 3 (zP (zB (zB Z0 (.cells #[.int .i64 x.c1, .int .i64 x.r1, .int .i64 x.c2, .int .i64 x.r2, .slice A l.length cA] 37 (0, 0))) (.cells #[.int .i64 x.c1, .int .i64 x.r1, .int .i64 x.c2, .int .i64 x.r2, .slice B l.length cB] 37 (0, 0)))) ?_; intro gb1 gb2 _ _ s; refine zr s 13 (zP (zO (zC (zL (zF (zL (zF (zP (zE (zO (zA (zF (zA (zF Z0 0) (aR x) 4 1) 0) (aR x) 4 0) (v := .bool (decide (x = x))) fun cc => Ex (u := x) (v := x) rfl cc.e cc.e) (y := .bool true) (congrArg Value.bool (by simp)))) 4) 1) 4) 0) fun cc => tv A B cA cB l _ (hA.kept cc.ow.kept) (hB.kept cc.ow.kept) hl) fun cc => cD rfl cc.e cc.e)) ?_; intro _ _ s; refine wp_ret ?_; refine z1 s ?_; exact ⟨rfl, s.o.kept⟩
theorem wY (A B : Option Addr) (cA cB : Nat) (l : List Ar) (w : World) (hA : ArgsAt w A l) (hB : ArgsAt w B l) (hl : l.length ≤ 900000) (hla : ∀ a ∈ l, a.l.length ≤ 900000) :
    Calls Tryz.prog 14 #[.slice A l.length cA, .slice B l.length cB] w fun e w' => e = .returned (.bool true) ∧ Kept w w' := by
  go_enter Tryz.func14, Tryz.ntmps14; refine z00 55 [(0, .slice A l.length cA), (1, .slice B l.length cB)] ?_; intro _ s; refine zr s 1 (zP Z0) ?_; intro _ _ s; refine sq fun hK1 => ?_; refine zr s 5 (zE (zP (zN (zP (zN (zP Z0))))) (y := .bool false) (congrArg Value.bool (by simp))) ?_; intro _ _ s; refine zx s ?_; refine wp_skip ?_; refine tn hK1 ?_; refine sq fun hK2 => ?_; refine zr s 1 (zP Z0) ?_; intro _ _ s; refine wp_block ?_; refine aP (fun (k : Nat) fr u => (k ≤ l.length) ∧ Sg 55 w [] [(0, .slice A l.length cA), (1, .slice B l.length cB), (4, .bool false), (5, .int .i64 (k : Int))] fr u) (fun k => l.length - k) 0 ⟨(Nat.zero_le _), s.c⟩ (fun k b_ u_ hI => ?_)
  revert b_ u_; intro _ _ hI
  obtain ⟨hk0, s⟩ := hI; refine sq fun hK3 => ?_; refine zr s 4 (zP (zN (zP (zP Z0)))) ?_; intro _ _ s; refine zi_ s ?_ ?_
  ·intro hc1
   refine wp_skip ?_; refine tn hK3 ?_; refine sq fun hK4 => ?_; refine wp_block ?_; have hltk : k < l.length := by omega
   obtain ⟨a, ha⟩ := bI hltk; obtain ⟨bx, ox, A1, c1, Ax, ex, r1, _⟩ := hA.elem ha; obtain ⟨bz, oz, A2, c2, Az, ez, r2, _⟩ := hB.elem ha; refine zr s 38 (vW (by exact zF (zO (zP (zP (zP (zE (zP (zO (zF (zO (zP (zP (zO (zF (zO (zP (zP Z0)) fun cc => al 9 Tryz.underlying22 (by kernel_rfl) rfl Ax cc.e cc.e hltk) (ox + k * 9)) fun cc => dS 0 rfl (by kernel_rfl) cc.e rfl (ex.kept cc.ow.kept) rfl))) fun cc => al 9 Tryz.underlying22 (by kernel_rfl) rfl Az cc.e cc.e hltk) (oz + k * 9)) fun cc => dS 0 rfl (by kernel_rfl) cc.e rfl (ez.kept cc.ow.kept) rfl)) (y := .bool false) (congrArg Value.bool (by simp)))))) fun cc => al 9 Tryz.underlying22 (by kernel_rfl) rfl Ax cc.e cc.e hltk) (ox + k * 9 + 1)) fun h => vW (by exact zP (zP (zO (zF (zO (zP (zP (zP (zO (zE (zO (zO (zF (zO (zP (zP (zO h (v := ae a.v) fun cc => bf (n := 3) 1 rfl (by kernel_rfl) (by kernel_rfl) cc.e rfl (ex.kept cc.ow.kept)))) fun cc => al 9 Tryz.underlying22 (by kernel_rfl) rfl Az cc.e cc.e hltk) (oz + k * 9 + 1)) (v := ae a.v) fun cc => bf (n := 3) 1 rfl (by kernel_rfl) (by kernel_rfl) cc.e rfl (ez.kept cc.ow.kept)) (v := .bool (!fV a.v a.v)) fun cc => Im rfl cc.e cc.e) (y := .bool false) (congrArg Value.bool (by rw [ib]; rfl))) fun cc => tY rfl cc.e cc.e)))) fun cc => al 9 Tryz.underlying22 (by kernel_rfl) rfl Ax cc.e cc.e hltk) (ox + k * 9 + 4)) (v := .agg #[.int .i64 a.x.c1, .int .i64 a.x.r1, .int .i64 a.x.c2, .int .i64 a.x.r2, .slice A1 a.l.length c1]) fun cc => bf (n := 5) 4 rfl (by kernel_rfl) (by kernel_rfl) cc.e rfl (ex.kept cc.ow.kept)))) fun h => (by exact zO (zP (zC (zO (zF (zO h fun cc => al 9 Tryz.underlying22 (by kernel_rfl) rfl Az cc.e cc.e hltk) (oz + k * 9 + 4)) (v := .agg #[.int .i64 a.x.c1, .int .i64 a.x.r1, .int .i64 a.x.c2, .int .i64 a.x.r2, .slice A2 a.l.length c2]) fun cc => bf (n := 5) 4 rfl (by kernel_rfl) (by kernel_rfl) cc.e rfl (ez.kept cc.ow.kept)) fun cc => wX a.x A1 A2 c1 c2 a.l _ (r1.kept cc.ow.kept) (r2.kept cc.ow.kept) (hla a (List.mem_of_getElem? ha)))) fun cc => tY rfl cc.e cc.e)) ?_
   intro _ _ s; refine zx s ?_; refine wp_skip ?_; refine aB ?_; refine tn hK4 ?_; refine zu s 2 (by exact zAn (zP Z0) k 1) ?_; intro _ _ s; refine zw s ?_; intro _ _ s; refine aN ?_; exact bg ⟨(k + 1), ⟨hltk, s.c⟩, (show l.length - (k + 1) < l.length - k by omega)⟩
  intro hc1; refine wp_exit ?_; refine aM ?_; refine aM ?_; refine aD ?_; refine tn hK2 ?_; refine zr s 1 (zP Z0) ?_; intro _ _ s; refine wp_ret ?_; refine z1 s ?_; exact ⟨rfl, s.o.kept⟩
theorem kZ (a : Ar) (A1 : Option Addr) (c1 : Nat) (w : World) (hr : RowK 5 clV w A1 a.l) (hl : a.l.length ≤ 900000) (hsv : Small a.v) (hs : ∀ c ∈ a.l, Small c.v) :
    Calls Tryz.prog 35 #[aA a (.slice A1 a.l.length c1)] w fun e w' => e = .returned (.bool (Js a)) ∧ Kept w w' := by
  go_enter Tryz.func35, Tryz.ntmps35; refine z00 93 [(0, aA a (.slice A1 a.l.length c1))] ?_; intro _ s; refine zr s 2 (zP (zB Z0 (.cells #[.bool a.w, .int .u8 a.v.k, .int .i64 a.v.n, .string ⟨a.v.t.toArray⟩, .int .i64 a.x.c1, .int .i64 a.x.r1, .int .i64 a.x.c2, .int .i64 a.x.r2, .slice A1 a.l.length c1] 39 (0, 0)))) ?_; intro gb1 _ _ s; refine sq fun hK1 => ?_; refine zr s 3 (zP (zL (zF Z0 0) 0)) ?_; intro _ _ s; refine zb s (jc (Iff.rfl)) ?_ ?_
  ·intro hc1
   have hw : a.w = false := by simpa using hc1
   refine zr s 19 (zP (zO (zPi (zNi (zLi (zFi (zFi (zP (zO (zI (zI (zAi (zFi (zFi (zP (zP (zC (zA (zF Z0 1) (ae a.v) 3 0) fun cc => cZ a.v _ (by first | exact hsv.1 | exact hsc.1) (by first | exact Nat.le_trans hsv.2 (by decide) | exact Nat.le_trans hsc.2 (by decide))))) 4) 4) (aR a.x) 4 0) (v := .agg #[.int .i64 0, .int .i64 0, .int .i64 0, .int .i64 0]) (run := by exact fun cc hz => cG (us := #[]) rfl (by simp) (by kernel_rfl))) (v := .bool (decide (a.x = (⟨0, 0, 0, 0⟩ : Rc)))) (run := by exact fun cc hz => Ex (u := a.x) (v := (⟨0, 0, 0, 0⟩ : Rc)) rfl (cc.f hz) (cc.f hz))) fun cc => gm rfl cc.e (fun hb => cc.f hb) rfl)) 4) 8) 0))) fun cc => gm rfl cc.e (fun hb => cc.f hb) rfl)) ?_; intro _ _ s; refine wp_ret ?_; refine ag ?_; refine z1 s ?_; exact ⟨(congrArg (fun b => Ending.returned (.bool b)) (show _ = Js a by exact qB hw)), s.o.kept⟩
  intro hc1; have hw : a.w = true := by simpa using hc1
  refine wp_skip ?_; refine tn hK1 ?_; refine sq fun hK2 => ?_; refine zr s 11 (zO (zPi (zCI (zAi (zFi (zFi (zP (zO (zO (zA (zF Z0 1) (ae a.v) 3 0) (v := ae (⟨0, 0, []⟩ : Vl)) fun cc => cG (us := #[]) rfl (by simp) (by kernel_rfl)) fun cc => Im rfl cc.e cc.e)) 4) 4) (aR a.x) 4 0) fun cc => mi a.x _)) fun cc => gA rfl cc.e rfl (fun hb => cc.f hb)) ?_; intro _ _ s; refine zb s (bor (jc (Iff.rfl)) (decide_eq_true_iff)) ?_ ?_
  ·intro hc2
   have hbad := hc2; refine zr s 1 (zP Z0) ?_; intro _ _ s; refine wp_ret ?_; refine ag ?_; refine z1 s ?_; exact ⟨(congrArg (fun b => Ending.returned (.bool b)) (show _ = Js a by exact (ux hw hbad).symm)), s.o.kept⟩
  intro hc2; have hok := uy hc2; refine wp_skip ?_; refine tn hK2 ?_; refine zr s 4 (zP (zL (zF (zF Z0 4) 8) 0)) ?_; intro _ _ s; refine sq fun hK3 => ?_; refine zr s 1 (zP Z0) ?_; intro _ _ s; refine wp_block ?_; refine aP (fun (k : Nat) fr u => (k ≤ a.l.length) ∧ (∀ j, j < k → ∀ q, a.l[j]? = some q → dT a.x q) ∧ (∀ j, j + 1 < k → ∀ p q, a.l[j]? = some p → a.l[j + 1]? = some q → dA p q = true) ∧ Sg 93 w [Th.obj gb1 (.cells #[.bool a.w, .int .u8 a.v.k, .int .i64 a.v.n, .string ⟨a.v.t.toArray⟩, .int .i64 a.x.c1, .int .i64 a.x.r1, .int .i64 a.x.c2, .int .i64 a.x.r2, .slice A1 a.l.length c1] 39 (0, 0))] [(1, .pointer (some ⟨gb1, 0, none⟩)), (2, .bool false), (3, .slice A1 a.l.length c1), (4, .int .i64 (k : Int))] fr u) (fun k => a.l.length - k) 0 ⟨(Nat.zero_le _), (fun j hj => absurd hj (Nat.not_lt_zero j)), (fun j hj => absurd hj (Nat.not_lt_zero _)), s.c⟩ (fun k b_ u_ hI => ?_)
  revert b_ u_; intro _ _ hI
  obtain ⟨hk0, hfine, hup, s⟩ := hI; refine sq fun hK4 => ?_; refine zr s 4 (zP (zN (zP (zP Z0)))) ?_; intro _ _ s; refine zi_ s ?_ ?_
  ·intro hc3
   refine wp_skip ?_; refine tn hK4 ?_; refine sq fun hK5 => ?_; refine wp_block ?_; have hltk : k < a.l.length := by omega
   obtain ⟨cl, hcl⟩ := bI hltk; obtain ⟨bcl, ocl, Acl, ecl⟩ := hr.elem hcl; have hsc := hs cl (List.mem_of_getElem? hcl); obtain ⟨pc, hpc⟩ := Fy hr hcl Acl; refine zr s 47 (vW (by exact zI (zFi (zI (zPi (zPi (zP (zP (zC (zO (zF (zO (zP (zP (zA (zF (zF Z0 4) 4) (aR a.x) 4 0))) fun cc => al 5 Tryz.underlying35 (by kernel_rfl) rfl Acl cc.e cc.e hltk) (ocl + k * 5)) (v := .agg #[.int .i64 cl.c, .int .i64 cl.r]) fun cc => bf (n := 2) 0 rfl (by kernel_rfl) (by kernel_rfl) cc.e rfl (ecl.kept cc.ow.kept)) fun cc => qv a.x cl.c cl.r _))))) (v := .pointer (some ⟨bcl, ocl + k * 5, none⟩)) (run := by exact fun cc hz => al 5 Tryz.underlying35 (by kernel_rfl) rfl Acl (cc.f hz) (cc.f hz) hltk)) (ocl + k * 5 + 2)) (v := ae cl.v) (run := by exact fun cc hz => bf (n := 3) 2 rfl (by kernel_rfl) (by kernel_rfl) (cc.f hz) rfl (ecl.kept cc.ow.kept))) fun h => vW (by exact zPi (zPi (zPi (zP (zO (zPi (zI (zFi (zFi (zI (zPi (zPi (zP (zO (zPi (zCI h fun cc => cZ cl.v _ (by first | exact hsv.1 | exact hsc.1) (by first | exact Nat.le_trans hsv.2 (by decide) | exact Nat.le_trans hsc.2 (by decide)))) fun cc => gA rfl cc.e rfl (fun hb => cc.f hb))))) (v := .pointer (some ⟨bcl, ocl + k * 5, none⟩)) (run := by exact fun cc hz => al 5 Tryz.underlying35 (by kernel_rfl) rfl Acl (cc.f hz) (cc.f hz) hltk)) (ocl + k * 5 + 2)) (ocl + k * 5 + 2)) (v := .int .u8 cl.v.k) (run := by exact fun cc hz => dS 2 rfl (by kernel_rfl) (cc.f hz) rfl (ecl.kept cc.ow.kept) rfl))) fun cc => gA rfl cc.e rfl (fun hb => cc.f hb)))))) fun h => (by exact zO (zI (zPi (zCI (zI (zFi (zI (zPi (zPi (zI (zFi (zI (zI (zPi (zPi h)) (v := .int .i64 ((k - 1 : Nat) : Int)) (run := by exact fun cc hz => GR rfl (cc.f hz) (by have := (of_decide_eq_true hz.2); omega) (by omega))) (v := .pointer (some ⟨bcl, ocl + (k - 1) * 5, none⟩)) (run := by exact fun cc hz => al 5 Tryz.underlying35 (by kernel_rfl) rfl Acl (cc.f hz) (cc.f hz) (by have := (of_decide_eq_true hz.2); omega))) (ocl + (k - 1) * 5)) (v := .agg #[.int .i64 pc.c, .int .i64 pc.r]) (run := by exact fun cc hz => bf (n := 2) 0 rfl (by kernel_rfl) (by kernel_rfl) (cc.f hz) rfl ((hpc (of_decide_eq_true hz.2)).1.kept cc.ow.kept))))) (v := .pointer (some ⟨bcl, ocl + k * 5, none⟩)) (run := by exact fun cc hz => al 5 Tryz.underlying35 (by kernel_rfl) rfl Acl (cc.f hz) (cc.f hz) hltk)) (ocl + k * 5)) (v := .agg #[.int .i64 cl.c, .int .i64 cl.r]) (run := by exact fun cc hz => bf (n := 2) 0 rfl (by kernel_rfl) (by kernel_rfl) (cc.f hz) rfl (ecl.kept cc.ow.kept))) fun cc => qw pc cl _)) (v := .bool ((decide ((0 : Int) < (k : Int))) && (!(dA pc cl)))) (run := by exact fun cc hz => gm rfl (cc.f hz) (fun hb => cc.f (And.intro hz hb)) rfl)) fun cc => gA rfl cc.e rfl (fun hb => cc.f hb))) ?_
   intro _ _ s; refine zb s (bor (bor (bor (jc (Iff.rfl)) (decide_eq_true_iff)) (decide_eq_true_iff)) (pE (decide_eq_true_iff) (jc (Iff.rfl)))) ?_ ?_
   ·intro hc4
    have hcb := hc4; refine zr s 1 (zP Z0) ?_; intro _ _ s; refine wp_ret ?_; refine ao (ag (ag (ao (ag ?_)))); refine z1 s ?_; exact ⟨(congrArg (fun b => Ending.returned (.bool b)) (show _ = Js a by exact (ii hw hok (Hj hcl hpc hcb)).symm)), s.o.kept⟩
   intro hc4; have hcg := hc4; refine wp_skip ?_; refine aB ?_; refine tn hK5 ?_; refine zu s 2 (by exact zAn (zP Z0) k 1) ?_; intro _ _ s; refine zw s ?_; intro _ _ s; refine aN ?_; exact bg ⟨(k + 1), ⟨hltk, (Fz hfine hcl hcg), (IK hup hcl hpc hcg), s.c⟩, (show a.l.length - (k + 1) < a.l.length - k by omega)⟩
  intro hc3; refine wp_exit ?_; refine aM ?_; refine aM ?_; refine aD ?_; refine tn hK3 ?_; refine zr s 1 (zP Z0) ?_; intro _ _ s; refine wp_ret ?_; refine z1 s ?_; exact ⟨(congrArg (fun b => Ending.returned (.bool b)) (show _ = Js a by exact (ii hw hok (FA hfine hup (by omega))).symm)), s.o.kept⟩
theorem gV (A : Option Addr) (cap : Nat) (l : List Ar) (w : World) (hr : ArgsAt w A l) (hs : ∀ a ∈ l, aY a) (hl : l.length ≤ 1000) (hla : ∀ a ∈ l, a.l.length ≤ 900000) (hn : (aH l).length ≤ 1000000) :
    Calls Tryz.prog 22 #[.slice A l.length cap] w fun e w' => CF w l e w' := by
  go_enter Tryz.func22, Tryz.ntmps22; refine z00 86 [(0, .slice A l.length cap)] ?_; intro _ s; refine zr s 3 (zP (zV (zP Z0) oZ)) ?_; intro gb1 _ _ s; refine sq fun hK1 => ?_; refine zr s 1 (zP Z0) ?_; intro _ _ s; refine wp_block ?_; refine aP (fun (k : Nat) fr u => (k ≤ l.length) ∧ (∀ j, j < k → ∀ q, l[j]? = some q → Js q = true) ∧ Sg 86 w [Th.obj gb1 oZ] [(0, .slice A l.length cap), (2, .slice none 0 0), (3, .pointer (some ⟨gb1, 0, none⟩)), (4, .bool false), (5, .int .i64 (k : Int))] fr u) (fun k => l.length - k) 0 ⟨(Nat.zero_le _), (fun j hj => absurd hj (Nat.not_lt_zero j)), s.c⟩ (fun k b_ u_ hI => ?_)
  revert b_ u_; intro _ _ hI
  obtain ⟨hk0, hall0, s⟩ := hI; refine sq fun hK2 => ?_; refine zr s 4 (zP (zN (zP (zP Z0)))) ?_; intro _ _ s; refine zi_ s ?_ ?_
  ·intro hc1
   refine wp_skip ?_; refine tn hK2 ?_; refine sq fun hK3 => ?_; refine wp_block ?_; have hltk : k < l.length := by omega
   obtain ⟨a, ha⟩ := bI hltk; obtain ⟨ba, oa, A1, c1, Aa, ea, r1, l1⟩ := hr.elem ha; have hva := (hs a (List.mem_of_getElem? ha)).1; have hca := (hs a (List.mem_of_getElem? ha)).2; have hal := hla a (List.mem_of_getElem? ha); refine zr s 6 (zP (zC (zO (zO (zP (zP Z0)) fun cc => al 9 Tryz.underlying22 (by kernel_rfl) rfl Aa cc.e cc.e hltk) (v := aA a (.slice A1 a.l.length c1)) fun cc => bf (n := 9) 0 rfl (by kernel_rfl) (by kernel_rfl) cc.e rfl (ea.kept cc.ow.kept)) fun cc => kZ a _ _ _ (r1.kept cc.ow.kept) hal hva hca)) ?_; intro _ _ s; refine zb s (jc (Iff.rfl)) ?_ ?_
   ·intro hc2
    have hbad : Js a = false := by simpa using hc2
    refine zt_ s 2 (zP (zC Z0 fun cc => cC 2 _)) ?_; intro _ _ s K4 hK4; refine zS s 0 ?_; intro _ s; refine zw s ?_; intro _ _ s; refine wt hK4 ?_; refine wp_ret ?_; refine ao (ag (ag (ao (ag ?_)))); refine ac (v := .tuple #[.slice none 0 0, ae (aG 2), .bool false]) rfl (.cons (rT s) (.cons (rC s 3 0) (.cons (rT s) .nil))) rfl s.q ?_; exact ⟨_, _, _, rfl, s.o.kept, Or.inl ⟨rfl, rfl, wP ha hbad⟩⟩
   intro hc2; have hgood : Js a = true := by simpa using hc2
   refine wp_skip ?_; refine aB ?_; refine tn hK3 ?_; refine zu s 2 (by exact zAn (zP Z0) k 1) ?_; intro _ _ s; refine zw s ?_; intro _ _ s; refine aN ?_; exact bg ⟨(k + 1), ⟨hltk, (sI hall0 ha hgood), s.c⟩, (show l.length - (k + 1) < l.length - k by omega)⟩
  intro hc1; refine wp_exit ?_; refine aM ?_; refine aM ?_; refine aD ?_; refine tn hK1 ?_; have hall : l.all Js = true := G3 hall0 (by omega); refine zr s 1 (zP Z0) ?_; intro _ _ s; refine sq fun hK5 => ?_; refine zr s 1 (zP Z0) ?_; intro _ _ s; refine wp_block ?_; refine aP (fun (k : Nat) fr u => ∃ (va : Value), ∃ (L : List Int), (k ≤ l.length) ∧ (ax (aH (l.take k)) = none) ∧ (L = (aH (l.take k)).map Vl.n) ∧ Sg 86 w [Th.row w.heap.size 2 1 va ((L.map cj).length) (L.map cj), Th.obj gb1 oZ] [(0, .slice A l.length cap), (2, .slice none 0 0), (3, .pointer (some ⟨gb1, 0, none⟩)), (4, .bool false), (6, va), (7, .int .i64 (k : Int))] fr u) (fun k => l.length - k) 0 ⟨(.slice none 0 0), [], (Nat.zero_le _), rfl, rfl, (s.ow (s.o.nil 2 1)).c⟩ (fun k b_ u_ hI => ?_)
  revert b_ u_; intro _ _ hI
  obtain ⟨va, L, hk0, hfe, hL, s⟩ := hI; refine sq fun hK6 => ?_; refine zr s 4 (zP (zN (zP (zP Z0)))) ?_; intro _ _ s; refine zi_ s ?_ ?_
  ·intro hc3
   refine wp_skip ?_; refine tn hK6 ?_; refine sq fun hK7 => ?_; refine wp_block ?_; refine sq fun hK8 => ?_; have hltk : k < l.length := by omega
   obtain ⟨a, ha⟩ := bI hltk; obtain ⟨ba, oa, A1, c1, Aa, ea, r1, l1⟩ := hr.elem ha; have hva := (hs a (List.mem_of_getElem? ha)).1; have hca := (hs a (List.mem_of_getElem? ha)).2; have hal := hla a (List.mem_of_getElem? ha); refine zr s 6 (zP (zO (zF (zO (zP (zP Z0)) fun cc => al 9 Tryz.underlying22 (by kernel_rfl) rfl Aa cc.e cc.e hltk) (oa + k * 9)) fun cc => dS 0 rfl (by kernel_rfl) cc.e rfl (ea.kept cc.ow.kept) rfl)) ?_; intro _ _ s; refine zb s (jc (Iff.rfl)) ?_ ?_
   ·intro hc4
    have hw : a.w = false := by simpa using hc4
    refine zt_ s 7 (zV (zC (zO (zF (zO (zP (zP Z0)) fun cc => al 9 Tryz.underlying22 (by kernel_rfl) rfl Aa cc.e cc.e hltk) (oa + k * 9 + 1)) (v := ae a.v) fun cc => bf (n := 3) 1 rfl (by kernel_rfl) (by kernel_rfl) cc.e rfl (ea.kept cc.ow.kept)) fun cc => nG a.v _ hva.1 (Nat.le_trans hva.2 (by decide))) oZ) ?_; intro gb2 _ _ s K9 hK9; refine zS s 0 ?_; intro _ s; refine wt hK9 ?_; refine sq fun hK10 => ?_; refine zr s 3 (zP (zL (zF Z0 0) 0)) ?_; intro _ _ s; refine zi_ s ?_ ?_
    ·intro hc5
     have herr := sC hc5; refine zt_ s 2 (zP (zA Z0 (ae (aL a.v)) 3 0)) ?_; intro _ _ s K11 hK11; refine zS s 2 ?_; intro _ s; refine zw s ?_; intro _ _ s; refine wt hK11 ?_; refine wp_ret ?_; refine ag (ag (ao (ag (ag (ao (ag ?_)))))); refine ac (v := .tuple #[.slice none 0 0, ae (aL a.v), .bool false]) rfl (.cons (rT s) (.cons (rC s 3 2) (.cons (rT s) .nil))) rfl s.q ?_; exact ⟨_, _, _, rfl, s.o.kept, Or.inl ⟨rfl, rfl, nW hall (FB hw ha hfe herr)⟩⟩
    intro hc5; have hne := yz hc5; refine wp_skip ?_; refine tn hK10 ?_; refine zt_ s 4 (zNl (zL (zF (zP Z0) 1) 0) (b := .cells #[.int .i64 ((aL a.v).n)] 2 (0, 0)) (m := 1) fun cc => qs rfl cc.e (by kernel_rfl)) ?_; intro gb3 _ _ s K12 hK12; refine kh (by_ := 8) (aC rfl) (l := L.map cj) (u := (cj ((aL a.v).n))) rfl Tryz.underlying54 (oC _ _ _ (by kernel_rfl) rfl) (s.g 46) (s.g 49) (s.o.row 2 rfl) (s.o.get 0 rfl) rfl (by have := Hm hn hL (by omega); simp only [List.length_map]; omega) (by decide) s.o.kept.size (fun vr1 fw1 ho hg hb => ?_); have ow := s.o.turn 2 rfl (t' := Th.row w.heap.size 2 1 vr1 ((L.map cj ++ [(cj ((aL a.v).n))]).length) (L.map cj ++ [(cj ((aL a.v).n))])) ho hg (dP hb); clear ho hg hb; refine zg (s.ow ow) ?_; intro _ _ s; refine zw s ?_; intro _ _ s; refine wt hK12 ?_; refine wp_exit ?_; refine aM ?_; refine aD ?_; refine tn hK7 ?_; refine zu s 2 (by exact zAn (zP Z0) k 1) ?_; intro _ _ s; refine zw s ?_; intro _ _ s; refine aN ?_; have hst := Hk hw ha hfe hL hne; have hst1 := hst.1; have hst2 := hst.2; exact bg ⟨(k + 1), ⟨vr1, (L ++ [(aL a.v).n]), hltk, hst1, hst2, (s.ow (rr (s.o.sub (List.Sublist.cons _ (List.Sublist.cons _ (List.Sublist.cons_cons _ (List.Sublist.cons_cons _ (List.nil_sublist _)))))))).c⟩, (show l.length - (k + 1) < l.length - k by omega)⟩
   intro hc4; have hw : a.w = true := by simpa using hc4
   refine wp_skip ?_; refine tn hK8 ?_; refine zr s 1 (zP Z0) ?_; intro _ _ s; refine wp_block ?_; refine aP (fun (j : Nat) fr u => ∃ (vb : Value), ∃ (M : List Int), (j ≤ a.l.length) ∧ (ax (aH (l.take k) ++ eZ (a.l.take j)) = none) ∧ (M = (aH (l.take k) ++ eZ (a.l.take j)).map Vl.n) ∧ Sg 86 w [Th.row w.heap.size 2 1 vb ((M.map cj).length) (M.map cj), Th.obj gb1 oZ] [(0, .slice A l.length cap), (2, .slice none 0 0), (3, .pointer (some ⟨gb1, 0, none⟩)), (4, .bool false), (6, vb), (7, .int .i64 (k : Int)), (9, .int .i64 (j : Int))] fr u) (fun j => a.l.length - j) 0 ⟨va, L, (Nat.zero_le _), (FG hfe), (CO hL), (s.ow (s.o.sub (List.Sublist.cons_cons _ (List.Sublist.cons_cons _ (List.nil_sublist _))))).c⟩ (fun j b_ u_ hI => ?_)
   revert b_ u_; intro _ _ hI
   obtain ⟨vb, M, hj0, hf2, hM, s⟩ := hI; refine sq fun hK13 => ?_; refine zr s 9 (zP (zN (zO (zF (zF (zO (zP (zP (zP Z0))) fun cc => al 9 Tryz.underlying22 (by kernel_rfl) rfl Aa cc.e cc.e hltk) (oa + k * 9 + 4)) (oa + k * 9 + 4 + 4)) fun cc => dS 8 rfl (by kernel_rfl) cc.e rfl (ea.kept cc.ow.kept) rfl))) ?_; intro _ _ s; refine zi_ s ?_ ?_
   ·intro hc6
    refine wp_skip ?_; refine tn hK13 ?_; refine sq fun hK14 => ?_; refine wp_block ?_; have hltj : j < a.l.length := by omega
    obtain ⟨cl, hcl⟩ := bI hltj; obtain ⟨bcl, ocl, Acl, ecl⟩ := r1.elem hcl; refine zt_ s 11 (zV (zO (zF (zO (zP (zO (zF (zF (zO (zP (zP Z0)) fun cc => al 9 Tryz.underlying22 (by kernel_rfl) rfl Aa cc.e cc.e hltk) (oa + k * 9 + 4)) (oa + k * 9 + 4 + 4)) fun cc => dS 8 rfl (by kernel_rfl) cc.e rfl (ea.kept cc.ow.kept) rfl)) fun cc => al 5 Tryz.underlying35 (by kernel_rfl) rfl Acl cc.e cc.e hltj) (ocl + j * 5 + 2)) (v := ae cl.v) fun cc => bf (n := 3) 2 rfl (by kernel_rfl) (by kernel_rfl) cc.e rfl (ecl.kept cc.ow.kept)) oZ) ?_; intro gb4 _ _ s K15 hK15; refine zS s 0 ?_; intro _ s; refine wt hK15 ?_; refine sq fun hK16 => ?_; refine zr s 3 (zP (zL (zF Z0 0) 0)) ?_; intro _ _ s; refine zi_ s ?_ ?_
    ·intro hc7
     have herr := sC hc7; refine zt_ s 2 (zP (zA Z0 (ae cl.v) 3 0)) ?_; intro _ _ s K17 hK17; refine zS s 2 ?_; intro _ s; refine zw s ?_; intro _ _ s; refine wt hK17 ?_; refine wp_ret ?_; refine ag (ao (ag (ag (ao (ao (ag (ag (ao (ag ?_))))))))); refine ac (v := .tuple #[.slice none 0 0, ae cl.v, .bool false]) rfl (.cons (rT s) (.cons (rC s 3 2) (.cons (rT s) .nil))) rfl s.q ?_; exact ⟨_, _, _, rfl, s.o.kept, Or.inl ⟨rfl, rfl, nW hall (FC hw ha hcl hf2 herr)⟩⟩
    intro hc7; have hne := yz hc7; refine wp_skip ?_; refine tn hK16 ?_; refine zr s 3 (zP (zL (zF Z0 0) 0)) ?_; intro _ _ s; refine zi_ s ?_ ?_
    ·intro hc8
     have hk1 := hc8; refine zu s 4 (by exact zNl (zL (zF (zP Z0) 1) 0) (b := .cells #[.int .i64 cl.v.n] 2 (0, 0)) (m := 1) fun cc => qs rfl cc.e (by kernel_rfl)) ?_; intro gb5 _ _ s; refine kh (by_ := 8) (aC rfl) (l := M.map cj) (u := (cj cl.v.n)) rfl Tryz.underlying54 (oC _ _ _ (by kernel_rfl) rfl) (s.g 79) (s.g 82) (s.o.row 2 rfl) (s.o.get 0 rfl) rfl (by have := FI hn ha hw hM; simp only [List.length_map]; omega) (by decide) s.o.kept.size (fun vr2 fw2 ho hg hb => ?_); have ow := s.o.turn 2 rfl (t' := Th.row w.heap.size 2 1 vr2 ((M.map cj ++ [(cj cl.v.n)]).length) (M.map cj ++ [(cj cl.v.n)])) ho hg (dP hb); clear ho hg hb; refine zg (s.ow ow) ?_; intro _ _ s; refine zw s ?_; intro _ _ s; refine aN ?_; refine aB ?_; refine tn hK14 ?_; refine zu s 2 (by exact zAn (zP Z0) j 1) ?_; intro _ _ s; refine zw s ?_; intro _ _ s; refine aN ?_; have hst := FD hcl hf2 hM hk1; exact bg ⟨(j + 1), ⟨vr2, (M ++ [cl.v.n]), hltj, hst.1, hst.2, (s.ow (rr (s.o.sub (List.Sublist.cons _ (List.Sublist.cons _ (List.Sublist.cons_cons _ (List.Sublist.cons_cons _ (List.nil_sublist _)))))))).c⟩, (show a.l.length - (j + 1) < a.l.length - j by omega)⟩
    intro hc8; have hk1 := hc8; refine wp_skip ?_; refine aB ?_; refine tn hK14 ?_; refine zu s 2 (by exact zAn (zP Z0) j 1) ?_; intro _ _ s; refine zw s ?_; intro _ _ s; refine aN ?_; have hst := Hl hcl hf2 hM hne hk1; exact bg ⟨(j + 1), ⟨vb, M, hltj, hst.1, hst.2, (s.ow (s.o.sub (List.Sublist.cons _ (List.Sublist.cons_cons _ (List.Sublist.cons_cons _ (List.nil_sublist _)))))).c⟩, (show a.l.length - (j + 1) < a.l.length - j by omega)⟩
   intro hc6; refine wp_exit ?_; refine aM ?_; refine aM ?_; refine aD ?_; refine aB ?_; refine tn hK7 ?_; refine zu s 2 (by exact zAn (zP Z0) k 1) ?_; intro _ _ s; refine zw s ?_; intro _ _ s; refine aN ?_; have hst := FF hw ha hf2 hM (by omega); have hst1 := hst.1; have hst2 := hst.2; exact bg ⟨(k + 1), ⟨vb, M, hltk, hst1, hst2, (s.ow (s.o.sub (List.Sublist.cons_cons _ (List.Sublist.cons_cons _ (List.nil_sublist _))))).c⟩, (show l.length - (k + 1) < l.length - k by omega)⟩
  intro hc3; refine wp_exit ?_; refine aM ?_; refine aM ?_; refine aD ?_; refine tn hK5 ?_; refine zt_ s 3 (zP (zO (zP Z0) (v := ae (⟨0, 0, []⟩ : Vl)) fun cc => cG (us := #[]) rfl (by simp) (by kernel_rfl))) ?_; intro _ _ s K18 hK18; refine zS s 1 ?_; intro _ s; refine zw s ?_; intro _ _ s; refine wt hK18 ?_; refine wp_ret ?_; refine ac (v := .tuple #[va, ae (⟨0, 0, []⟩ : Vl), .bool true]) rfl (.cons (rT s) (.cons (rC s 3 1) (.cons (rT s) .nil))) rfl s.q ?_; have hfin := FH hfe hL (by omega); exact ⟨_, _, _, rfl, s.o.kept, Or.inr ⟨rfl, L, Ah hall hfin.1 hfin.2, AI (s.o.row 0 rfl)⟩⟩
