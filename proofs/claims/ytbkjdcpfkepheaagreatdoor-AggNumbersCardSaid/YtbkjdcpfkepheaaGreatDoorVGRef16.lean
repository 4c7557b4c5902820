/- Layer 16: the reference's valid, Numbers; what the kit compares (printed by wip/mkref16.py). -/
import Derived.Test.YtbkjdcpfkepheaaGreatDoorVGGood16
import Derived.Test.YtbkjdcpfkepheaaGreatDoorVMixBE
set_option maxHeartbeats 4000000
namespace Go.Proofs.YtbkjdcpfkepheaaGreatDoor
section
set_option linter.unusedVariables false
set_option linter.unusedSimpArgs false
open Go.RowKit Lv
set_option maxRecDepth 100000
def CX (n : Int) : List Value := [.int .i64 n]
theorem Bt {a : Act} {w : World} {o : Oper} {T2 : TypeId} {x y : Operand} (ho : o.op = .binOp .neq 46 x y T2) {c : Cl} (hx : a.eval x = .agg #[.int .i64 c.c, .int .i64 c.r, .int .u8 c.v.k, .int .i64 c.v.n, .string ⟨c.v.t.toArray⟩]) (hy : a.eval y = .agg #[.int .i64 c.c, .int .i64 c.r, .int .u8 c.v.k, .int .i64 c.v.n, .string ⟨c.v.t.toArray⟩]) : (execOp a.eval o).run Tryz.prog w = .ok (.value (.bool false)) w := by
  unfold execOp; rw [ho]
  simp only [hx, hy]
  go_simp
theorem Bu {w : World} {A : Option Addr} {l : List Cl} {k b off : Nat} {c : Cl} (hr : RowK 5 clV w A l) (h : l[k]? = some c) (hA : A = some ⟨b, off, none⟩) : ∃ pc : Cl, (0 : Int) < (k : Int) → ElemK w b (off + (k - 1) * 5) (clV pc) ∧ l[k - 1]? = some pc := by
  have hk := (List.getElem?_eq_some_iff.1 h).1; obtain ⟨pc, hp⟩ := bQ (l := l) (i := k - 1) (by omega); obtain ⟨b2, o2, e, he⟩ := hr.elem hp; rw [hA] at e
  cases e
  exact ⟨pc, fun _ => ⟨he, hp⟩⟩
abbrev wZ (x : Rc) (k : Nat) (cl pc : Cl) : Prop := (((¬ (gU x cl.c cl.r = true)) ∨ ((cx cl.v : Int) ≠ (0 : Int))) ∨ ((cl.v.k : Int) = (0 : Int))) ∨ (((0 : Int) < (k : Int)) ∧ (¬ (cO pc cl = true)))
theorem xc {x : Rc} {k : Nat} {cl pc : Cl} (h : ¬ wZ x k cl pc) : eL x cl ∧ ((0 : Int) < (k : Int) → cO pc cl = true) := by
  simp only [wZ, not_or, Classical.not_not, not_and] at h
  obtain ⟨⟨⟨h1, h2⟩, h3⟩, h4⟩ := h; exact ⟨⟨h1, by omega, rA (fun c => c h2)⟩, h4⟩
theorem Bv {x : Rc} {l : List Cl} {k : Nat} {cl pc : Cl} (hf : ∀ j, j < k → ∀ q, l[j]? = some q → eL x q) (h : l[k]? = some cl) (hg : ¬ wZ x k cl pc) : ∀ j, j < k + 1 → ∀ q, l[j]? = some q → eL x q := fun j hj q hq => by
  rcases Nat.lt_or_ge j k with c | c
  · exact hf j c q hq
  · have e : j = k := by omega
    subst e; rw [h] at hq
    cases hq
    exact (xc hg).1
theorem DB {x : Rc} {l : List Cl} {k : Nat} {cl pc : Cl} {P : Prop} (hu : ∀ j, j + 1 < k → ∀ p q, l[j]? = some p → l[j + 1]? = some q → cO p q = true) (h : l[k]? = some cl) (hp : (0 : Int) < (k : Int) → P ∧ l[k - 1]? = some pc) (hg : ¬ wZ x k cl pc) : ∀ j, j + 1 < k + 1 → ∀ p q, l[j]? = some p → l[j + 1]? = some q → cO p q = true := fun j hj p q h1 h2 => by
  rcases Nat.lt_or_ge (j + 1) k with c | c
  · exact hu j c p q h1 h2
  · have e : k = j + 1 := by omega
    subst e; rw [h] at h2
    cases h2
    have h3 := (hp (by omega)).2; rw [Nat.add_sub_cancel, h1] at h3
    cases h3
    exact (xc hg).2 (by omega)
theorem Bw {x : Rc} {l : List Cl} {k : Nat} (hf : ∀ j, j < k → ∀ q, l[j]? = some q → eL x q) (hu : ∀ j, j + 1 < k → ∀ p q, l[j]? = some p → l[j + 1]? = some q → cO p q = true) (h : l.length ≤ k) : cQ x (-1) l = true := dx.2 ⟨fun c hc => by
  obtain ⟨i, hi, e⟩ := List.getElem_of_mem hc; exact hf i (by omega) c (by rw [List.getElem?_eq_getElem hi, e]), ou l (fun i hi p q hp hq => hu i (by omega) p q hp hq)⟩
theorem CY {x : Rc} {l : List Cl} {k : Nat} {cl pc : Cl} {P : Prop} (h : l[k]? = some cl) (hp : (0 : Int) < (k : Int) → P ∧ l[k - 1]? = some pc) (hb : wZ x k cl pc) : cQ x (-1) l = false := by
  rw [Bool.eq_false_iff]; intro c; obtain ⟨f, r⟩ := dx.1 c; obtain ⟨f1, f2, f3⟩ := f cl (List.mem_of_getElem? h); rcases hb with ((b | b) | b) | ⟨b, d⟩
  · exact b f1
  · exact absurd f3 (by rw [rz b]; simp)
  · exact f2 (by omega)
  · have h2 := (hp b).2
    obtain ⟨hk, ek⟩ := List.getElem?_eq_some_iff.1 h; obtain ⟨hj, ej⟩ := List.getElem?_eq_some_iff.1 h2; have := List.pairwise_iff_getElem.1 r (k - 1) k hj hk (by omega); rw [ek, ej] at this; exact d this
theorem nt {l : List Ar} {k : Nat} {a : Ar} (h : l[k]? = some a) : aF (l.take (k + 1)) = aF (l.take k) ++ rq a := by
  unfold aF; rw [eT h, List.map_append, List.flatten_append]
  simp
theorem px {l : List Ar} {k : Nat} {a : Ar} (h : l[k]? = some a) : aF l = aF (l.take k) ++ (rq a ++ aF (l.drop (k + 1))) := by
  have e : l = l.take k ++ a :: l.drop (k + 1) := by rw [← dJ h, List.take_append_drop]
  unfold aF; rw [congrArg (List.map rq) e, List.map_append, List.map_cons, List.flatten_append, List.flatten_cons]
theorem Bz {l : List Ar} {k : Nat} {a : Ar} (hw : a.w = false) (ha : l[k]? = some a) (hf : aN (aF (l.take k)) = none) (he : isE (bB a.v) = true) : aN (aF l) = some (bB a.v) := by
  rw [px ha, qm hw]; exact An hf he
theorem CZ {l : List Ar} {k : Nat} {a : Ar} {L : List Int} (hw : a.w = false) (ha : l[k]? = some a) (hf : aN (aF (l.take k)) = none) (hL : L = (aF (l.take k)).map Vl.n) (he : isE (bB a.v) = false) : aN (aF (l.take (k + 1))) = none ∧ L ++ [(bB a.v).n] = (aF (l.take (k + 1))).map Vl.n := by
  rw [nt ha, qm hw, List.map_append, hL]; exact ⟨kP hf he, rfl⟩
theorem ly {l : List Cl} {j : Nat} {c : Cl} (h : l[j]? = some c) : eE (l.take (j + 1)) = eE (l.take j) ++ (if c.v.k = 1 ∨ c.v.k = 4 then [c.v] else []) := by
  unfold eE; rw [eT h, List.map_append, List.filter_append]
  by_cases hc : c.v.k = 1 ∨ c.v.k = 4
  · rw [if_pos hc]
    simp [hc]
  · rw [if_neg hc]
    simp [hc]
theorem tD {l : List Cl} {j : Nat} {c : Cl} (h : l[j]? = some c) (hc : c.v.k = 1 ∨ c.v.k = 4) : eE l = eE (l.take j) ++ c.v :: eE (l.drop (j + 1)) := by
  have e : l = l.take (j + 1) ++ l.drop (j + 1) := (List.take_append_drop _ _).symm
  have e2 : eE l = eE (l.take (j + 1)) ++ eE (l.drop (j + 1)) := by
    unfold eE; rw [← List.filter_append, ← List.map_append, ← e]
  rw [e2, ly h, if_pos hc, List.append_assoc]
  rfl
theorem BC {l : List Ar} {k j : Nat} {a : Ar} {c : Cl} (hw : a.w = true) (ha : l[k]? = some a) (hc : a.l[j]? = some c) (hf : aN (aF (l.take k) ++ eE (a.l.take j)) = none) (he : isE c.v = true) : aN (aF l) = some c.v := by
  have hk : c.v.k = 4 := by unfold isE at he; simpa using he
  rw [px ha, ke hw, tD hc (Or.inr hk), List.append_assoc, List.cons_append, ← List.append_assoc]; exact An hf he
theorem BD {l : List Ar} {k j : Nat} {a : Ar} {c : Cl} {M : List Int} (hc : a.l[j]? = some c) (hf : aN (aF (l.take k) ++ eE (a.l.take j)) = none) (hM : M = (aF (l.take k) ++ eE (a.l.take j)).map Vl.n) (hk : (c.v.k : Int) = (1 : Int)) : aN (aF (l.take k) ++ eE (a.l.take (j + 1))) = none ∧ M ++ [c.v.n] = (aF (l.take k) ++ eE (a.l.take (j + 1))).map Vl.n := by
  have h1 : c.v.k = 1 := by omega
  rw [ly hc, if_pos (Or.inl h1), ← List.append_assoc, List.map_append (l₁ := aF (l.take k) ++ eE (a.l.take j)), hM]; exact ⟨kP hf (by unfold isE; simp [h1]), rfl⟩
theorem C0 {l : List Ar} {k j : Nat} {a : Ar} {c : Cl} {M : List Int} (hc : a.l[j]? = some c) (hf : aN (aF (l.take k) ++ eE (a.l.take j)) = none) (hM : M = (aF (l.take k) ++ eE (a.l.take j)).map Vl.n) (he : isE c.v = false) (hk : ¬ (c.v.k : Int) = (1 : Int)) : aN (aF (l.take k) ++ eE (a.l.take (j + 1))) = none ∧ M = (aF (l.take k) ++ eE (a.l.take (j + 1))).map Vl.n := by
  have h4 : ¬ c.v.k = 4 := by unfold isE at he; simpa using he
  rw [ly hc, if_neg (by omega), List.append_nil]; exact ⟨hf, hM⟩
theorem BE {l : List Ar} {k j : Nat} {a : Ar} {M : List Int} (hw : a.w = true) (ha : l[k]? = some a) (hf : aN (aF (l.take k) ++ eE (a.l.take j)) = none) (hM : M = (aF (l.take k) ++ eE (a.l.take j)).map Vl.n) (hj : a.l.length ≤ j) : aN (aF (l.take (k + 1))) = none ∧ M = (aF (l.take (k + 1))).map Vl.n := by
  rw [List.take_of_length_le hj] at hf hM; rw [nt ha, ke hw]; exact ⟨hf, hM⟩
theorem BF {l : List Ar} {k : Nat} {m : List Cl} (h : aN (aF (l.take k)) = none) : aN (aF (l.take k) ++ eE (m.take 0)) = none := by
  rw [List.take_zero, show eE [] = [] from rfl, List.append_nil]; exact h
theorem yY {l : List Ar} {k : Nat} {m : List Cl} {L : List Int} (h : L = (aF (l.take k)).map Vl.n) : L = (aF (l.take k) ++ eE (m.take 0)).map Vl.n := by
  rw [List.take_zero, show eE [] = [] from rfl, List.append_nil]; exact h
theorem BG {l : List Ar} {k : Nat} {L : List Int} (h : aN (aF (l.take k)) = none) (hL : L = (aF (l.take k)).map Vl.n) (hk : l.length ≤ k) : aN (aF l) = none ∧ L = (aF l).map Vl.n := by
  rw [List.take_of_length_le hk] at h hL; exact ⟨h, hL⟩
theorem lz (l : List Ar) (k : Nat) : (aF (l.take k)).length ≤ (aF l).length := by
  have e : aF l = aF (l.take k) ++ aF (l.drop k) := by
    unfold aF; rw [← List.flatten_append, ← List.map_append, List.take_append_drop]
  rw [e, List.length_append]
  omega
theorem C3 {l : List Ar} {k n : Nat} {L : List Int} (hn : (aF l).length ≤ n) (hL : L = (aF (l.take k)).map Vl.n) (_h : 0 ≤ 0) : L.length ≤ n := by
  rw [hL, List.length_map]; exact Nat.le_trans (lz l k) hn
theorem BH {l : List Ar} {k j n : Nat} {a : Ar} {M : List Int} (hn : (aF l).length ≤ n) (ha : l[k]? = some a) (hw : a.w = true) (hM : M = (aF (l.take k) ++ eE (a.l.take j)).map Vl.n) : M.length ≤ n := by
  have h1 := lz l (k + 1); rw [nt ha, ke hw, List.length_append] at h1
  have h2 : (eE (a.l.take j)).length ≤ (eE a.l).length := by
    have e : eE a.l = eE (a.l.take j) ++ eE (a.l.drop j) := by
      unfold eE; rw [← List.filter_append, ← List.map_append, List.take_append_drop]
    rw [e, List.length_append]
    omega
  rw [hM, List.length_map, List.length_append]
  omega
theorem pz {w0 w : World} {H : List Th} {b : Nat} {v : Value} {L : List Int} {x : Int} (h : Own w0 (Th.row b 2 1 v (L.map dV ++ [dV x]).length (L.map dV ++ [dV x]) :: H) w) : Own w0 (Th.row b 2 1 v ((L ++ [x]).map dV).length ((L ++ [x]).map dV) :: H) w := by
  have e : L.map dV ++ [dV x] = (L ++ [x]).map dV := by rw [List.map_append]; rfl
  rw [e] at h; exact h
theorem xd {w : World} {b : Nat} {v : Value} {L : List Int} (h : w.ownsRow b 2 1 v (L.map dV).length (L.map dV)) : w.ownsRow b 2 1 v L.length (L.map (Value.int .i64)) := by
  rw [List.length_map] at h; exact h
theorem fV : En 43 := by intro args w; go_simp
theorem fO : En 81 := by intro args w; go_simp
theorem ee : En 47 := by intro args w; go_simp
theorem iB : En 49 := by intro args w; go_simp
theorem fP : En 58 := by intro args w; go_simp
theorem gV : En 35 := by intro args w; go_simp
theorem mz (A B : Option Addr) (cA cB : Nat) (l : List Int) (w : World) (hA : RowK 1 CX w A l) (hB : RowK 1 CX w B l) (hl : l.length ≤ 900000) :
    Calls Tryz.prog 23 #[.slice A l.length cA, .slice B l.length cB] w fun e w' => e = .returned (.bool true) ∧ Kept w w' := by
  go_enter Tryz.func23, Tryz.ntmps23
  refine rgx [yV _] 1 26 rfl rfl (Own.start w) (
    uq1 rfl rfl rfl <|
    ah) fun fa fw bs hv ap z q ow => ?_
  have s0 := bs.get 0 rfl rfl; have s1 := bs.get 1 rfl rfl; have s4 := zh hv 0; refine sq fun hK2 => ?_
  refine rgx [yV _, yV _, yV _, yV _, yV (.bool false)] 5 26 z q ow (
    um s0 rfl <|
    ua (rle Tryz.underlying54 (zd 0)) rfl <|
    um s1 rfl <|
    ua (rle Tryz.underlying54 (zd 2)) rfl <|
    ue (rne (zd 1) (zd 3)) (congrArg Value.bool (by simp)) rfl <|
    ah) fun fa fw bs hv ap z q ow => ?_
  obtain ⟨s0, s1, s4⟩ := b3 bs s0 s1 s4; have s10 := zh hv 4; refine wp_cond_false (s10) ?_; refine wp_skip ?_; refine tn hK2 ?_; refine sq fun hK4 => ?_
  refine rgx [yV _] 1 26 z q ow (
    uq1 rfl rfl rfl <|
    ah) fun fa fw bs hv ap z q ow => ?_
  obtain ⟨s0, s1, s4⟩ := b3 bs s0 s1 s4; have s5 := zh hv 0; refine wp_block ?_; refine bc (fun (k : Nat) fr u => (k ≤ l.length) ∧ fr.tmps.size = 26 ∧ fr.defers = [] ∧ Own w [] u ∧ fr.eval (.tmp 0) = .slice A l.length cA ∧ fr.eval (.tmp 1) = .slice B l.length cB ∧ fr.eval (.tmp 4) = .bool false ∧ fr.eval (.tmp 5) = .int .i64 (k : Int)) (fun k => l.length - k) 0 ⟨(Nat.zero_le _), z, q, ow, s0, s1, s4, s5⟩ (fun k b_ u_ hI => ?_)
  revert b_ u_; intro fa fw hI
  obtain ⟨hk0, z, q, ow, s0, s1, s4, s5⟩ := hI; refine sq fun hK6 => ?_
  refine rgx [yV _, yV _, yV _, yV _] 4 26 z q ow (
    um s5 rfl <|
    um s0 rfl <|
    ua (rle Tryz.underlying54 (zd 1)) rfl <|
    ua (rlt (zd 0) (zd 2)) rfl <|
    ah) fun fa fw bs hv ap z q ow => ?_
  obtain ⟨s0, s1, s4, s5⟩ := b4 bs s0 s1 s4 s5; have s14 := zh hv 3
  by_cases hc1 : (k : Int) < ((l.length : Nat) : Int)
  ·refine ct s14 ((decide_eq_true_iff).2 hc1) ?_
   refine wp_skip ?_; refine tn hK6 ?_; refine sq fun hK8 => ?_; refine wp_block ?_; refine sq fun hK9 => ?_; have hltk : k < l.length := by omega
   obtain ⟨a, ha⟩ := bQ hltk; obtain ⟨bx, ox, Ax, ex⟩ := hA.elem ha; obtain ⟨bz, oz, Az, ez⟩ := hB.elem ha
   refine ro [yV _, yV _, yV _, yV _, yV _, yV _, yV _, yV _, yV (.bool false)] 9 26 z q ow (
     um s0 rfl <|
     um s5 rfl <|
     ua (rpl 1 Tryz.underlying54 Ax (zd 0) (zd 1) hltk) rfl <|
     ua (rck 0 ex ow (zd 2)) rfl <|
     um s1 rfl <|
     um s5 rfl <|
     ua (rpl 1 Tryz.underlying54 Az (zd 4) (zd 5) hltk) rfl <|
     ua (rck 0 ez ow (zd 6)) rfl <|
     ue (rne (zd 3) (zd 7)) (congrArg Value.bool (by simp)) rfl <|
     ah) fun fa fw bs hv ap z q ow => ?_
   obtain ⟨s0, s1, s4, s5⟩ := b4 bs s0 s1 s4 s5; have s25 := zh hv 8; refine wt hK9 ?_; refine wp_cond_false (s25) ?_; refine wp_skip ?_; refine bn ?_; refine tn hK8 ?_
   refine ro [yV _, yV (.int .i64 ((k + 1 : Nat) : Int))] 2 26 z q ow (
     um s5 rfl <|
     ua (rad (zd 0) zc) rfl <|
     ah) fun fa fw bs hv ap z q ow => ?_
   obtain ⟨s0, s1, s4, s5⟩ := b4 bs s0 s1 s4 s5; have s16 := zh hv 1; refine ae (v := .int .i64 ((k + 1 : Nat) : Int)) (ag rfl) (aq rfl s16) ?_; refine gp3 z q ow s0 s1 s4 fun fa fw z q ow s0 s1 s4 s5 => ?_; refine bp ?_; exact bK ⟨(k + 1), ⟨hltk, z, q, ow, s0, s1, s4, s5⟩, (show l.length - (k + 1) < l.length - k by omega)⟩
  refine cf s14 (decide_eq_true_iff) hc1 ?_; refine wp_exit ?_; refine aX ?_; refine aX ?_; refine aP ?_; refine tn hK4 ?_
  refine rgx [yV _] 1 26 z q ow (
    uq1 rfl rfl rfl <|
    ah) fun fa fw bs hv ap z q ow => ?_
  have s4 := zh hv 0; refine wp_ret ?_; refine am rfl (ak s4) q ?_; exact ⟨rfl, ow.kept⟩
theorem qN (A B : Option Addr) (cA cB : Nat) (l : List Cl) (w : World) (hA : RowK 5 clV w A l) (hB : RowK 5 clV w B l) (hl : l.length ≤ 900000) :
    Calls Tryz.prog 81 #[.slice A l.length cA, .slice B l.length cB] w fun e w' => e = .returned (.bool true) ∧ Kept w w' := by
  go_enter Tryz.func81, Tryz.ntmps81
  refine rgx [yV _] 1 26 rfl rfl (Own.start w) (
    uq1 rfl rfl rfl <|
    ah) fun fa fw bs hv ap z q ow => ?_
  have s0 := bs.get 0 rfl rfl; have s1 := bs.get 1 rfl rfl; have s4 := zh hv 0; refine sq fun hK2 => ?_
  refine rgx [yV _, yV _, yV _, yV _, yV (.bool false)] 5 26 z q ow (
    um s0 rfl <|
    ua (rle Tryz.underlying35 (zd 0)) rfl <|
    um s1 rfl <|
    ua (rle Tryz.underlying35 (zd 2)) rfl <|
    ue (rne (zd 1) (zd 3)) (congrArg Value.bool (by simp)) rfl <|
    ah) fun fa fw bs hv ap z q ow => ?_
  obtain ⟨s0, s1, s4⟩ := b3 bs s0 s1 s4; have s10 := zh hv 4; refine wp_cond_false (s10) ?_; refine wp_skip ?_; refine tn hK2 ?_; refine sq fun hK4 => ?_
  refine rgx [yV _] 1 26 z q ow (
    uq1 rfl rfl rfl <|
    ah) fun fa fw bs hv ap z q ow => ?_
  obtain ⟨s0, s1, s4⟩ := b3 bs s0 s1 s4; have s5 := zh hv 0; refine wp_block ?_; refine bc (fun (k : Nat) fr u => (k ≤ l.length) ∧ fr.tmps.size = 26 ∧ fr.defers = [] ∧ Own w [] u ∧ fr.eval (.tmp 0) = .slice A l.length cA ∧ fr.eval (.tmp 1) = .slice B l.length cB ∧ fr.eval (.tmp 4) = .bool false ∧ fr.eval (.tmp 5) = .int .i64 (k : Int)) (fun k => l.length - k) 0 ⟨(Nat.zero_le _), z, q, ow, s0, s1, s4, s5⟩ (fun k b_ u_ hI => ?_)
  revert b_ u_; intro fa fw hI
  obtain ⟨hk0, z, q, ow, s0, s1, s4, s5⟩ := hI; refine sq fun hK6 => ?_
  refine rgx [yV _, yV _, yV _, yV _] 4 26 z q ow (
    um s5 rfl <|
    um s0 rfl <|
    ua (rle Tryz.underlying35 (zd 1)) rfl <|
    ua (rlt (zd 0) (zd 2)) rfl <|
    ah) fun fa fw bs hv ap z q ow => ?_
  obtain ⟨s0, s1, s4, s5⟩ := b4 bs s0 s1 s4 s5; have s14 := zh hv 3
  by_cases hc1 : (k : Int) < ((l.length : Nat) : Int)
  ·refine ct s14 ((decide_eq_true_iff).2 hc1) ?_
   refine wp_skip ?_; refine tn hK6 ?_; refine sq fun hK8 => ?_; refine wp_block ?_; refine sq fun hK9 => ?_; have hltk : k < l.length := by omega
   obtain ⟨a, ha⟩ := bQ hltk; obtain ⟨bx, ox, Ax, ex⟩ := hA.elem ha; obtain ⟨bz, oz, Az, ez⟩ := hB.elem ha
   refine ro [yV _, yV _, yV _, yV (.agg #[.int .i64 a.c, .int .i64 a.r, .int .u8 a.v.k, .int .i64 a.v.n, .string ⟨a.v.t.toArray⟩]), yV _, yV _, yV _, yV (.agg #[.int .i64 a.c, .int .i64 a.r, .int .u8 a.v.k, .int .i64 a.v.n, .string ⟨a.v.t.toArray⟩]), yV _] 9 26 z q ow (
     um s0 rfl <|
     um s5 rfl <|
     ua (rpl 5 Tryz.underlying35 Ax (zd 0) (zd 1) hltk) rfl <|
     ua (rpk 5 0 ex ow (zd 2)) rfl <|
     um s1 rfl <|
     um s5 rfl <|
     ua (rpl 5 Tryz.underlying35 Az (zd 4) (zd 5) hltk) rfl <|
     ua (rpk 5 0 ez ow (zd 6)) rfl <|
     aS (fun hk bs hd => Bt rfl (dp hd 3 rfl) (dp hd 7 rfl)) rfl <|
     ah) fun fa fw bs hv ap z q ow => ?_
   obtain ⟨s0, s1, s4, s5⟩ := b4 bs s0 s1 s4 s5; have s25 := zh hv 8; refine wt hK9 ?_; refine wp_cond_false (s25) ?_; refine wp_skip ?_; refine bn ?_; refine tn hK8 ?_
   refine ro [yV _, yV (.int .i64 ((k + 1 : Nat) : Int))] 2 26 z q ow (
     um s5 rfl <|
     ua (rad (zd 0) zc) rfl <|
     ah) fun fa fw bs hv ap z q ow => ?_
   obtain ⟨s0, s1, s4, s5⟩ := b4 bs s0 s1 s4 s5; have s16 := zh hv 1; refine ae (v := .int .i64 ((k + 1 : Nat) : Int)) (ag rfl) (aq rfl s16) ?_; refine gp3 z q ow s0 s1 s4 fun fa fw z q ow s0 s1 s4 s5 => ?_; refine bp ?_; exact bK ⟨(k + 1), ⟨hltk, z, q, ow, s0, s1, s4, s5⟩, (show l.length - (k + 1) < l.length - k by omega)⟩
  refine cf s14 (decide_eq_true_iff) hc1 ?_; refine wp_exit ?_; refine aX ?_; refine aX ?_; refine aP ?_; refine tn hK4 ?_
  refine rgx [yV _] 1 26 z q ow (
    uq1 rfl rfl rfl <|
    ah) fun fa fw bs hv ap z q ow => ?_
  have s4 := zh hv 0; refine wp_ret ?_; refine am rfl (ak s4) q ?_; exact ⟨rfl, ow.kept⟩
theorem tE (x : Rc) (A B : Option Addr) (cA cB : Nat) (l : List Cl) (w : World) (hA : RowK 5 clV w A l) (hB : RowK 5 clV w B l) (hl : l.length ≤ 900000) :
    Calls Tryz.prog 43 #[.agg #[.int .i64 x.c1, .int .i64 x.r1, .int .i64 x.c2, .int .i64 x.r2, .slice A l.length cA], .agg #[.int .i64 x.c1, .int .i64 x.r1, .int .i64 x.c2, .int .i64 x.r2, .slice B l.length cB]] w fun e w' => e = .returned (.bool true) ∧ Kept w w' := by
  go_enter Tryz.func43, Tryz.ntmps43
  refine rgx [bJ w.heap.size (.cells #[.int .i64 x.c1, .int .i64 x.r1, .int .i64 x.c2, .int .i64 x.r2, .slice A l.length cA] 37 (0, 0)), bJ w.heap.size (.cells #[.int .i64 x.c1, .int .i64 x.r1, .int .i64 x.c2, .int .i64 x.r2, .slice B l.length cB] 37 (0, 0)), yV _] 3 17 rfl rfl (Own.start w) (
    ux (t := 0) rfl <|
    ux (t := 1) rfl <|
    uq1 rfl rfl rfl <|
    ah) fun fa fw bs hv ap z q ov => ?_
  obtain ⟨gb1, s2, bgb1, hgb1⟩ := zn hv 0; have ov := ov.hc (Own.start w) bgb1 hgb1; obtain ⟨gb2, s3, bgb2, hgb2⟩ := zn hv 1; have ov := ov.cons hgb2 (Nat.le_trans (Own.start w).kept.size bgb2) (bG (cr ap 0 1 rfl rfl rfl s2 rfl s3 rfl) ((Own.start w).below bgb2)); have s4 := zh hv 2; have ow := ov
  refine rgx [yV (.pointer (some ⟨gb1, 0, none⟩)), yV (.agg #[.int .i64 x.c1, .int .i64 x.r1, .int .i64 x.c2, .int .i64 x.r2]), yV (.pointer (some ⟨gb2, 0, none⟩)), yV (.agg #[.int .i64 x.c1, .int .i64 x.r1, .int .i64 x.c2, .int .i64 x.r2]), yV (.bool true), yV _, yV (.pointer (some ⟨gb1, 4, none⟩)), yV _, yV (.pointer (some ⟨gb2, 4, none⟩)), yV _, yV (.bool true), yV _, yV _] 13 17 z q ow (
    ua (rfa (zt s2)) rfl <|
    ua (rln 4 ow 1 (zd 0)) rfl <|
    ua (rfa (zt s3)) rfl <|
    ua (rln 4 ow 0 (zd 2)) rfl <|
    aE (fun hk bs hd => Ai (u := x) (v := x) rfl (dp hd 1 rfl) (dp hd 3 rfl)) (congrArg Value.bool (by simp)) rfl <|
    uq2 4 rfl rfl <|
    uw 5 (rfa (zt s2)) rfl <|
    uw 5 (rlb ow 1 (zd 6)) rfl <|
    uw 5 (rfa (zt s3)) rfl <|
    uw 5 (rlb ow 0 (zd 8)) rfl <|
    ud 5 (rc2 (zd 7) (zd 9) fO) (fun hk => qN A B cA cB l _ (hA.kept (ow.keep hk).kept) (hB.kept (ow.keep hk).kept) hl) rfl <|
    ua (rpt (zd 5) (zd 10)) rfl <|
    uq3 11 rfl rfl <|
    ah) fun fa fw bs hv ap z q ow => ?_
  have s4 := zh hv 12; refine wp_ret ?_; refine am rfl (ak s4) q ?_; exact ⟨rfl, ow.kept⟩
theorem tF (A B : Option Addr) (cA cB : Nat) (l : List Ar) (w : World) (hA : ArgsAt w A l) (hB : ArgsAt w B l) (hl : l.length ≤ 900000) (hla : ∀ a ∈ l, a.l.length ≤ 900000) :
    Calls Tryz.prog 14 #[.slice A l.length cA, .slice B l.length cB] w fun e w' => e = .returned (.bool true) ∧ Kept w w' := by
  go_enter Tryz.func14, Tryz.ntmps14
  refine rgx [yV _] 1 55 rfl rfl (Own.start w) (
    uq1 rfl rfl rfl <|
    ah) fun fa fw bs hv ap z q ow => ?_
  have s0 := bs.get 0 rfl rfl; have s1 := bs.get 1 rfl rfl; have s4 := zh hv 0; refine sq fun hK2 => ?_
  refine rgx [yV _, yV _, yV _, yV _, yV (.bool false)] 5 55 z q ow (
    um s0 rfl <|
    ua (rle Tryz.underlying22 (zd 0)) rfl <|
    um s1 rfl <|
    ua (rle Tryz.underlying22 (zd 2)) rfl <|
    ue (rne (zd 1) (zd 3)) (congrArg Value.bool (by simp)) rfl <|
    ah) fun fa fw bs hv ap z q ow => ?_
  obtain ⟨s0, s1, s4⟩ := b3 bs s0 s1 s4; have s10 := zh hv 4; refine wp_cond_false (s10) ?_; refine wp_skip ?_; refine tn hK2 ?_; refine sq fun hK4 => ?_
  refine rgx [yV _] 1 55 z q ow (
    uq1 rfl rfl rfl <|
    ah) fun fa fw bs hv ap z q ow => ?_
  obtain ⟨s0, s1, s4⟩ := b3 bs s0 s1 s4; have s5 := zh hv 0; refine wp_block ?_; refine bc (fun (k : Nat) fr u => (k ≤ l.length) ∧ fr.tmps.size = 55 ∧ fr.defers = [] ∧ Own w [] u ∧ fr.eval (.tmp 0) = .slice A l.length cA ∧ fr.eval (.tmp 1) = .slice B l.length cB ∧ fr.eval (.tmp 4) = .bool false ∧ fr.eval (.tmp 5) = .int .i64 (k : Int)) (fun k => l.length - k) 0 ⟨(Nat.zero_le _), z, q, ow, s0, s1, s4, s5⟩ (fun k b_ u_ hI => ?_)
  revert b_ u_; intro fa fw hI
  obtain ⟨hk0, z, q, ow, s0, s1, s4, s5⟩ := hI; refine sq fun hK6 => ?_
  refine rgx [yV _, yV _, yV _, yV _] 4 55 z q ow (
    um s5 rfl <|
    um s0 rfl <|
    ua (rle Tryz.underlying22 (zd 1)) rfl <|
    ua (rlt (zd 0) (zd 2)) rfl <|
    ah) fun fa fw bs hv ap z q ow => ?_
  obtain ⟨s0, s1, s4, s5⟩ := b4 bs s0 s1 s4 s5; have s14 := zh hv 3
  by_cases hc1 : (k : Int) < ((l.length : Nat) : Int)
  ·refine ct s14 ((decide_eq_true_iff).2 hc1) ?_
   refine wp_skip ?_; refine tn hK6 ?_; refine sq fun hK8 => ?_; refine wp_block ?_; refine sq fun hK9 => ?_; have hltk : k < l.length := by omega
   obtain ⟨a, ha⟩ := bQ hltk; obtain ⟨bx, ox, A1, c1, Ax, ex, r1, _⟩ := hA.elem ha; obtain ⟨bz, oz, A2, c2, Az, ez, r2, _⟩ := hB.elem ha
   refine ro [yV _, yV _, yV _, yV (.pointer (some ⟨bx, ox + k * 9, none⟩)), yV _, yV _, yV _, yV _, yV (.pointer (some ⟨bz, oz + k * 9, none⟩)), yV _, yV (.bool false), yV _, yV _, yV _, yV _, yV (.pointer (some ⟨bx, ox + k * 9 + 1, none⟩)), yV (al a.v), yV _, yV _, yV _, yV (.pointer (some ⟨bz, oz + k * 9 + 1, none⟩)), yV (al a.v), yV (.bool false), yV _, yV _, yV _, yV _, yV _, yV (.pointer (some ⟨bx, ox + k * 9 + 4, none⟩)), yV (.agg #[.int .i64 a.x.c1, .int .i64 a.x.r1, .int .i64 a.x.c2, .int .i64 a.x.r2, .slice A1 a.l.length c1]), yV _, yV _, yV _, yV (.pointer (some ⟨bz, oz + k * 9 + 4, none⟩)), yV (.agg #[.int .i64 a.x.c1, .int .i64 a.x.r1, .int .i64 a.x.c2, .int .i64 a.x.r2, .slice A2 a.l.length c2]), yV (.bool true), yV _, yV _] 38 55 z q ow (
     um s0 rfl <|
     um s5 rfl <|
     ua (rpl 9 Tryz.underlying22 Ax (zd 0) (zd 1) hltk) rfl <|
     ua (rfa (zd 2)) rfl <|
     ua (rck 0 ex ow (zd 3)) rfl <|
     um s1 rfl <|
     um s5 rfl <|
     ua (rpl 9 Tryz.underlying22 Az (zd 5) (zd 6) hltk) rfl <|
     ua (rfa (zd 7)) rfl <|
     ua (rck 0 ez ow (zd 8)) rfl <|
     aE (fun hk bs hd => DJ rfl (dp hd 4 rfl) (dp hd 9 rfl)) (congrArg Value.bool (by simp)) rfl <|
     uq2 10 rfl rfl <|
     uw 11 (rmo (zt s0)) rfl <|
     uw 11 (rmo (zt s5)) rfl <|
     uw 11 (rpl 9 Tryz.underlying22 Ax (zd 12) (zd 13) hltk) rfl <|
     uw 11 (rfa (zd 14)) rfl <|
     uw 11 (rpk 3 1 ex ow (zd 15)) rfl <|
     uw 11 (rmo (zt s1)) rfl <|
     uw 11 (rmo (zt s5)) rfl <|
     uw 11 (rpl 9 Tryz.underlying22 Az (zd 17) (zd 18) hltk) rfl <|
     uw 11 (rfa (zd 19)) rfl <|
     uw 11 (rpk 3 1 ez ow (zd 20)) rfl <|
     xo (wg (j := 11) (b := false) rfl rfl rfl) (fun aa ww hk bs hd => C6 rfl (dp hd 16 rfl) (dp hd 21 rfl)) (congrArg Value.bool (by rw [gJ]; rfl)) rfl <|
     ua (rpf (zd 11) (zd 22)) rfl <|
     uq2 23 rfl rfl <|
     uw 24 (rmo (zt s0)) rfl <|
     uw 24 (rmo (zt s5)) rfl <|
     uw 24 (rpl 9 Tryz.underlying22 Ax (zd 25) (zd 26) hltk) rfl <|
     uw 24 (rfa (zd 27)) rfl <|
     uw 24 (rpk 5 4 ex ow (zd 28)) rfl <|
     uw 24 (rmo (zt s1)) rfl <|
     uw 24 (rmo (zt s5)) rfl <|
     uw 24 (rpl 9 Tryz.underlying22 Az (zd 30) (zd 31) hltk) rfl <|
     uw 24 (rfa (zd 32)) rfl <|
     uw 24 (rpk 5 4 ez ow (zd 33)) rfl <|
     ud 24 (rc2 (zd 29) (zd 34) fV) (fun hk => tE a.x A1 A2 c1 c2 a.l _ (r1.kept (ow.keep hk).kept) (r2.kept (ow.keep hk).kept) (hla a (List.mem_of_getElem? ha))) rfl <|
     uw 24 (rno (zd 35)) rfl <|
     ua (rpf (zd 24) (zd 36)) rfl <|
     ah) fun fa fw bs hv ap z q ow => ?_
   obtain ⟨s0, s1, s4, s5⟩ := b4 bs s0 s1 s4 s5; have s54 := zh hv 37; refine wt hK9 ?_; refine wp_cond_false (s54) ?_; refine wp_skip ?_; refine bn ?_; refine tn hK8 ?_
   refine ro [yV _, yV (.int .i64 ((k + 1 : Nat) : Int))] 2 55 z q ow (
     um s5 rfl <|
     ua (rad (zd 0) zc) rfl <|
     ah) fun fa fw bs hv ap z q ow => ?_
   obtain ⟨s0, s1, s4, s5⟩ := b4 bs s0 s1 s4 s5; have s16 := zh hv 1; refine ae (v := .int .i64 ((k + 1 : Nat) : Int)) (ag rfl) (aq rfl s16) ?_; refine gp3 z q ow s0 s1 s4 fun fa fw z q ow s0 s1 s4 s5 => ?_; refine bp ?_; exact bK ⟨(k + 1), ⟨hltk, z, q, ow, s0, s1, s4, s5⟩, (show l.length - (k + 1) < l.length - k by omega)⟩
  refine cf s14 (decide_eq_true_iff) hc1 ?_; refine wp_exit ?_; refine aX ?_; refine aX ?_; refine aP ?_; refine tn hK4 ?_
  refine rgx [yV _] 1 55 z q ow (
    uq1 rfl rfl rfl <|
    ah) fun fa fw bs hv ap z q ow => ?_
  have s4 := zh hv 0; refine wp_ret ?_; refine am rfl (ak s4) q ?_; exact ⟨rfl, ow.kept⟩
theorem pA (a : Ar) (A1 : Option Addr) (c1 : Nat) (w : World) (hr : RowK 5 clV w A1 a.l) (hl : a.l.length ≤ 900000) (hsv : Small a.v) (hs : ∀ c ∈ a.l, Small c.v) :
    Calls Tryz.prog 35 #[.agg #[.bool a.w, .int .u8 a.v.k, .int .i64 a.v.n, .string ⟨a.v.t.toArray⟩, .int .i64 a.x.c1, .int .i64 a.x.r1, .int .i64 a.x.c2, .int .i64 a.x.r2, .slice A1 a.l.length c1]] w fun e w' => e = .returned (.bool (br a)) ∧ Kept w w' := by
  go_enter Tryz.func35, Tryz.ntmps35
  refine rgx [bJ w.heap.size (.cells #[.bool a.w, .int .u8 a.v.k, .int .i64 a.v.n, .string ⟨a.v.t.toArray⟩, .int .i64 a.x.c1, .int .i64 a.x.r1, .int .i64 a.x.c2, .int .i64 a.x.r2, .slice A1 a.l.length c1] 39 (0, 0)), yV _] 2 93 rfl rfl (Own.start w) (
    ux (t := 0) rfl <|
    uq1 rfl rfl rfl <|
    ah) fun fa fw bs hv ap z q ov => ?_
  obtain ⟨gb1, s1, bgb1, hgb1⟩ := zn hv 0; have ov := ov.hc (Own.start w) bgb1 hgb1; have s2 := zh hv 1; have ow := ov; refine sq fun hK2 => ?_
  refine rgx [yV (.pointer (some ⟨gb1, 0, none⟩)), yV _, yV _] 3 93 z q ow (
    ua (rfa (zt s1)) rfl <|
    ua (rlb ow 0 (zd 0)) rfl <|
    ua (rno (zd 1)) rfl <|
    ah) fun fa fw bs hv ap z q ow => ?_
  obtain ⟨s1, s2⟩ := b2 bs s1 s2; have s7 := zh hv 2
  by_cases hc1 : ¬ (a.w = true)
  ·refine ct s7 ((dX (Iff.rfl)).2 hc1) ?_
   have hw : a.w = false := by simpa using hc1
   refine rgx [yV (.pointer (some ⟨gb1, 1, none⟩)), yV (al a.v), yV (.int .i64 (cx a.v)), yV _, yV _, yIf _ (yV (.pointer (some ⟨gb1, 4, none⟩))), yIf _ (yV (.pointer (some ⟨gb1, 4, none⟩))), yIf _ (yV (.agg #[.int .i64 a.x.c1, .int .i64 a.x.r1, .int .i64 a.x.c2, .int .i64 a.x.r2])), yIf _ (yV (.agg #[.int .i64 0, .int .i64 0, .int .i64 0, .int .i64 0])), yIf _ (yV _), yV _, yV _, yIf _ (yV (.pointer (some ⟨gb1, 4, none⟩))), yIf _ (yV (.pointer (some ⟨gb1, 8, none⟩))), yIf _ (yV _), yIf _ (yV _), yIf _ (yV _), yV _, yV _] 19 93 z q ow (
     ua (rfa (zt s1)) rfl <|
     ua (rln 3 ow 0 (zd 0)) rfl <|
     uc (rc1 (zd 1) ee) (fun hk => fs a.v _ (by first | exact hsv.1 | exact hsc.1) (by first | exact Nat.le_trans hsv.2 (by decide) | exact Nat.le_trans hsc.2 (by decide))) rfl <|
     ua (req (zd 2) zc) rfl <|
     uq2 3 rfl rfl <|
     ui (gd1 4) (rfa (zt s1)) rfl <|
     ui (gd1 4) (rfa (zi 5)) rfl <|
     ui (gd1 4) (rln 4 ow 0 (zi 6)) rfl <|
     ai (gd1 4) (fun hk bs hd hz => bP (us := #[]) rfl (by simp) (by kernel_rfl)) rfl <|
     ai (gd1 4) (fun hk bs hd hz => Ai (u := a.x) (v := (⟨0, 0, 0, 0⟩ : Rc)) rfl (di hd 7 rfl hz) (di hd 8 rfl hz)) rfl <|
     ua (ran (zd 4) (zi 9)) rfl <|
     uq2 10 rfl rfl <|
     ui (gd1 11) (rfa (zt s1)) rfl <|
     ui (gd1 11) (rfa (zi 12)) rfl <|
     ui (gd1 11) (rlb ow 0 (zi 13)) rfl <|
     ui (gd1 11) (rle Tryz.underlying35 (zi 14)) rfl <|
     ui (gd1 11) (req (zi 15) zc) rfl <|
     ua (ran (zd 11) (zi 16)) rfl <|
     uq3 17 rfl rfl <|
     ah) fun fa fw bs hv ap z q ow => ?_
   have s1 := bg bs s1; have s2 := zh hv 18; refine wp_ret ?_; refine ao ?_; refine am rfl (ak s2) q ?_; exact ⟨(congrArg (fun b => Ending.returned (.bool b)) (show _ = br a by exact oE hw)), ow.kept⟩
  refine cf s7 (dX (Iff.rfl)) hc1 ?_; have hw : a.w = true := by simpa using hc1
  refine wp_skip ?_; refine tn hK2 ?_; refine sq fun hK5 => ?_
  refine rgx [yV (.pointer (some ⟨gb1, 1, none⟩)), yV (al a.v), yV (al (⟨0, 0, []⟩ : Vl)), yV _, yV _, yIf _ (yV (.pointer (some ⟨gb1, 4, none⟩))), yIf _ (yV (.pointer (some ⟨gb1, 4, none⟩))), yIf _ (yV (.agg #[.int .i64 a.x.c1, .int .i64 a.x.r1, .int .i64 a.x.c2, .int .i64 a.x.r2])), yIf _ (yV (.int .i64 (fX a.x))), yIf _ (yV _), yV _] 11 93 z q ow (
    ua (rfa (zt s1)) rfl <|
    ua (rln 3 ow 0 (zd 0)) rfl <|
    aS (fun hk bs hd => bP (us := #[]) rfl (by simp) (by kernel_rfl)) rfl <|
    aS (fun hk bs hd => C6 rfl (dp hd 1 rfl) (dp hd 2 rfl)) rfl <|
    uq2 3 rfl rfl <|
    ui (gd1 4) (rfa (zt s1)) rfl <|
    ui (gd1 4) (rfa (zi 5)) rfl <|
    ui (gd1 4) (rln 4 ow 0 (zi 6)) rfl <|
    uq6 (gd1 4) (rc1 (zi 7) dZ) (fun hk hz => oA a.x _) rfl <|
    ui (gd1 4) (rne (zi 8) zc) rfl <|
    ua (ron (zd 4) (zi 9)) rfl <|
    ah) fun fa fw bs hv ap z q ow => ?_
  obtain ⟨s1, s2⟩ := b2 bs s1 s2; have s36 := zh hv 10
  by_cases hc2 : (¬ ((gj a.v (⟨0, 0, []⟩ : Vl)) = true)) ∨ ((fX a.x : Int) ≠ (0 : Int))
  ·refine ct s36 ((bor (dX (Iff.rfl)) (decide_eq_true_iff)).2 hc2) ?_
   have hbad := hc2
   refine rgx [yV _] 1 93 z q ow (
     uq1 rfl rfl rfl <|
     ah) fun fa fw bs hv ap z q ow => ?_
   have s1 := bg bs s1; have s2 := zh hv 0; refine wp_ret ?_; refine ao ?_; refine am rfl (ak s2) q ?_; exact ⟨(congrArg (fun b => Ending.returned (.bool b)) (show _ = br a by exact (rB hw hbad).symm)), ow.kept⟩
  refine cf s36 (bor (dX (Iff.rfl)) (decide_eq_true_iff)) hc2 ?_; have hok := rC hc2; refine wp_skip ?_; refine tn hK5 ?_
  refine rgx [yV (.pointer (some ⟨gb1, 4, none⟩)), yV (.pointer (some ⟨gb1, 8, none⟩)), yV _, yV _] 4 93 z q ow (
    ua (rfa (zt s1)) rfl <|
    ua (rfa (zd 0)) rfl <|
    ua (rlb ow 0 (zd 1)) rfl <|
    uq3 2 rfl rfl <|
    ah) fun fa fw bs hv ap z q ow => ?_
  obtain ⟨s1, s2⟩ := b2 bs s1 s2; have s3 := zh hv 3; refine sq fun hK9 => ?_
  refine rgx [yV _] 1 93 z q ow (
    uq1 rfl rfl rfl <|
    ah) fun fa fw bs hv ap z q ow => ?_
  obtain ⟨s1, s2, s3⟩ := b3 bs s1 s2 s3; have s4 := zh hv 0; refine wp_block ?_; refine bc (fun (k : Nat) fr u => (k ≤ a.l.length) ∧ (∀ j, j < k → ∀ q, a.l[j]? = some q → eL a.x q) ∧ (∀ j, j + 1 < k → ∀ p q, a.l[j]? = some p → a.l[j + 1]? = some q → cO p q = true) ∧ fr.tmps.size = 93 ∧ fr.defers = [] ∧ Own w [Th.obj gb1 (.cells #[.bool a.w, .int .u8 a.v.k, .int .i64 a.v.n, .string ⟨a.v.t.toArray⟩, .int .i64 a.x.c1, .int .i64 a.x.r1, .int .i64 a.x.c2, .int .i64 a.x.r2, .slice A1 a.l.length c1] 39 (0, 0))] u ∧ fr.eval (.tmp 1) = .pointer (some ⟨gb1, 0, none⟩) ∧ fr.eval (.tmp 2) = .bool false ∧ fr.eval (.tmp 3) = .slice A1 a.l.length c1 ∧ fr.eval (.tmp 4) = .int .i64 (k : Int)) (fun k => a.l.length - k) 0 ⟨(Nat.zero_le _), (fun j hj => absurd hj (Nat.not_lt_zero j)), (fun j hj => absurd hj (Nat.not_lt_zero _)), z, q, ow, s1, s2, s3, s4⟩ (fun k b_ u_ hI => ?_)
  revert b_ u_; intro fa fw hI
  obtain ⟨hk0, hfine, hup, z, q, ow, s1, s2, s3, s4⟩ := hI; refine sq fun hK11 => ?_
  refine rgx [yV _, yV _, yV _, yV _] 4 93 z q ow (
    um s4 rfl <|
    um s3 rfl <|
    ua (rle Tryz.underlying35 (zd 1)) rfl <|
    ua (rlt (zd 0) (zd 2)) rfl <|
    ah) fun fa fw bs hv ap z q ow => ?_
  obtain ⟨s1, s2, s3, s4⟩ := b4 bs s1 s2 s3 s4; have s43 := zh hv 3
  by_cases hc3 : (k : Int) < ((a.l.length : Nat) : Int)
  ·refine ct s43 ((decide_eq_true_iff).2 hc3) ?_
   refine wp_skip ?_; refine tn hK11 ?_; refine sq fun hK13 => ?_; refine wp_block ?_; refine sq fun hK14 => ?_; have hltk : k < a.l.length := by omega
   obtain ⟨cl, hcl⟩ := bQ hltk; obtain ⟨bcl, ocl, Acl, ecl⟩ := hr.elem hcl; have hsc := hs cl (List.mem_of_getElem? hcl); obtain ⟨pc, hpc⟩ := Bu hr hcl Acl
   refine ro [yV (.pointer (some ⟨gb1, 4, none⟩)), yV (.pointer (some ⟨gb1, 4, none⟩)), yV (.agg #[.int .i64 a.x.c1, .int .i64 a.x.r1, .int .i64 a.x.c2, .int .i64 a.x.r2]), yV _, yV _, yV _, yV (.pointer (some ⟨bcl, ocl + k * 5, none⟩)), yV (.agg #[.int .i64 cl.c, .int .i64 cl.r]), yV (.bool (gU a.x cl.c cl.r)), yV _, yV _, yIf _ (yV _), yIf _ (yV _), yIf _ (yV _), yIf _ (yV (.pointer (some ⟨bcl, ocl + k * 5 + 2, none⟩))), yIf _ (yV (al cl.v)), yIf _ (yV (.int .i64 (cx cl.v))), yIf _ (yV _), yV _, yV _, yIf _ (yV _), yIf _ (yV _), yIf _ (yV _), yIf _ (yV (.pointer (some ⟨bcl, ocl + k * 5 + 2, none⟩))), yIf _ (yV (.pointer (some ⟨bcl, ocl + k * 5 + 2, none⟩))), yIf _ (yV _), yIf _ (yV _), yV _, yV _, yIf _ (yV _), yIf _ (yV _), yIf _ (yV _), yIf _ (yV _), yIf _ (yV _), yIf _ (yV (.int .i64 ((k - 1 : Nat) : Int))), yIf _ (yV _), yIf _ (yV (.pointer (some ⟨bcl, ocl + (k - 1) * 5, none⟩))), yIf _ (yV (.agg #[.int .i64 pc.c, .int .i64 pc.r])), yIf _ (yV _), yIf _ (yV _), yIf _ (yV _), yIf _ (yV (.pointer (some ⟨bcl, ocl + k * 5, none⟩))), yIf _ (yV (.agg #[.int .i64 cl.c, .int .i64 cl.r])), yIf _ (yV (.bool (cO pc cl))), yIf _ (yV _), yIf _ (yV _), yV _] 47 93 z q ow (
     ua (rfa (zt s1)) rfl <|
     ua (rfa (zd 0)) rfl <|
     ua (rln 4 ow 0 (zd 1)) rfl <|
     um s3 rfl <|
     um s4 rfl <|
     ua (rpl 5 Tryz.underlying35 Acl (zd 3) (zd 4) hltk) rfl <|
     ua (rfa (zd 5)) rfl <|
     ua (rpk 2 0 ecl ow (zd 6)) rfl <|
     uc (rc2 (zd 2) (zd 7) eN) (fun hk => oB a.x cl.c cl.r _) rfl <|
     ua (rno (zd 8)) rfl <|
     uq2 9 rfl rfl <|
     ui (gd1 10) (rmo (zt s3)) rfl <|
     ui (gd1 10) (rmo (zt s4)) rfl <|
     ui (gd1 10) (rpl 5 Tryz.underlying35 Acl (zi 11) (zi 12) hltk) rfl <|
     ui (gd1 10) (rfa (zi 13)) rfl <|
     ui (gd1 10) (rpk 3 2 ecl ow (zi 14)) rfl <|
     uq6 (gd1 10) (rc1 (zi 15) ee) (fun hk hz => fs cl.v _ (by first | exact hsv.1 | exact hsc.1) (by first | exact Nat.le_trans hsv.2 (by decide) | exact Nat.le_trans hsc.2 (by decide))) rfl <|
     ui (gd1 10) (rne (zi 16) zc) rfl <|
     ua (ron (zd 10) (zi 17)) rfl <|
     uq2 18 rfl rfl <|
     ui (gd1 19) (rmo (zt s3)) rfl <|
     ui (gd1 19) (rmo (zt s4)) rfl <|
     ui (gd1 19) (rpl 5 Tryz.underlying35 Acl (zi 20) (zi 21) hltk) rfl <|
     ui (gd1 19) (rfa (zi 22)) rfl <|
     ui (gd1 19) (rfa (zi 23)) rfl <|
     ui (gd1 19) (rck 2 ecl ow (zi 24)) rfl <|
     ui (gd1 19) (req (zi 25) zc) rfl <|
     ua (ron (zd 19) (zi 26)) rfl <|
     uq2 27 rfl rfl <|
     ui (gd1 28) (rmo (zt s4)) rfl <|
     ui (gd1 28) (rgt (zi 29) zc) rfl <|
     ui (gd1 28) (rmo (zi 30)) rfl <|
     ui (gd2 31) (rmo (zt s3)) rfl <|
     ui (gd2 31) (rmo (zt s4)) rfl <|
     ai (gd2 31) (fun hk bs hd hz => Cv rfl (di hd 33 rfl hz) (by have := (of_decide_eq_true hz.2); omega) (by omega)) rfl <|
     ai (gd2 31) (fun hk bs hd hz => jw 5 Tryz.underlying35 (by kernel_rfl) rfl Acl (di hd 32 rfl hz) (di hd 34 rfl hz) (by have := (of_decide_eq_true hz.2); omega)) rfl <|
     ui (gd2 31) (rfa (zi 35)) rfl <|
     ai (gd2 31) (fun hk bs hd hz => mi (n := 2) 0 rfl (by kernel_rfl) (by kernel_rfl) (di hd 36 rfl hz) rfl ((hpc (of_decide_eq_true hz.2)).1.kept (ow.keep hk).kept)) rfl <|
     ui (gd2 31) (rmo (zt s3)) rfl <|
     ui (gd2 31) (rmo (zt s4)) rfl <|
     ui (gd2 31) (rpl 5 Tryz.underlying35 Acl (zi 38) (zi 39) hltk) rfl <|
     ui (gd2 31) (rfa (zi 40)) rfl <|
     ui (gd2 31) (rpk 2 0 ecl ow (zi 41)) rfl <|
     uq6 (gd2 31) (rc2 (zi 37) (zi 42) ey) (fun hk hz => oC pc cl _) rfl <|
     ui (gd2 31) (rno (zi 43)) rfl <|
     ui (gd1 28) (rai (zi 31) (zi 44)) rfl <|
     ua (ron (zd 28) (zi 45)) rfl <|
     ah) fun fa fw bs hv ap z q ow => ?_
   obtain ⟨s1, s2, s3, s4⟩ := b4 bs s1 s2 s3 s4; have s92 := zh hv 46; refine wt hK14 ?_
   by_cases hc4 : (((¬ ((gU a.x cl.c cl.r) = true)) ∨ ((cx cl.v : Int) ≠ (0 : Int))) ∨ ((cl.v.k : Int) = (0 : Int))) ∨ (((0 : Int) < (k : Int)) ∧ (¬ ((cO pc cl) = true)))
   ·refine ct s92 ((bor (bor (bor (dX (Iff.rfl)) (decide_eq_true_iff)) (decide_eq_true_iff)) (lV (decide_eq_true_iff) (dX (Iff.rfl)))).2 hc4) ?_
    have hcb := hc4
    refine rgx [yV _] 1 93 z q ow (
      uq1 rfl rfl rfl <|
      ah) fun fa fw bs hv ap z q ow => ?_
    obtain ⟨s1, s3, s4⟩ := b3 bs s1 s3 s4; have s2 := zh hv 0; refine wp_ret ?_; refine aD ?_; refine ao ?_; refine ao ?_; refine aD ?_; refine ao ?_; refine am rfl (ak s2) q ?_; exact ⟨(congrArg (fun b => Ending.returned (.bool b)) (show _ = br a by exact (gL hw hok (CY hcl hpc hcb)).symm)), ow.kept⟩
   refine cf s92 (bor (bor (bor (dX (Iff.rfl)) (decide_eq_true_iff)) (decide_eq_true_iff)) (lV (decide_eq_true_iff) (dX (Iff.rfl)))) hc4 ?_; have hcg := hc4; refine wp_skip ?_; refine bn ?_; refine tn hK13 ?_
   refine ro [yV _, yV (.int .i64 ((k + 1 : Nat) : Int))] 2 93 z q ow (
     um s4 rfl <|
     ua (rad (zd 0) zc) rfl <|
     ah) fun fa fw bs hv ap z q ow => ?_
   obtain ⟨s1, s2, s3, s4⟩ := b4 bs s1 s2 s3 s4; have s45 := zh hv 1; refine ae (v := .int .i64 ((k + 1 : Nat) : Int)) (ag rfl) (aq rfl s45) ?_; refine gp3 z q ow s1 s2 s3 fun fa fw z q ow s1 s2 s3 s4 => ?_; refine bp ?_; exact bK ⟨(k + 1), ⟨hltk, (Bv hfine hcl hcg), (DB hup hcl hpc hcg), z, q, ow, s1, s2, s3, s4⟩, (show a.l.length - (k + 1) < a.l.length - k by omega)⟩
  refine cf s43 (decide_eq_true_iff) hc3 ?_; refine wp_exit ?_; refine aX ?_; refine aX ?_; refine aP ?_; refine tn hK9 ?_
  refine rgx [yV _] 1 93 z q ow (
    uq1 rfl rfl rfl <|
    ah) fun fa fw bs hv ap z q ow => ?_
  have s2 := zh hv 0; refine wp_ret ?_; refine am rfl (ak s2) q ?_; exact ⟨(congrArg (fun b => Ending.returned (.bool b)) (show _ = br a by exact (gL hw hok (Bw hfine hup (by omega))).symm)), ow.kept⟩
theorem lA (A : Option Addr) (cap : Nat) (l : List Ar) (w : World) (hr : ArgsAt w A l) (hs : ∀ a ∈ l, bI a) (hl : l.length ≤ 1000) (hla : ∀ a ∈ l, a.l.length ≤ 900000) (hn : (aF l).length ≤ 1000000) :
    Calls Tryz.prog 22 #[.slice A l.length cap] w fun e w' => ko w l e w' := by
  go_enter Tryz.func22, Tryz.ntmps22
  refine rgx [yV _, bJ w.heap.size (.cells #[.int .u8 0, .int .i64 0, .string ⟨[].toArray⟩] 25 (0, 0)), yV _] 3 86 rfl rfl (Own.start w) (
    uq1 rfl rfl rfl <|
    uq4 <|
    uq1 rfl rfl rfl <|
    ah) fun fa fw bs hv ap z q ov => ?_
  have s0 := bs.get 0 rfl rfl; have s2 := zh hv 0; obtain ⟨gb1, s3, bgb1, hgb1⟩ := zn hv 1; have ov := ov.hc (Own.start w) bgb1 hgb1; have s4 := zh hv 2; have ow := ov; refine sq fun hK2 => ?_
  refine rgx [yV _] 1 86 z q ow (
    uq1 rfl rfl rfl <|
    ah) fun fa fw bs hv ap z q ow => ?_
  obtain ⟨s0, s2, s3, s4⟩ := b4 bs s0 s2 s3 s4; have s5 := zh hv 0; refine wp_block ?_; refine bc (fun (k : Nat) fr u => (k ≤ l.length) ∧ (∀ j, j < k → ∀ q, l[j]? = some q → br q = true) ∧ fr.tmps.size = 86 ∧ fr.defers = [] ∧ Own w [Th.obj gb1 (.cells #[.int .u8 0, .int .i64 0, .string ⟨[].toArray⟩] 25 (0, 0))] u ∧ fr.eval (.tmp 0) = .slice A l.length cap ∧ fr.eval (.tmp 2) = .slice none 0 0 ∧ fr.eval (.tmp 3) = .pointer (some ⟨gb1, 0, none⟩) ∧ fr.eval (.tmp 4) = .bool false ∧ fr.eval (.tmp 5) = .int .i64 (k : Int)) (fun k => l.length - k) 0 ⟨(Nat.zero_le _), (fun j hj => absurd hj (Nat.not_lt_zero j)), z, q, ow, s0, s2, s3, s4, s5⟩ (fun k b_ u_ hI => ?_)
  revert b_ u_; intro fa fw hI
  obtain ⟨hk0, hall0, z, q, ow, s0, s2, s3, s4, s5⟩ := hI; refine sq fun hK4 => ?_
  refine rgx [yV _, yV _, yV _, yV _] 4 86 z q ow (
    um s5 rfl <|
    um s0 rfl <|
    ua (rle Tryz.underlying22 (zd 1)) rfl <|
    ua (rlt (zd 0) (zd 2)) rfl <|
    ah) fun fa fw bs hv ap z q ow => ?_
  obtain ⟨s0, s2, s3, s4, s5⟩ := b5 bs s0 s2 s3 s4 s5; have s14 := zh hv 3
  by_cases hc1 : (k : Int) < ((l.length : Nat) : Int)
  ·refine ct s14 ((decide_eq_true_iff).2 hc1) ?_
   refine wp_skip ?_; refine tn hK4 ?_; refine sq fun hK6 => ?_; refine wp_block ?_; refine sq fun hK7 => ?_; have hltk : k < l.length := by omega
   obtain ⟨a, ha⟩ := bQ hltk; obtain ⟨ba, oa, A1, c1, Aa, ea, r1, l1⟩ := hr.elem ha; have hva := (hs a (List.mem_of_getElem? ha)).1; have hca := (hs a (List.mem_of_getElem? ha)).2; have hal := hla a (List.mem_of_getElem? ha)
   refine ro [yV _, yV _, yV _, yV (.agg #[.bool a.w, .int .u8 a.v.k, .int .i64 a.v.n, .string ⟨a.v.t.toArray⟩, .int .i64 a.x.c1, .int .i64 a.x.r1, .int .i64 a.x.c2, .int .i64 a.x.r2, .slice A1 a.l.length c1]), yV (.bool (br a)), yV _] 6 86 z q ow (
     um s0 rfl <|
     um s5 rfl <|
     ua (rpl 9 Tryz.underlying22 Aa (zd 0) (zd 1) hltk) rfl <|
     ua (rpk 9 0 ea ow (zd 2)) rfl <|
     uc (rc1 (zd 3) gV) (fun hk => pA a _ _ _ (r1.kept (ow.keep hk).kept) hal hva hca) rfl <|
     ua (rno (zd 4)) rfl <|
     ah) fun fa fw bs hv ap z q ow => ?_
   obtain ⟨s0, s2, s3, s4, s5⟩ := b5 bs s0 s2 s3 s4 s5; have s22 := zh hv 5; refine wt hK7 ?_
   by_cases hc2 : ¬ ((br a) = true)
   ·refine ct s22 ((dX (Iff.rfl)).2 hc2) ?_
    have hbad : br a = false := by simpa using hc2
    refine sq fun hK8 => ?_
    refine ro [yV (al (aW 2)), yV _] 2 86 z q ow (
      uc (rc1 zc iB) (fun hk => eY 2 _) rfl <|
      uq1 rfl rfl rfl <|
      ah) fun fa fw bs hv ap z q ow => ?_
    obtain ⟨s0, s3, s4, s5⟩ := b4 bs s0 s3 s4 s5; have s23 := zh hv 0; have s2 := zh hv 1; refine ws ow 0 0 s3 s23 fun fw ow => ?_; refine ae (v := .bool false) (ag rfl) (aq rfl rfl) ?_; refine gp4 z q ow s0 s3 s5 s2 fun fa fw z q ow s0 s3 s5 s2 s4 => ?_; refine wt hK8 ?_; refine wp_ret ?_; refine aD ?_; refine ao ?_; refine ao ?_; refine aD ?_; refine ao ?_; refine aU (v := .tuple #[.slice none 0 0, al (aW 2), .bool false]) rfl (.cons (ak s2) (.cons (bo (n := 3) _ s3 (by kernel_rfl) (by kernel_rfl) (ow.box 0 rfl) (Nat.le_of_ble_eq_true rfl) rfl) (.cons (ak s4) .nil))) rfl q ?_; exact ⟨_, _, _, rfl, ow.kept, Or.inl ⟨rfl, rfl, mv ha hbad⟩⟩
   refine cf s22 (dX (Iff.rfl)) hc2 ?_; have hgood : br a = true := by simpa using hc2
   refine wp_skip ?_; refine bn ?_; refine tn hK6 ?_
   refine ro [yV _, yV (.int .i64 ((k + 1 : Nat) : Int))] 2 86 z q ow (
     um s5 rfl <|
     ua (rad (zd 0) zc) rfl <|
     ah) fun fa fw bs hv ap z q ow => ?_
   obtain ⟨s0, s2, s3, s4, s5⟩ := b5 bs s0 s2 s3 s4 s5; have s16 := zh hv 1; refine ae (v := .int .i64 ((k + 1 : Nat) : Int)) (ag rfl) (aq rfl s16) ?_; refine gp4 z q ow s0 s2 s3 s4 fun fa fw z q ow s0 s2 s3 s4 s5 => ?_; refine bp ?_; exact bK ⟨(k + 1), ⟨hltk, (qi hall0 ha hgood), z, q, ow, s0, s2, s3, s4, s5⟩, (show l.length - (k + 1) < l.length - k by omega)⟩
  refine cf s14 (decide_eq_true_iff) hc1 ?_; refine wp_exit ?_; refine aX ?_; refine aX ?_; refine aP ?_; refine tn hK2 ?_; refine sq fun hK9 => ?_; have hall : l.all br = true := wH hall0 (by omega)
  refine ro [yV _] 1 86 z q ow (
    uq1 rfl rfl rfl <|
    ah) fun fa fw bs hv ap z q ow => ?_
  obtain ⟨s0, s2, s3, s4⟩ := b4 bs s0 s2 s3 s4; have s6 := zh hv 0; refine wt hK9 ?_; refine sq fun hK10 => ?_
  refine rgx [yV _] 1 86 z q ow (
    uq1 rfl rfl rfl <|
    ah) fun fa fw bs hv ap z q ow => ?_
  obtain ⟨s0, s2, s3, s4, s6⟩ := b5 bs s0 s2 s3 s4 s6; have s7 := zh hv 0; refine wp_block ?_; refine bc (fun (k : Nat) fr u => ∃ (va : Value), ∃ (L : List Int), (k ≤ l.length) ∧ (aN (aF (l.take k)) = none) ∧ (L = (aF (l.take k)).map Vl.n) ∧ fr.tmps.size = 86 ∧ fr.defers = [] ∧ Own w [Th.row w.heap.size 2 1 va ((L.map dV).length) (L.map dV), Th.obj gb1 (.cells #[.int .u8 0, .int .i64 0, .string ⟨[].toArray⟩] 25 (0, 0))] u ∧ fr.eval (.tmp 0) = .slice A l.length cap ∧ fr.eval (.tmp 2) = .slice none 0 0 ∧ fr.eval (.tmp 3) = .pointer (some ⟨gb1, 0, none⟩) ∧ fr.eval (.tmp 4) = .bool false ∧ fr.eval (.tmp 6) = va ∧ fr.eval (.tmp 7) = .int .i64 (k : Int)) (fun k => l.length - k) 0 ⟨(.slice none 0 0), [], (Nat.zero_le _), rfl, rfl, z, q, (ow.nil 2 1), s0, s2, s3, s4, s6, s7⟩ (fun k b_ u_ hI => ?_)
  revert b_ u_; intro fa fw hI
  obtain ⟨va, L, hk0, hfe, hL, z, q, ow, s0, s2, s3, s4, s6, s7⟩ := hI; refine sq fun hK12 => ?_
  refine rgx [yV _, yV _, yV _, yV _] 4 86 z q ow (
    um s7 rfl <|
    um s0 rfl <|
    ua (rle Tryz.underlying22 (zd 1)) rfl <|
    ua (rlt (zd 0) (zd 2)) rfl <|
    ah) fun fa fw bs hv ap z q ow => ?_
  obtain ⟨s0, s2, s3, s4, s6, s7⟩ := b6 bs s0 s2 s3 s4 s6 s7; have s27 := zh hv 3
  by_cases hc3 : (k : Int) < ((l.length : Nat) : Int)
  ·refine ct s27 ((decide_eq_true_iff).2 hc3) ?_
   refine wp_skip ?_; refine tn hK12 ?_; refine sq fun hK14 => ?_; refine wp_block ?_; refine sq fun hK15 => ?_; refine sq fun hK16 => ?_; have hltk : k < l.length := by omega
   obtain ⟨a, ha⟩ := bQ hltk; obtain ⟨ba, oa, A1, c1, Aa, ea, r1, l1⟩ := hr.elem ha; have hva := (hs a (List.mem_of_getElem? ha)).1; have hca := (hs a (List.mem_of_getElem? ha)).2; have hal := hla a (List.mem_of_getElem? ha)
   refine ro [yV _, yV _, yV _, yV (.pointer (some ⟨ba, oa + k * 9, none⟩)), yV _, yV _] 6 86 z q ow (
     um s0 rfl <|
     um s7 rfl <|
     ua (rpl 9 Tryz.underlying22 Aa (zd 0) (zd 1) hltk) rfl <|
     ua (rfa (zd 2)) rfl <|
     ua (rck 0 ea ow (zd 3)) rfl <|
     ua (rno (zd 4)) rfl <|
     ah) fun fa fw bs hv ap z q ow => ?_
   obtain ⟨s0, s2, s3, s4, s6, s7⟩ := b6 bs s0 s2 s3 s4 s6 s7; have s35 := zh hv 5; refine wt hK16 ?_
   by_cases hc4 : ¬ (a.w = true)
   ·refine ct s35 ((dX (Iff.rfl)).2 hc4) ?_
    have hw : a.w = false := by simpa using hc4
    refine sq fun hK17 => ?_
    refine ro [yV _, yV _, yV _, yV (.pointer (some ⟨ba, oa + k * 9 + 1, none⟩)), yV (al a.v), yV (al (bB a.v)), bJ fw.heap.size (.cells #[.int .u8 0, .int .i64 0, .string ⟨[].toArray⟩] 25 (0, 0))] 7 86 z q ow (
      um s0 rfl <|
      um s7 rfl <|
      ua (rpl 9 Tryz.underlying22 Aa (zd 0) (zd 1) hltk) rfl <|
      ua (rfa (zd 2)) rfl <|
      ua (rpk 3 1 ea ow (zd 3)) rfl <|
      uc (rc1 (zd 4) fP) (fun hk => sL a.v _ hva.1 (Nat.le_trans hva.2 (by decide))) rfl <|
      uq4 <|
      ah) fun fa fw bs hv ap z q ov => ?_
    obtain ⟨s0, s2, s3, s4, s6, s7⟩ := b6 bs s0 s2 s3 s4 s6 s7; have s41 := zh hv 5; obtain ⟨gb2, s8, bgb2, hgb2⟩ := zn hv 6; have ov := ov.hc ow bgb2 hgb2; have ow := ov; refine ws ow 0 0 s8 s41 fun fw ow => ?_; refine wt hK17 ?_; refine sq fun hK18 => ?_
    refine rgx [yV (.pointer (some ⟨gb2, 0, none⟩)), yV _, yV _] 3 86 z q ow (
      ua (rfa (zt s8)) rfl <|
      ua (rlb ow 0 (zd 0)) rfl <|
      ua (req (zd 1) zc) rfl <|
      ah) fun fa fw bs hv ap z q ow => ?_
    obtain ⟨s0, s2, s3, s4, s6, s7, s8⟩ := b7 bs s0 s2 s3 s4 s6 s7 s8; have s44 := zh hv 2
    by_cases hc5 : ((bB a.v).k : Int) = (4 : Int)
    ·refine ct s44 ((decide_eq_true_iff).2 hc5) ?_
     have herr := vo hc5; refine sq fun hK20 => ?_
     refine ro [yV (al (bB a.v)), yV _] 2 86 z q ow (
       ua (rln 3 ow 0 (zt s8)) rfl <|
       uq1 rfl rfl rfl <|
       ah) fun fa fw bs hv ap z q ow => ?_
     obtain ⟨s0, s3, s4, s6, s7, s8⟩ := b6 bs s0 s3 s4 s6 s7 s8; have s45 := zh hv 0; have s2 := zh hv 1; refine ws ow 2 0 s3 s45 fun fw ow => ?_; refine ae (v := .bool false) (ag rfl) (aq rfl rfl) ?_; refine gp6 z q ow s0 s3 s6 s7 s8 s2 fun fa fw z q ow s0 s3 s6 s7 s8 s2 s4 => ?_; refine wt hK20 ?_; refine wp_ret ?_; refine ao ?_; refine ao ?_; refine aD ?_; refine ao ?_; refine ao ?_; refine aD ?_; refine ao ?_; refine aU (v := .tuple #[.slice none 0 0, al (bB a.v), .bool false]) rfl (.cons (ak s2) (.cons (bo (n := 3) _ s3 (by kernel_rfl) (by kernel_rfl) (ow.box 2 rfl) (Nat.le_of_ble_eq_true rfl) rfl) (.cons (ak s4) .nil))) rfl q ?_; exact ⟨_, _, _, rfl, ow.kept, Or.inl ⟨rfl, rfl, jD hall (Bz hw ha hfe herr)⟩⟩
    refine cf s44 (decide_eq_true_iff) hc5 ?_; have hne := zq hc5; refine wp_skip ?_; refine tn hK18 ?_; refine sq fun hK21 => ?_
    refine ro [yV _, yV (.pointer (some ⟨gb2, 1, none⟩)), yV _, bT fw.heap.size 1 (.cells #[.int .i64 ((bB a.v).n)] 2 (0, 0))] 4 86 z q ow (
      um s6 rfl <|
      ua (rfa (zt s8)) rfl <|
      ua (rlb ow 0 (zd 1)) rfl <|
      arm (fun aa ww hk bs hd => by
        have d2 : aa.eval (.tmp 48) = .int .i64 ((bB a.v).n) := fy hd 2 rfl; exact cZ _ (ag rfl) (bU (us := #[(0, .int .i64 ((bB a.v).n))]) (b := .cells #[.int .i64 ((bB a.v).n)] 2 (0, 0)) rfl (by simp only [List.map_toArray, List.map_cons, List.map_nil, d2]) (by kernel_rfl)) ⟨_, rfl, hk.size, Go.heap_alloc_new _ _⟩ ((Kept.refl _).alloc _) rfl (Nat.le_refl _)
        ) <|
      ah) fun fa fw bs hv ap z q ov => ?_
    obtain ⟨s0, s2, s3, s4, s6, s7⟩ := b6 bs s0 s2 s3 s4 s6 s7; have s46 := zh hv 0; obtain ⟨gb3, s49, bgb3, hgb3⟩ := Ac hv 3 rfl rfl rfl; have ov := ov.hc ow bgb3 hgb3; have ow := ov; refine mf (by_ := 8) (ag rfl) (l := L.map dV) (u := (dV ((bB a.v).n))) rfl Tryz.underlying54 (rh _ _ _ (by kernel_rfl) rfl) s46 s49 (ow.row 2 rfl) (ow.get 0 rfl) rfl (by have := C3 hn hL (by omega); simp only [List.length_map]; omega) (by decide) ow.kept.size (fun vr1 fw1 ho hg hb => ?_); have ow := ow.turn 2 rfl (t' := Th.row w.heap.size 2 1 vr1 ((L.map dV ++ [(dV ((bB a.v).n))]).length) (L.map dV ++ [(dV ((bB a.v).n))])) ho hg (fF hb); clear ho hg hb; refine ae (v := vr1) (ag rfl) (aq rfl (af (t := 50) z rfl)) ?_; refine gt6 (ab (ab z)) (ac (ac q)) ow 0 (pb 6 (pb 50 s0 rfl) rfl) 2 (pb 6 (pb 50 s2 rfl) rfl) 3 (pb 6 (pb 50 s3 rfl) rfl) 4 (pb 6 (pb 50 s4 rfl) rfl) 7 (pb 6 (pb 50 s7 rfl) rfl) 6 (af (t := 6) (ab z) rfl) fun fa fw z q ow s0 s2 s3 s4 s7 s6 => ?_; refine wt hK21 ?_; refine wp_exit ?_; refine aX ?_; refine aP ?_; refine tn hK14 ?_
    refine ro [yV _, yV (.int .i64 ((k + 1 : Nat) : Int))] 2 86 z q ow (
      um s7 rfl <|
      ua (rad (zd 0) zc) rfl <|
      ah) fun fa fw bs hv ap z q ow => ?_
    obtain ⟨s0, s2, s3, s4, s7, s6⟩ := b6 bs s0 s2 s3 s4 s7 s6; have s29 := zh hv 1; refine ae (v := .int .i64 ((k + 1 : Nat) : Int)) (ag rfl) (aq rfl s29) ?_; refine gp5 z q ow s0 s2 s3 s4 s6 fun fa fw z q ow s0 s2 s3 s4 s6 s7 => ?_; refine bp ?_; have hst := CZ hw ha hfe hL hne; have hst1 := hst.1; have hst2 := hst.2; exact bK ⟨(k + 1), ⟨vr1, (L ++ [(bB a.v).n]), hltk, hst1, hst2, z, q, (pz (ow.sub (List.Sublist.cons _ (List.Sublist.cons _ (List.Sublist.cons_cons _ (List.Sublist.cons_cons _ (List.nil_sublist _))))))), s0, s2, s3, s4, s6, s7⟩, (show l.length - (k + 1) < l.length - k by omega)⟩
   refine cf s35 (dX (Iff.rfl)) hc4 ?_; have hw : a.w = true := by simpa using hc4
   refine wp_skip ?_; refine tn hK15 ?_
   refine rgx [yV _] 1 86 z q ow (
     uq1 rfl rfl rfl <|
     ah) fun fa fw bs hv ap z q ow => ?_
   obtain ⟨s0, s2, s3, s4, s6, s7⟩ := b6 bs s0 s2 s3 s4 s6 s7; have s9 := zh hv 0; refine wp_block ?_; refine bc (fun (j : Nat) fr u => ∃ (vb : Value), ∃ (M : List Int), (j ≤ a.l.length) ∧ (aN (aF (l.take k) ++ eE (a.l.take j)) = none) ∧ (M = (aF (l.take k) ++ eE (a.l.take j)).map Vl.n) ∧ fr.tmps.size = 86 ∧ fr.defers = [] ∧ Own w [Th.row w.heap.size 2 1 vb ((M.map dV).length) (M.map dV), Th.obj gb1 (.cells #[.int .u8 0, .int .i64 0, .string ⟨[].toArray⟩] 25 (0, 0))] u ∧ fr.eval (.tmp 0) = .slice A l.length cap ∧ fr.eval (.tmp 2) = .slice none 0 0 ∧ fr.eval (.tmp 3) = .pointer (some ⟨gb1, 0, none⟩) ∧ fr.eval (.tmp 4) = .bool false ∧ fr.eval (.tmp 6) = vb ∧ fr.eval (.tmp 7) = .int .i64 (k : Int) ∧ fr.eval (.tmp 9) = .int .i64 (j : Int)) (fun j => a.l.length - j) 0 ⟨va, L, (Nat.zero_le _), (BF hfe), (yY hL), z, q, (ow.sub (List.Sublist.cons_cons _ (List.Sublist.cons_cons _ (List.nil_sublist _)))), s0, s2, s3, s4, s6, s7, s9⟩ (fun j b_ u_ hI => ?_)
   revert b_ u_; intro fa fw hI
   obtain ⟨vb, M, hj0, hf2, hM, z, q, ow, s0, s2, s3, s4, s6, s7, s9⟩ := hI; refine sq fun hK23 => ?_
   refine rgx [yV _, yV _, yV _, yV _, yV (.pointer (some ⟨ba, oa + k * 9 + 4, none⟩)), yV (.pointer (some ⟨ba, oa + k * 9 + 4 + 4, none⟩)), yV _, yV _, yV _] 9 86 z q ow (
     um s9 rfl <|
     um s0 rfl <|
     um s7 rfl <|
     ua (rpl 9 Tryz.underlying22 Aa (zd 1) (zd 2) hltk) rfl <|
     ua (rfa (zd 3)) rfl <|
     ua (rfa (zd 4)) rfl <|
     ua (rck 8 ea ow (zd 5)) rfl <|
     ua (rle Tryz.underlying35 (zd 6)) rfl <|
     ua (rlt (zd 0) (zd 7)) rfl <|
     ah) fun fa fw bs hv ap z q ow => ?_
   obtain ⟨s0, s2, s3, s4, s6, s7, s9⟩ := b7 bs s0 s2 s3 s4 s6 s7 s9; have s59 := zh hv 8
   by_cases hc6 : (j : Int) < ((a.l.length : Nat) : Int)
   ·refine ct s59 ((decide_eq_true_iff).2 hc6) ?_
    refine wp_skip ?_; refine tn hK23 ?_; refine sq fun hK25 => ?_; refine wp_block ?_; refine sq fun hK26 => ?_; have hltj : j < a.l.length := by omega
    obtain ⟨cl, hcl⟩ := bQ hltj; obtain ⟨bcl, ocl, Acl, ecl⟩ := r1.elem hcl
    refine ro [yV _, yV _, yV _, yV (.pointer (some ⟨ba, oa + k * 9 + 4, none⟩)), yV (.pointer (some ⟨ba, oa + k * 9 + 4 + 4, none⟩)), yV _, yV _, yV _, yV (.pointer (some ⟨bcl, ocl + j * 5 + 2, none⟩)), yV (al cl.v), bJ fw.heap.size (.cells #[.int .u8 0, .int .i64 0, .string ⟨[].toArray⟩] 25 (0, 0))] 11 86 z q ow (
      um s0 rfl <|
      um s7 rfl <|
      ua (rpl 9 Tryz.underlying22 Aa (zd 0) (zd 1) hltk) rfl <|
      ua (rfa (zd 2)) rfl <|
      ua (rfa (zd 3)) rfl <|
      ua (rck 8 ea ow (zd 4)) rfl <|
      um s9 rfl <|
      ua (rpl 5 Tryz.underlying35 Acl (zd 5) (zd 6) hltj) rfl <|
      ua (rfa (zd 7)) rfl <|
      ua (rpk 3 2 ecl ow (zd 8)) rfl <|
      uq4 <|
      ah) fun fa fw bs hv ap z q ov => ?_
    obtain ⟨s0, s2, s3, s4, s6, s7, s9⟩ := b7 bs s0 s2 s3 s4 s6 s7 s9; have s71 := zh hv 9; obtain ⟨gb4, s10, bgb4, hgb4⟩ := zn hv 10; have ov := ov.hc ow bgb4 hgb4; have ow := ov; refine ws ow 0 0 s10 s71 fun fw ow => ?_; refine wt hK26 ?_; refine sq fun hK27 => ?_
    refine rgx [yV (.pointer (some ⟨gb4, 0, none⟩)), yV _, yV _] 3 86 z q ow (
      ua (rfa (zt s10)) rfl <|
      ua (rlb ow 0 (zd 0)) rfl <|
      ua (req (zd 1) zc) rfl <|
      ah) fun fa fw bs hv ap z q ow => ?_
    obtain ⟨s0, s2, s3, s4, s6, s7, s9, s10⟩ := b8 bs s0 s2 s3 s4 s6 s7 s9 s10; have s74 := zh hv 2
    by_cases hc7 : (cl.v.k : Int) = (4 : Int)
    ·refine ct s74 ((decide_eq_true_iff).2 hc7) ?_
     have herr := vo hc7; refine sq fun hK29 => ?_
     refine ro [yV (al cl.v), yV _] 2 86 z q ow (
       ua (rln 3 ow 0 (zt s10)) rfl <|
       uq1 rfl rfl rfl <|
       ah) fun fa fw bs hv ap z q ow => ?_
     obtain ⟨s0, s3, s4, s6, s7, s9, s10⟩ := b7 bs s0 s3 s4 s6 s7 s9 s10; have s75 := zh hv 0; have s2 := zh hv 1; refine ws ow 2 0 s3 s75 fun fw ow => ?_; refine ae (v := .bool false) (ag rfl) (aq rfl rfl) ?_; refine gp7 z q ow s0 s3 s6 s7 s9 s10 s2 fun fa fw z q ow s0 s3 s6 s7 s9 s10 s2 s4 => ?_; refine wt hK29 ?_; refine wp_ret ?_; refine ao ?_; refine aD ?_; refine ao ?_; refine ao ?_; refine aD ?_; refine aD ?_; refine ao ?_; refine ao ?_; refine aD ?_; refine ao ?_; refine aU (v := .tuple #[.slice none 0 0, al cl.v, .bool false]) rfl (.cons (ak s2) (.cons (bo (n := 3) _ s3 (by kernel_rfl) (by kernel_rfl) (ow.box 2 rfl) (Nat.le_of_ble_eq_true rfl) rfl) (.cons (ak s4) .nil))) rfl q ?_; exact ⟨_, _, _, rfl, ow.kept, Or.inl ⟨rfl, rfl, jD hall (BC hw ha hcl hf2 herr)⟩⟩
    refine cf s74 (decide_eq_true_iff) hc7 ?_; have hne := zq hc7; refine wp_skip ?_; refine tn hK27 ?_
    refine rgx [yV (.pointer (some ⟨gb4, 0, none⟩)), yV _, yV _] 3 86 z q ow (
      ua (rfa (zt s10)) rfl <|
      ua (rlb ow 0 (zd 0)) rfl <|
      ua (req (zd 1) zc) rfl <|
      ah) fun fa fw bs hv ap z q ow => ?_
    obtain ⟨s0, s2, s3, s4, s6, s7, s9, s10⟩ := b8 bs s0 s2 s3 s4 s6 s7 s9 s10; have s78 := zh hv 2
    by_cases hc8 : (cl.v.k : Int) = (1 : Int)
    ·refine ct s78 ((decide_eq_true_iff).2 hc8) ?_
     have hk1 := hc8
     refine ro [yV _, yV (.pointer (some ⟨gb4, 1, none⟩)), yV _, bT fw.heap.size 1 (.cells #[.int .i64 cl.v.n] 2 (0, 0))] 4 86 z q ow (
       um s6 rfl <|
       ua (rfa (zt s10)) rfl <|
       ua (rlb ow 0 (zd 1)) rfl <|
       arm (fun aa ww hk bs hd => by
         have d2 : aa.eval (.tmp 81) = .int .i64 cl.v.n := fy hd 2 rfl; exact cZ _ (ag rfl) (bU (us := #[(0, .int .i64 cl.v.n)]) (b := .cells #[.int .i64 cl.v.n] 2 (0, 0)) rfl (by simp only [List.map_toArray, List.map_cons, List.map_nil, d2]) (by kernel_rfl)) ⟨_, rfl, hk.size, Go.heap_alloc_new _ _⟩ ((Kept.refl _).alloc _) rfl (Nat.le_refl _)
         ) <|
       ah) fun fa fw bs hv ap z q ov => ?_
     obtain ⟨s0, s2, s3, s4, s6, s7, s9⟩ := b7 bs s0 s2 s3 s4 s6 s7 s9; have s79 := zh hv 0; obtain ⟨gb5, s82, bgb5, hgb5⟩ := Ac hv 3 rfl rfl rfl; have ov := ov.hc ow bgb5 hgb5; have ow := ov; refine mf (by_ := 8) (ag rfl) (l := M.map dV) (u := (dV cl.v.n)) rfl Tryz.underlying54 (rh _ _ _ (by kernel_rfl) rfl) s79 s82 (ow.row 2 rfl) (ow.get 0 rfl) rfl (by have := BH hn ha hw hM; simp only [List.length_map]; omega) (by decide) ow.kept.size (fun vr2 fw2 ho hg hb => ?_); have ow := ow.turn 2 rfl (t' := Th.row w.heap.size 2 1 vr2 ((M.map dV ++ [(dV cl.v.n)]).length) (M.map dV ++ [(dV cl.v.n)])) ho hg (fF hb); clear ho hg hb; refine ae (v := vr2) (ag rfl) (aq rfl (af (t := 83) z rfl)) ?_; refine gt7 (ab (ab z)) (ac (ac q)) ow 0 (pb 6 (pb 83 s0 rfl) rfl) 2 (pb 6 (pb 83 s2 rfl) rfl) 3 (pb 6 (pb 83 s3 rfl) rfl) 4 (pb 6 (pb 83 s4 rfl) rfl) 7 (pb 6 (pb 83 s7 rfl) rfl) 9 (pb 6 (pb 83 s9 rfl) rfl) 6 (af (t := 6) (ab z) rfl) fun fa fw z q ow s0 s2 s3 s4 s7 s9 s6 => ?_; refine bp ?_; refine bn ?_; refine tn hK25 ?_
     refine ro [yV _, yV (.int .i64 ((j + 1 : Nat) : Int))] 2 86 z q ow (
       um s9 rfl <|
       ua (rad (zd 0) zc) rfl <|
       ah) fun fa fw bs hv ap z q ow => ?_
     obtain ⟨s0, s2, s3, s4, s7, s9, s6⟩ := b7 bs s0 s2 s3 s4 s7 s9 s6; have s61 := zh hv 1; refine ae (v := .int .i64 ((j + 1 : Nat) : Int)) (ag rfl) (aq rfl s61) ?_; refine gp6 z q ow s0 s2 s3 s4 s7 s6 fun fa fw z q ow s0 s2 s3 s4 s7 s6 s9 => ?_; refine bp ?_; have hst := BD hcl hf2 hM hk1; exact bK ⟨(j + 1), ⟨vr2, (M ++ [cl.v.n]), hltj, hst.1, hst.2, z, q, (pz (ow.sub (List.Sublist.cons _ (List.Sublist.cons _ (List.Sublist.cons_cons _ (List.Sublist.cons_cons _ (List.nil_sublist _))))))), s0, s2, s3, s4, s6, s7, s9⟩, (show a.l.length - (j + 1) < a.l.length - j by omega)⟩
    refine cf s78 (decide_eq_true_iff) hc8 ?_; have hk1 := hc8; refine wp_skip ?_; refine bn ?_; refine tn hK25 ?_
    refine ro [yV _, yV (.int .i64 ((j + 1 : Nat) : Int))] 2 86 z q ow (
      um s9 rfl <|
      ua (rad (zd 0) zc) rfl <|
      ah) fun fa fw bs hv ap z q ow => ?_
    obtain ⟨s0, s2, s3, s4, s6, s7, s9⟩ := b7 bs s0 s2 s3 s4 s6 s7 s9; have s61 := zh hv 1; refine ae (v := .int .i64 ((j + 1 : Nat) : Int)) (ag rfl) (aq rfl s61) ?_; refine gp6 z q ow s0 s2 s3 s4 s6 s7 fun fa fw z q ow s0 s2 s3 s4 s6 s7 s9 => ?_; refine bp ?_; have hst := C0 hcl hf2 hM hne hk1; exact bK ⟨(j + 1), ⟨vb, M, hltj, hst.1, hst.2, z, q, (ow.sub (List.Sublist.cons _ (List.Sublist.cons_cons _ (List.Sublist.cons_cons _ (List.nil_sublist _))))), s0, s2, s3, s4, s6, s7, s9⟩, (show a.l.length - (j + 1) < a.l.length - j by omega)⟩
   refine cf s59 (decide_eq_true_iff) hc6 ?_; refine wp_exit ?_; refine aX ?_; refine aX ?_; refine aP ?_; refine bn ?_; refine tn hK14 ?_
   refine ro [yV _, yV (.int .i64 ((k + 1 : Nat) : Int))] 2 86 z q ow (
     um s7 rfl <|
     ua (rad (zd 0) zc) rfl <|
     ah) fun fa fw bs hv ap z q ow => ?_
   obtain ⟨s0, s2, s3, s4, s6, s7⟩ := b6 bs s0 s2 s3 s4 s6 s7; have s29 := zh hv 1; refine ae (v := .int .i64 ((k + 1 : Nat) : Int)) (ag rfl) (aq rfl s29) ?_; refine gp5 z q ow s0 s2 s3 s4 s6 fun fa fw z q ow s0 s2 s3 s4 s6 s7 => ?_; refine bp ?_; have hst := BE hw ha hf2 hM (by omega); have hst1 := hst.1; have hst2 := hst.2; exact bK ⟨(k + 1), ⟨vb, M, hltk, hst1, hst2, z, q, (ow.sub (List.Sublist.cons_cons _ (List.Sublist.cons_cons _ (List.nil_sublist _)))), s0, s2, s3, s4, s6, s7⟩, (show l.length - (k + 1) < l.length - k by omega)⟩
  refine cf s27 (decide_eq_true_iff) hc3 ?_; refine wp_exit ?_; refine aX ?_; refine aX ?_; refine aP ?_; refine tn hK10 ?_; refine sq fun hK31 => ?_
  refine ro [yV _, yV (al (⟨0, 0, []⟩ : Vl)), yV _] 3 86 z q ow (
    um s6 rfl <|
    aS (fun hk bs hd => bP (us := #[]) rfl (by simp) (by kernel_rfl)) rfl <|
    uq3 0 rfl rfl <|
    ah) fun fa fw bs hv ap z q ow => ?_
  obtain ⟨s3, s4⟩ := b2 bs s3 s4; have s85 := zh hv 1; have s2 := zh hv 2; refine ws ow 1 0 s3 s85 fun fw ow => ?_; refine ae (v := .bool true) (ag rfl) (aq rfl rfl) ?_; refine gp2 z q ow s3 s2 fun fa fw z q ow s3 s2 s4 => ?_; refine wt hK31 ?_; refine wp_ret ?_; refine aU (v := .tuple #[va, al (⟨0, 0, []⟩ : Vl), .bool true]) rfl (.cons (ak s2) (.cons (bo (n := 3) _ s3 (by kernel_rfl) (by kernel_rfl) (ow.box 1 rfl) (Nat.le_of_ble_eq_true rfl) rfl) (.cons (ak s4) .nil))) rfl q ?_; have hfin := BG hfe hL (by omega); exact ⟨_, _, _, rfl, ow.kept, Or.inr ⟨rfl, L, pn hall hfin.1 hfin.2, xd (ow.row 0 rfl)⟩⟩
