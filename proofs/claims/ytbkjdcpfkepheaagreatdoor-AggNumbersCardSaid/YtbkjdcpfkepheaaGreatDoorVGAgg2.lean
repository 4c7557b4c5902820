/- Layer 16: the program's functions, first part (printed by wip/mkagg2.py). -/
import Derived.Test.YtbkjdcpfkepheaaGreatDoorVGAgg1
import Derived.Test.YtbkjdcpfkepheaaGreatDoorVBunV
import Derived.Test.YtbkjdcpfkepheaaGreatDoorVMixAO
set_option maxHeartbeats 4000000
namespace Go.Proofs.YtbkjdcpfkepheaaGreatDoor
section
set_option linter.unusedVariables false
set_option linter.unusedSimpArgs false
open Go.RowKit Lv
set_option maxRecDepth 100000
theorem kO : Small aG := ⟨⟨by decide, by decide⟩, Nat.zero_le _⟩
theorem Cf {a : Act} {w : World} {o : Oper} {T2 : TypeId} {x y : Operand} (ho : o.op = .binOp .eql 44 x y T2) {c r d s : Int} (hx : a.eval x = .agg #[.int .i64 c, .int .i64 r]) (hy : a.eval y = .agg #[.int .i64 d, .int .i64 s]) : (execOp a.eval o).run Tryz.prog w = .ok (.value (.bool (decide (c = d ∧ r = s)))) w := by
  unfold execOp; rw [ho]
  simp only [hx, hy]
  go_simp
  by_cases h1 : c = d <;> by_cases h2 : r = s <;> simp [h1, h2]
theorem Ai {a : Act} {w : World} {o : Oper} {T2 : TypeId} {x y : Operand} (ho : o.op = .binOp .eql 34 x y T2) {u v : Rc} (hx : a.eval x = .agg #[.int .i64 u.c1, .int .i64 u.r1, .int .i64 u.c2, .int .i64 u.r2]) (hy : a.eval y = .agg #[.int .i64 v.c1, .int .i64 v.r1, .int .i64 v.c2, .int .i64 v.r2]) : (execOp a.eval o).run Tryz.prog w = .ok (.value (.bool (decide (u = v)))) w := by
  unfold execOp; rw [ho]
  simp only [hx, hy]
  obtain ⟨a1, a2, a3, a4⟩ := u; obtain ⟨b1, b2, b3, b4⟩ := v
  go_simp
  by_cases h1 : a1 = b1 <;> by_cases h2 : a2 = b2 <;> by_cases h3 : a3 = b3 <;> by_cases h4 : a4 = b4 <;> simp [h1, h2, h3, h4]
theorem yb {l : List Cl} {k : Nat} {c r : Int} {p : Cl} (h : l[k]? = some p) (hno : ∀ j, j < k → ∀ q, l[j]? = some q → ¬ (q.c = c ∧ q.r = r)) (e : p.c = c ∧ p.r = r) : vp l c r = p.v := by
  unfold vp
  have : l.find? (fun p => decide (p.c = c ∧ p.r = r)) = some p := by
    obtain ⟨hk, ek⟩ := List.getElem?_eq_some_iff.1 h; rw [List.find?_eq_some_iff_getElem]; refine ⟨by simpa using e, k, hk, ek, fun j hj => ?_⟩; have := hno j hj _ (List.getElem?_eq_getElem (by omega)); rw [decide_eq_false this]
    rfl
  rw [this]
theorem Aj {l : List Cl} {c r : Int} (hno : ∀ j, j < l.length → ∀ q, l[j]? = some q → ¬ (q.c = c ∧ q.r = r)) : vp l c r = aG := by
  unfold vp
  have : l.find? (fun p => decide (p.c = c ∧ p.r = r)) = none := by
    rw [List.find?_eq_none]; intro p hp; obtain ⟨j, hj, e⟩ := List.getElem_of_mem hp; have := hno j hj p (by rw [List.getElem?_eq_getElem hj, e])
    simpa using this
  rw [this]
theorem qi {α : Type} {l : List α} {k : Nat} {p : α} {P : α → Prop} (h : ∀ j, j < k → ∀ q, l[j]? = some q → P q) (hp : l[k]? = some p) (hn : P p) : ∀ j, j < k + 1 → ∀ q, l[j]? = some q → P q := fun j hj q hq => by
  rcases Nat.lt_succ_iff_lt_or_eq.1 hj with c | rfl
  · exact h j c q hq
  · rw [hp] at hq; cases hq; exact hn
def Ak (x : Rc) (l : List Cl) (v : Vl) : Vl := aK (((if bE aG v then ck x - l.length else 0) + (l.filter fun c => bE c.v v).length) * 10000)
def qj (x : Rc) (l : List Cl) (v : Vl) : Vl := if cu x v (bE aG v) 0 l = 0 then aW 4 else aK (cu x v (bE aG v) 0 l * 10000)
theorem Al {b : Bool} {n : Int} (h : b = true) : n = if b then n else 0 := by rw [h]; rfl
theorem Cg {b : Bool} {n : Int} (h : b = false) : 0 = if b then n else 0 := by rw [h]; rfl
theorem gn {α : Type} (l : List α) (k : Nat) (p : α → Bool) : ((l.take k).filter p).length ≤ k := Nat.le_trans (List.length_filter_le _ _) (by rw [List.length_take]; omega)
theorem vy {α : Type} {l : List α} {k : Nat} {p : α → Bool} {c : α} {n n0 : Int} (hn : n = n0 + (((l.take k).filter p).length : Int)) (hc : l[k]? = some c) (h : p c = true) : n + 1 = n0 + (((l.take (k + 1)).filter p).length : Int) := by
  rw [eT hc, List.filter_append, List.length_append, hn, List.filter_cons_of_pos h]
  simp only [List.filter_nil, List.length_cons, List.length_nil]
  omega
theorem zr {α : Type} {l : List α} {k : Nat} {p : α → Bool} {c : α} {n n0 : Int} (hn : n = n0 + (((l.take k).filter p).length : Int)) (hc : l[k]? = some c) (h : p c = false) : n = n0 + (((l.take (k + 1)).filter p).length : Int) := by
  rw [eT hc, List.filter_append, List.length_append, hn, List.filter_cons_of_neg (by rw [h]; decide)]
  simp
theorem qk {α : Type} {l : List α} {k : Nat} {p : α → Bool} {n n0 : Int} (hn : n = n0 + (((l.take k).filter p).length : Int)) (hk : l.length ≤ k) : n = n0 + ((l.filter p).length : Int) := by rwa [List.take_of_length_le hk] at hn
theorem vz {x : Rc} {c r : Int} (ho : okR x = true) (h : gU x c r = true) : 0 ≤ cJ x c r ∧ cJ x c r < 1048576 := by
  have h1 := vq h; obtain ⟨⟨o1, o2, o3⟩, o4, o5, o6⟩ := jx.1 ho; have := mj (a := cd x) (b := dw x) (by unfold cd; omega) (by unfold cd; omega) (by unfold dw; omega) (by unfold dw; omega)
  omega
theorem vA {x : Rc} {v : Vl} {b : Bool} {n : Int} {l : List Cl} {k : Nat} {c : Cl} (h : l[k]? = some c) (g : b = true ∧ n < cJ x c.c c.r) : cu x v b n (l.drop k) = n + 1 := by
  rw [dJ h, cu, if_pos g]
theorem vB {x : Rc} {v : Vl} {b : Bool} {n : Int} {l : List Cl} {k : Nat} {c : Cl} (h : l[k]? = some c) (g : ¬ (b = true ∧ n < cJ x c.c c.r)) (e : bE c.v v = true) : cu x v b n (l.drop k) = cJ x c.c c.r + 1 := by
  rw [dJ h, cu, if_neg g, if_pos e]
theorem yc {x : Rc} {v : Vl} {b : Bool} {n : Int} {l : List Cl} {k : Nat} {c : Cl} (h : l[k]? = some c) (g : ¬ (b = true ∧ n < cJ x c.c c.r)) (e : bE c.v v = false) : cu x v b n (l.drop k) = cu x v b (cJ x c.c c.r + 1) (l.drop (k + 1)) := by
  rw [dJ h, cu, if_neg g, if_neg (by rw [e]; decide)]
theorem vC {x : Rc} {v : Vl} {b : Bool} {n : Int} {l : List Cl} {k : Nat} (h : l.length ≤ k) (g : b = true ∧ n < ck x) : cu x v b n (l.drop k) = n + 1 := by
  rw [List.drop_eq_nil_of_le h, cu, if_pos g]
theorem vD {x : Rc} {v : Vl} {b : Bool} {n : Int} {l : List Cl} {k : Nat} (h : l.length ≤ k) (g : ¬ (b = true ∧ n < ck x)) : cu x v b n (l.drop k) = 0 := by
  rw [List.drop_eq_nil_of_le h, cu, if_neg g]
theorem vE {x : Rc} {l : List Cl} {v : Vl} {n : Int} (h : cu x v (bE aG v) 0 l = n) (h0 : n ≠ 0) : aK (n * 10000) = qj x l v := by
  unfold qj; rw [h, if_neg h0]
theorem Ch {x : Rc} {l : List Cl} {v : Vl} (h : cu x v (bE aG v) 0 l = 0) : aW 4 = qj x l v := by
  unfold qj; rw [h, if_pos rfl]
theorem mO {x : Rc} : 0 ≤ ck x ∧ ck x ≤ 1048576 := by
  unfold ck
  split
  · rename_i h
    obtain ⟨⟨o1, o2, o3⟩, o4, o5, o6⟩ := jx.1 h; exact mj (a := cd x) (b := dw x) (by unfold cd; omega) (by unfold cd; omega) (by unfold dw; omega) (by unfold dw; omega)
  · omega
theorem eM : En 104 := by intro args w; go_simp
theorem gp : En 62 := by intro args w; go_simp
theorem iu : En 105 := by intro args w; go_simp
theorem cC : En 106 := by intro args w; go_simp
theorem lF : En 19 := by intro args w; go_simp
theorem cD : En 56 := by intro args w; go_simp
theorem cS : En 103 := by intro args w; go_simp
theorem gK (a b : Vl) (w : World) (ha : Small a) (hb : Small b) :
    Calls Tryz.prog 104 #[al a, al b] w fun e w' => e = .returned (.bool (bE a b)) ∧ Kept w w' := by
  go_enter Tryz.func104, Tryz.ntmps104
  refine rgx [bJ w.heap.size (.cells #[.int .u8 a.k, .int .i64 a.n, .string ⟨a.t.toArray⟩] 25 (0, 0)), bJ w.heap.size (.cells #[.int .u8 b.k, .int .i64 b.n, .string ⟨b.t.toArray⟩] 25 (0, 0)), yV _] 3 19 rfl rfl (Own.start w) (
    ux (t := 0) rfl <|
    ux (t := 1) rfl <|
    uq1 rfl rfl rfl <|
    ah) fun fa fw bs hv ap z q ov => ?_
  obtain ⟨gb1, s2, bgb1, hgb1⟩ := zn hv 0; have ov := ov.hc (Own.start w) bgb1 hgb1; obtain ⟨gb2, s3, bgb2, hgb2⟩ := zn hv 1; have ov := ov.cons hgb2 (Nat.le_trans (Own.start w).kept.size bgb2) (bG (cr ap 0 1 rfl rfl rfl s2 rfl s3 rfl) ((Own.start w).below bgb2)); have s4 := zh hv 2; have ow := ov
  refine rgx [yV (al a), yV (al b), yV (.tuple #[.int .i64 ((xk a b).1), .int .i64 ((xk a b).2)]), yV _, yV _, yV _, yV _, yV _] 8 19 z q ow (
    ua (rln 3 ow 1 (zt s2)) rfl <|
    ua (rln 3 ow 0 (zt s3)) rfl <|
    uc (rc2 (zd 0) (zd 1) lF) (fun hk => nY a b _ ha.1 hb.1 (Nat.le_trans ha.2 (by decide)) (Nat.le_trans hb.2 (by decide))) rfl <|
    uq2 2 rfl rfl <|
    ua (rex (zd 3)) rfl <|
    ua (rex (zd 3)) rfl <|
    uq3 4 rfl rfl <|
    uq3 5 rfl rfl <|
    ah) fun fa fw bs hv ap z q ow => ?_
  have s4 := bg bs s4; have s5 := zh hv 6; have s6 := zh hv 7
  refine rgx [yV _, yV _, yV _, yIf _ (yV _), yIf _ (yV _), yV _, yV _] 7 19 z q ow (
    um s6 rfl <|
    ua (req (zd 0) zc) rfl <|
    uq2 1 rfl rfl <|
    ui (gd1 2) (rmo (zt s5)) rfl <|
    ui (gd1 2) (req (zi 3) zc) rfl <|
    ua (ran (zd 2) (zi 4)) rfl <|
    uq3 5 rfl rfl <|
    ah) fun fa fw bs hv ap z q ow => ?_
  have s4 := zh hv 6; refine wp_ret ?_; refine am rfl (ak s4) q ?_; exact ⟨(congrArg (fun b => Ending.returned (.bool b)) (show _ = bE a b by rfl)), ow.kept⟩
theorem dn (n : Int) (w : World) (h1 : -900000000000000 ≤ n) (h2 : n ≤ 900000000000000) :
    Calls Tryz.prog 106 #[.int .i64 n] w fun e w' => e = .returned (al (aK (n * 10000))) ∧ Kept w w' := by
  go_enter Tryz.func106, Tryz.ntmps106
  refine rgx [bJ w.heap.size (.cells #[.int .u8 0, .int .i64 0, .string ⟨[].toArray⟩] 25 (0, 0))] 1 6 rfl rfl (Own.start w) (
    uq4 <|
    ah) fun fa fw bs hv ap z q ov => ?_
  have s0 := bs.get 0 rfl rfl; obtain ⟨gb1, s2, bgb1, hgb1⟩ := zn hv 0; have ov := ov.hc (Own.start w) bgb1 hgb1; have ow := ov; refine sq fun hK2 => ?_
  refine ro [yV _, yV _, yV (al (aK (n * 10000)))] 3 6 z q ow (
    um s0 rfl <|
    aS (fun hk bs hd => B8 (Or.inr rfl) rfl (dp hd 0 rfl) rfl (by omega) (by omega)) rfl <|
    uc (rc1 (zd 1) cS) (fun hk => cY (n * 10000) _ (by omega) (by omega)) rfl <|
    ah) fun fa fw bs hv ap z q ow => ?_
  have s2 := bg bs s2; have s5 := zh hv 2; refine ws ow 0 0 s2 s5 fun fw ow => ?_; refine wt hK2 ?_; refine wp_ret ?_; refine rs3 s2 (ow.box 0 rfl) q ?_; exact ⟨rfl, ow.kept⟩
theorem iv (n : Int) (b : Bool) (w : World) (hn : b = true → i64 n) :
    Calls Tryz.prog 131 #[.int .i64 n, .bool b] w fun e w' => e = .returned (al (mL (n, b))) ∧ Kept w w' := by
  go_enter Tryz.func131, Tryz.ntmps131
  refine rgx [bJ w.heap.size (.cells #[.int .u8 0, .int .i64 0, .string ⟨[].toArray⟩] 25 (0, 0))] 1 10 rfl rfl (Own.start w) (
    uq4 <|
    ah) fun fa fw bs hv ap z q ov => ?_
  have s0 := bs.get 0 rfl rfl; have s1 := bs.get 1 rfl rfl; obtain ⟨gb1, s4, bgb1, hgb1⟩ := zn hv 0; have ov := ov.hc (Own.start w) bgb1 hgb1; have ow := ov; refine sq fun hK2 => ?_
  refine rgx [yV _, yV _] 2 10 z q ow (
    um s1 rfl <|
    ua (rno (zd 0)) rfl <|
    ah) fun fa fw bs hv ap z q ow => ?_
  obtain ⟨s0, s4⟩ := b2 bs s0 s4; have s6 := zh hv 1
  by_cases hc1 : ¬ (b = true)
  ·refine ct s6 ((dX (Iff.rfl)).2 hc1) ?_
   have hb : b = false := by simpa using hc1
   refine sq fun hK4 => ?_
   refine ro [yV (al (aW 3))] 1 10 z q ow (
     uc (rc1 zc cD) (fun hk => cj 3 _) rfl <|
     ah) fun fa fw bs hv ap z q ow => ?_
   obtain ⟨s0, s4⟩ := b2 bs s0 s4; have s7 := zh hv 0; refine ws ow 0 0 s4 s7 fun fw ow => ?_; refine wt hK4 ?_; refine wp_ret ?_; refine ao ?_; refine rs3 s4 (ow.box 0 rfl) q ?_; exact ⟨congrArg (fun v => Ending.returned (al v)) (show _ = mL (n, b) by unfold mL; rw [hb]; rfl), ow.kept⟩
  refine cf s6 (dX (Iff.rfl)) hc1 ?_; have hb : b = true := by simpa using hc1
  refine wp_skip ?_; refine tn hK2 ?_; refine sq fun hK5 => ?_
  refine ro [yV _, yV (al (aK n))] 2 10 z q ow (
    um s0 rfl <|
    uc (rc1 (zd 0) cS) (fun hk => cY n _ (hn hb).1 (hn hb).2) rfl <|
    ah) fun fa fw bs hv ap z q ow => ?_
  have s4 := bg bs s4; have s9 := zh hv 1; refine ws ow 0 0 s4 s9 fun fw ow => ?_; refine wt hK5 ?_; refine wp_ret ?_; refine rs3 s4 (ow.box 0 rfl) q ?_; exact ⟨congrArg (fun v => Ending.returned (al v)) (show _ = mL (n, b) by unfold mL; rw [hb]; rfl), ow.kept⟩
theorem vF (x : Rc) (l : List Cl) (A : Option Addr) (cap : Nat) (c r : Int) (w : World) (hr : RowK 5 clV w A l) (hl : l.length ≤ 1000000) :
    Calls Tryz.prog 107 #[.agg #[.int .i64 x.c1, .int .i64 x.r1, .int .i64 x.c2, .int .i64 x.r2, .slice A l.length cap], .agg #[.int .i64 c, .int .i64 r]] w fun e w' => e = .returned (al (vp l c r)) ∧ Kept w w' := by
  go_enter Tryz.func107, Tryz.ntmps107
  refine rgx [bJ w.heap.size (.cells #[.int .i64 x.c1, .int .i64 x.r1, .int .i64 x.c2, .int .i64 x.r2, .slice A l.length cap] 37 (0, 0)), bJ w.heap.size (.cells #[.int .i64 c, .int .i64 r] 44 (0, 0)), bJ w.heap.size (.cells #[.int .u8 0, .int .i64 0, .string ⟨[].toArray⟩] 25 (0, 0))] 3 22 rfl rfl (Own.start w) (
    ux (t := 0) rfl <|
    ux (t := 1) rfl <|
    uq4 <|
    ah) fun fa fw bs hv ap z q ov => ?_
  obtain ⟨gb1, s2, bgb1, hgb1⟩ := zn hv 0; have ov := ov.hc (Own.start w) bgb1 hgb1; obtain ⟨gb2, s3, bgb2, hgb2⟩ := zn hv 1; have ov := ov.cons hgb2 (Nat.le_trans (Own.start w).kept.size bgb2) (bG (cr ap 0 1 rfl rfl rfl s2 rfl s3 rfl) ((Own.start w).below bgb2)); obtain ⟨gb3, s4, bgb3, hgb3⟩ := zn hv 2; have ov := ov.cons hgb3 (Nat.le_trans (Own.start w).kept.size bgb3) (bG (cr ap 1 2 rfl rfl rfl s3 rfl s4 rfl) (bG (cr ap 0 2 rfl rfl rfl s2 rfl s4 rfl) ((Own.start w).below bgb3))); have ow := ov; refine sq fun hK2 => ?_
  refine rgx [yV (.pointer (some ⟨gb1, 4, none⟩)), yV _, yV _, yV _] 4 22 z q ow (
    ua (rfa (zt s2)) rfl <|
    ua (rlb ow 2 (zd 0)) rfl <|
    ua (rle Tryz.underlying35 (zd 1)) rfl <|
    ua (rmo zc) rfl <|
    ah) fun fa fw bs hv ap z q ow => ?_
  obtain ⟨s3, s4⟩ := b2 bs s3 s4; have s8 := zh hv 1; have s9 := zh hv 2; have s10 := zh hv 3; refine wp_block ?_; refine bc (fun (k : Nat) fr u => (k ≤ l.length) ∧ (∀ j, j < k → ∀ q, l[j]? = some q → ¬ (q.c = c ∧ q.r = r)) ∧ fr.tmps.size = 22 ∧ fr.defers = [] ∧ Own w [Th.obj gb3 (.cells #[.int .u8 0, .int .i64 0, .string ⟨[].toArray⟩] 25 (0, 0)), Th.obj gb2 (.cells #[.int .i64 c, .int .i64 r] 44 (0, 0)), Th.obj gb1 (.cells #[.int .i64 x.c1, .int .i64 x.r1, .int .i64 x.c2, .int .i64 x.r2, .slice A l.length cap] 37 (0, 0))] u ∧ fr.eval (.tmp 3) = .pointer (some ⟨gb2, 0, none⟩) ∧ fr.eval (.tmp 4) = .pointer (some ⟨gb3, 0, none⟩) ∧ fr.eval (.tmp 8) = .slice A l.length cap ∧ fr.eval (.tmp 9) = .int .i64 ((l.length : Nat) : Int) ∧ fr.eval (.tmp 10) = .int .i64 (k : Int)) (fun k => l.length - k) 0 ⟨(Nat.zero_le _), (fun j hj => absurd hj (Nat.not_lt_zero j)), z, q, ow, s3, s4, s8, s9, s10⟩ (fun k b_ u_ hI => ?_)
  revert b_ u_; intro fa fw hI
  obtain ⟨hk0, hno, z, q, ow, s3, s4, s8, s9, s10⟩ := hI
  refine rgx [yV _] 1 22 z q ow (
    ua (rlt (zt s10) (zt s9)) rfl <|
    ah) fun fa fw bs hv ap z q ow => ?_
  obtain ⟨s3, s4, s8, s9, s10⟩ := b5 bs s3 s4 s8 s9 s10; have s11 := zh hv 0; refine sq fun hK5 => ?_
  by_cases hc1 : (k : Int) < ((l.length : Nat) : Int)
  ·refine ct s11 ((decide_eq_true_iff).2 hc1) ?_
   refine wp_skip ?_; refine tn hK5 ?_; refine sq fun hK6 => ?_; refine wp_block ?_; refine sq fun hK7 => ?_; have hltk : k < l.length := by omega
   obtain ⟨cl, hcl⟩ := bQ hltk; obtain ⟨bcl, ocl, Acl, ecl⟩ := hr.elem hcl
   refine ro [yV _, yV (.agg #[.int .i64 cl.c, .int .i64 cl.r, .int .u8 cl.v.k, .int .i64 cl.v.n, .string ⟨cl.v.t.toArray⟩]), bJ fw.heap.size (.cells #[.int .i64 0, .int .i64 0, .int .u8 0, .int .i64 0, .string ⟨[].toArray⟩] 46 (0, 0))] 3 22 z q ow (
     ua (rpl 5 Tryz.underlying35 Acl (zt s8) (zt s10) hltk) rfl <|
     ua (rpk 5 0 ecl ow (zd 0)) rfl <|
     uq4 <|
     ah) fun fa fw bs hv ap z q ov => ?_
   obtain ⟨s3, s4, s8, s9, s10⟩ := b5 bs s3 s4 s8 s9 s10; have s13 := zh hv 1; obtain ⟨gb4, s6, bgb4, hgb4⟩ := zn hv 2; have ov := ov.hc ow bgb4 hgb4; have ow := ov; refine ws ow 0 0 s6 s13 fun fw ow => ?_; refine wt hK7 ?_
   refine rgx [yV (.pointer (some ⟨gb4, 0, none⟩)), yV (.agg #[.int .i64 cl.c, .int .i64 cl.r]), yV (.agg #[.int .i64 c, .int .i64 r]), yV _] 4 22 z q ow (
     ua (rfa (zt s6)) rfl <|
     ua (rln 2 ow 0 (zd 0)) rfl <|
     ua (rln 2 ow 2 (zt s3)) rfl <|
     aS (fun hk bs hd => Cf rfl (dp hd 1 rfl) (dp hd 2 rfl)) rfl <|
     ah) fun fa fw bs hv ap z q ow => ?_
   obtain ⟨s3, s4, s8, s9, s10, s6⟩ := b6 bs s3 s4 s8 s9 s10 s6; have s17 := zh hv 3
   by_cases hc2 : cl.c = c ∧ cl.r = r
   ·refine ct s17 ((decide_eq_true_iff).2 hc2) ?_
    refine sq fun hK9 => ?_
    refine ro [yV (.pointer (some ⟨gb4, 2, none⟩)), yV (al cl.v)] 2 22 z q ow (
      ua (rfa (zt s6)) rfl <|
      ua (rln 3 ow 0 (zd 0)) rfl <|
      ah) fun fa fw bs hv ap z q ow => ?_
    obtain ⟨s3, s4, s8, s9, s10⟩ := b5 bs s3 s4 s8 s9 s10; have s19 := zh hv 1; refine ws ow 1 0 s4 s19 fun fw ow => ?_; refine wt hK9 ?_; refine wp_ret ?_; refine aD ?_; refine ao ?_; refine ao ?_; refine aD ?_; refine ao ?_; refine rs3 s4 (ow.box 1 rfl) q ?_; exact ⟨congrArg (fun v => Ending.returned (al v)) ((yb hcl hno hc2).symm), ow.kept⟩
   refine cf s17 (decide_eq_true_iff) hc2 ?_; have hne := hc2; refine wp_skip ?_; refine bn ?_; refine tn hK6 ?_
   refine ro [yV (.int .i64 ((k + 1 : Nat) : Int))] 1 22 z q ow (
     ua (rad (zt s10) zc) rfl <|
     ah) fun fa fw bs hv ap z q ow => ?_
   obtain ⟨s3, s4, s8, s9, s10⟩ := b5 bs s3 s4 s8 s9 s10; have s20 := zh hv 0; refine ae (v := .int .i64 ((k + 1 : Nat) : Int)) (ag rfl) (ce rfl s20) ?_; refine gp4 z q ow s3 s4 s8 s9 fun fa fw z q ow s3 s4 s8 s9 s10 => ?_; refine bp ?_; exact bK ⟨(k + 1), ⟨hltk, (qi hno hcl hne), z, q, ow.tail, s3, s4, s8, s9, s10⟩, (show l.length - (k + 1) < l.length - k by omega)⟩
  refine cf s11 (decide_eq_true_iff) hc1 ?_; refine wp_exit ?_; refine aX ?_; refine aX ?_; refine aP ?_; refine tn hK2 ?_; refine sq fun hK10 => ?_
  refine ro [yV (al (⟨0, 0, []⟩ : Vl))] 1 22 z q ow (
    aS (fun hk bs hd => bP (us := #[]) rfl (by simp) (by kernel_rfl)) rfl <|
    ah) fun fa fw bs hv ap z q ow => ?_
  have s4 := bg bs s4; have s21 := zh hv 0; refine ws ow 0 0 s4 s21 fun fw ow => ?_; refine wt hK10 ?_; refine wp_ret ?_; refine rs3 s4 (ow.box 0 rfl) q ?_; exact ⟨congrArg (fun v => Ending.returned (al v)) ((Aj (fun j hj => hno j (by omega))).symm), ow.kept⟩
theorem oD (x : Rc) (l : List Cl) (A : Option Addr) (cap : Nat) (v : Vl) (w : World) (hr : RowK 5 clV w A l) (hl : l.length ≤ 1000000) (hsv : Small v) (hs : ∀ c ∈ l, Small c.v) :
    Calls Tryz.prog 65 #[.agg #[.int .i64 x.c1, .int .i64 x.r1, .int .i64 x.c2, .int .i64 x.r2, .slice A l.length cap], al v] w fun e w' => e = .returned (al (Ak x l v)) ∧ Kept w w' := by
  have sz := mO (x := x); go_enter Tryz.func65, Tryz.ntmps65
  refine rgx [bJ w.heap.size (.cells #[.int .i64 x.c1, .int .i64 x.r1, .int .i64 x.c2, .int .i64 x.r2, .slice A l.length cap] 37 (0, 0)), bJ w.heap.size (.cells #[.int .u8 v.k, .int .i64 v.n, .string ⟨v.t.toArray⟩] 25 (0, 0)), bJ w.heap.size (.cells #[.int .u8 0, .int .i64 0, .string ⟨[].toArray⟩] 25 (0, 0))] 3 33 rfl rfl (Own.start w) (
    ux (t := 0) rfl <|
    ux (t := 1) rfl <|
    uq4 <|
    ah) fun fa fw bs hv ap z q ov => ?_
  obtain ⟨gb1, s2, bgb1, hgb1⟩ := zn hv 0; have ov := ov.hc (Own.start w) bgb1 hgb1; obtain ⟨gb2, s3, bgb2, hgb2⟩ := zn hv 1; have ov := ov.cons hgb2 (Nat.le_trans (Own.start w).kept.size bgb2) (bG (cr ap 0 1 rfl rfl rfl s2 rfl s3 rfl) ((Own.start w).below bgb2)); obtain ⟨gb3, s4, bgb3, hgb3⟩ := zn hv 2; have ov := ov.cons hgb3 (Nat.le_trans (Own.start w).kept.size bgb3) (bG (cr ap 1 2 rfl rfl rfl s3 rfl s4 rfl) (bG (cr ap 0 2 rfl rfl rfl s2 rfl s4 rfl) ((Own.start w).below bgb3))); have ow := ov
  refine rgx [yV _] 1 33 z q ow (
    uq1 rfl rfl rfl <|
    ah) fun fa fw bs hv ap z q ow => ?_
  obtain ⟨s2, s3, s4⟩ := b3 bs s2 s3 s4; have s5 := zh hv 0; refine zV (fun fr u => ∃ (n0 : Int), (n0 = if bE aG v then ck x - l.length else 0) ∧ fr.tmps.size = 33 ∧ fr.defers = [] ∧ Own w [Th.obj gb3 (.cells #[.int .u8 0, .int .i64 0, .string ⟨[].toArray⟩] 25 (0, 0)), Th.obj gb2 (.cells #[.int .u8 v.k, .int .i64 v.n, .string ⟨v.t.toArray⟩] 25 (0, 0)), Th.obj gb1 (.cells #[.int .i64 x.c1, .int .i64 x.r1, .int .i64 x.c2, .int .i64 x.r2, .slice A l.length cap] 37 (0, 0))] u ∧ fr.eval (.tmp 2) = .pointer (some ⟨gb1, 0, none⟩) ∧ fr.eval (.tmp 3) = .pointer (some ⟨gb2, 0, none⟩) ∧ fr.eval (.tmp 4) = .pointer (some ⟨gb3, 0, none⟩) ∧ fr.eval (.tmp 5) = .int .i64 n0) ?_ ?_
  ·skip
   refine rgx [yV (al (⟨0, 0, []⟩ : Vl)), yV (al v), yV (.bool (bE (⟨0, 0, []⟩ : Vl) v))] 3 33 z q ow (
     aS (fun hk bs hd => bP (us := #[]) rfl (by simp) (by kernel_rfl)) rfl <|
     ua (rln 3 ow 1 (zt s3)) rfl <|
     uc (rc2 (zd 0) (zd 1) eM) (fun hk => gK (⟨0, 0, []⟩ : Vl) v _ kO hsv) rfl <|
     ah) fun fa fw bs hv ap z q ow => ?_
   obtain ⟨s2, s3, s4, s5⟩ := b4 bs s2 s3 s4 s5; have s10 := zh hv 2
   by_cases hc1 : (bE (⟨0, 0, []⟩ : Vl) v) = true
   ·refine ct s10 ((Iff.rfl).2 hc1) ?_
    have hbl : bE aG v = true := hc1
    refine ro [yV (.agg #[.int .i64 x.c1, .int .i64 x.r1, .int .i64 x.c2, .int .i64 x.r2, .slice A l.length cap]), yV (.int .i64 (ck x)), yV (.pointer (some ⟨gb1, 4, none⟩)), yV _, yV _, yV _, yV _] 7 33 z q ow (
      ua (rln 5 ow 2 (zt s2)) rfl <|
      uc (rc1 (zd 0) iu) (fun hk => kN x _ _ _ _) rfl <|
      ua (rfa (zt s2)) rfl <|
      ua (rlb ow 2 (zd 2)) rfl <|
      ua (rle Tryz.underlying35 (zd 3)) rfl <|
      ua (rsb (zd 1) (zd 4)) rfl <|
      uq3 5 rfl rfl <|
      ah) fun fa fw bs hv ap z q ow => ?_
    obtain ⟨s2, s3, s4⟩ := b3 bs s2 s3 s4; have s5 := zh hv 6; refine bp ?_; refine bK ?_; exact ⟨((ck x) - ((l.length : Nat) : Int)), (Al hbl), z, q, ow, s2, s3, s4, s5⟩
   refine cf s10 (Iff.rfl) hc1 ?_; have hbl : bE aG v = false := Bool.eq_false_iff.2 hc1; refine wp_skip ?_; refine bK ?_; exact ⟨0, (Cg hbl), z, q, ow, s2, s3, s4, s5⟩
  rintro fa fw ⟨n0, hn0, z, q, ow, s2, s3, s4, s5⟩; have hb0 : -1000000 ≤ n0 ∧ n0 ≤ 1048576 := by rw [hn0]; split <;> omega
  refine sq fun hK4 => ?_
  refine rgx [yV (.pointer (some ⟨gb1, 4, none⟩)), yV _, yV _, yV _] 4 33 z q ow (
    ua (rfa (zt s2)) rfl <|
    ua (rlb ow 2 (zd 0)) rfl <|
    ua (rle Tryz.underlying35 (zd 1)) rfl <|
    ua (rmo zc) rfl <|
    ah) fun fa fw bs hv ap z q ow => ?_
  obtain ⟨s3, s4, s5⟩ := b3 bs s3 s4 s5; have s18 := zh hv 1; have s19 := zh hv 2; have s20 := zh hv 3; refine wp_block ?_; refine bc (fun (k : Nat) fr u => ∃ (n : Int), (k ≤ l.length) ∧ (n = n0 + (((l.take k).filter fun c => bE c.v v).length : Int)) ∧ fr.tmps.size = 33 ∧ fr.defers = [] ∧ Own w [Th.obj gb3 (.cells #[.int .u8 0, .int .i64 0, .string ⟨[].toArray⟩] 25 (0, 0)), Th.obj gb2 (.cells #[.int .u8 v.k, .int .i64 v.n, .string ⟨v.t.toArray⟩] 25 (0, 0)), Th.obj gb1 (.cells #[.int .i64 x.c1, .int .i64 x.r1, .int .i64 x.c2, .int .i64 x.r2, .slice A l.length cap] 37 (0, 0))] u ∧ fr.eval (.tmp 3) = .pointer (some ⟨gb2, 0, none⟩) ∧ fr.eval (.tmp 4) = .pointer (some ⟨gb3, 0, none⟩) ∧ fr.eval (.tmp 5) = .int .i64 n ∧ fr.eval (.tmp 18) = .slice A l.length cap ∧ fr.eval (.tmp 19) = .int .i64 ((l.length : Nat) : Int) ∧ fr.eval (.tmp 20) = .int .i64 (k : Int)) (fun k => l.length - k) 0 ⟨n0, (Nat.zero_le _), (by simp), z, q, ow, s3, s4, s5, s18, s19, s20⟩ (fun k b_ u_ hI => ?_)
  revert b_ u_; intro fa fw hI
  obtain ⟨n, hk0, hn, z, q, ow, s3, s4, s5, s18, s19, s20⟩ := hI
  refine rgx [yV _] 1 33 z q ow (
    ua (rlt (zt s20) (zt s19)) rfl <|
    ah) fun fa fw bs hv ap z q ow => ?_
  obtain ⟨s3, s4, s5, s18, s19, s20⟩ := b6 bs s3 s4 s5 s18 s19 s20; have s21 := zh hv 0; refine sq fun hK7 => ?_
  by_cases hc2 : (k : Int) < ((l.length : Nat) : Int)
  ·refine ct s21 ((decide_eq_true_iff).2 hc2) ?_
   refine wp_skip ?_; refine tn hK7 ?_; refine sq fun hK8 => ?_; refine wp_block ?_; refine sq fun hK9 => ?_; have hltk : k < l.length := by omega
   obtain ⟨cl, hcl⟩ := bQ hltk; obtain ⟨bcl, ocl, Acl, ecl⟩ := hr.elem hcl
   refine ro [yV _, yV (.agg #[.int .i64 cl.c, .int .i64 cl.r, .int .u8 cl.v.k, .int .i64 cl.v.n, .string ⟨cl.v.t.toArray⟩]), bJ fw.heap.size (.cells #[.int .i64 0, .int .i64 0, .int .u8 0, .int .i64 0, .string ⟨[].toArray⟩] 46 (0, 0))] 3 33 z q ow (
     ua (rpl 5 Tryz.underlying35 Acl (zt s18) (zt s20) hltk) rfl <|
     ua (rpk 5 0 ecl ow (zd 0)) rfl <|
     uq4 <|
     ah) fun fa fw bs hv ap z q ov => ?_
   obtain ⟨s3, s4, s5, s18, s19, s20⟩ := b6 bs s3 s4 s5 s18 s19 s20; have s23 := zh hv 1; obtain ⟨gb4, s7, bgb4, hgb4⟩ := zn hv 2; have ov := ov.hc ow bgb4 hgb4; have ow := ov; refine ws ow 0 0 s7 s23 fun fw ow => ?_; refine wt hK9 ?_
   refine rgx [yV (.pointer (some ⟨gb4, 2, none⟩)), yV (al cl.v), yV (al v), yV (.bool (bE cl.v v))] 4 33 z q ow (
     ua (rfa (zt s7)) rfl <|
     ua (rln 3 ow 0 (zd 0)) rfl <|
     ua (rln 3 ow 2 (zt s3)) rfl <|
     uc (rc2 (zd 1) (zd 2) eM) (fun hk => gK cl.v v _ (hs cl (List.mem_of_getElem? hcl)) hsv) rfl <|
     ah) fun fa fw bs hv ap z q ow => ?_
   obtain ⟨s3, s4, s5, s18, s19, s20⟩ := b6 bs s3 s4 s5 s18 s19 s20; have s27 := zh hv 3
   by_cases hc3 : (bE cl.v v) = true
   ·refine ct s27 ((Iff.rfl).2 hc3) ?_
    have hsm : bE cl.v v = true := by simpa using hc3
    have fb := gn l k (fun c => bE c.v v)
    refine ro [yV _, yV _] 2 33 z q ow (
      um s5 rfl <|
      ua (rad (zd 0) zc) rfl <|
      ah) fun fa fw bs hv ap z q ow => ?_
    obtain ⟨s3, s4, s5, s18, s19, s20⟩ := b6 bs s3 s4 s5 s18 s19 s20; have s29 := zh hv 1; refine ae (v := .int .i64 (n + 1)) (ag rfl) (aq rfl s29) ?_; refine gp5 z q ow s3 s4 s18 s19 s20 fun fa fw z q ow s3 s4 s18 s19 s20 s5 => ?_; refine bp ?_; refine bn ?_; refine tn hK8 ?_
    refine ro [yV (.int .i64 ((k + 1 : Nat) : Int))] 1 33 z q ow (
      ua (rad (zt s20) zc) rfl <|
      ah) fun fa fw bs hv ap z q ow => ?_
    obtain ⟨s3, s4, s18, s19, s20, s5⟩ := b6 bs s3 s4 s18 s19 s20 s5; have s30 := zh hv 0; refine ae (v := .int .i64 ((k + 1 : Nat) : Int)) (ag rfl) (ce rfl s30) ?_; refine gp5 z q ow s3 s4 s18 s19 s5 fun fa fw z q ow s3 s4 s18 s19 s5 s20 => ?_; refine bp ?_; exact bK ⟨(k + 1), ⟨(n + 1), hltk, (vy hn hcl hsm), z, q, ow.tail, s3, s4, s5, s18, s19, s20⟩, (show l.length - (k + 1) < l.length - k by omega)⟩
   refine cf s27 (Iff.rfl) hc3 ?_; have hsm : bE cl.v v = false := by simpa using hc3
   refine wp_skip ?_; refine bn ?_; refine tn hK8 ?_
   refine ro [yV (.int .i64 ((k + 1 : Nat) : Int))] 1 33 z q ow (
     ua (rad (zt s20) zc) rfl <|
     ah) fun fa fw bs hv ap z q ow => ?_
   obtain ⟨s3, s4, s5, s18, s19, s20⟩ := b6 bs s3 s4 s5 s18 s19 s20; have s30 := zh hv 0; refine ae (v := .int .i64 ((k + 1 : Nat) : Int)) (ag rfl) (ce rfl s30) ?_; refine gp5 z q ow s3 s4 s5 s18 s19 fun fa fw z q ow s3 s4 s5 s18 s19 s20 => ?_; refine bp ?_; exact bK ⟨(k + 1), ⟨n, hltk, (zr hn hcl hsm), z, q, ow.tail, s3, s4, s5, s18, s19, s20⟩, (show l.length - (k + 1) < l.length - k by omega)⟩
  refine cf s21 (decide_eq_true_iff) hc2 ?_; refine wp_exit ?_; refine aX ?_; refine aX ?_; refine aP ?_; refine tn hK4 ?_; refine sq fun hK11 => ?_; have fb := gn l k (fun c => bE c.v v)
  refine ro [yV _, yV (al (aK (n * 10000)))] 2 33 z q ow (
    um s5 rfl <|
    uc (rc1 (zd 0) cC) (fun hk => dn n _ (by omega) (by omega)) rfl <|
    ah) fun fa fw bs hv ap z q ow => ?_
  have s4 := bg bs s4; have s32 := zh hv 1; refine ws ow 0 0 s4 s32 fun fw ow => ?_; refine wt hK11 ?_; refine wp_ret ?_; refine rs3 s4 (ow.box 0 rfl) q ?_; exact ⟨congrArg (fun v => Ending.returned (al v)) (show aK _ = aK _ by rw [qk hn (by omega), hn0]), ow.kept⟩
theorem sU (x : Rc) (l : List Cl) (A : Option Addr) (cap : Nat) (v : Vl) (w : World) (hr : RowK 5 clV w A l) (hl : l.length ≤ 1000000) (hsv : Small v) (hs : ∀ c ∈ l, Small c.v) (ho : okR x = true) (hf : ∀ c ∈ l, eL x c) :
    Calls Tryz.prog 67 #[al v, .agg #[.int .i64 x.c1, .int .i64 x.r1, .int .i64 x.c2, .int .i64 x.r2, .slice A l.length cap]] w fun e w' => e = .returned (al (qj x l v)) ∧ Kept w w' := by
  have sz := mO (x := x); go_enter Tryz.func67, Tryz.ntmps67
  refine rgx [bJ w.heap.size (.cells #[.int .u8 v.k, .int .i64 v.n, .string ⟨v.t.toArray⟩] 25 (0, 0)), bJ w.heap.size (.cells #[.int .i64 x.c1, .int .i64 x.r1, .int .i64 x.c2, .int .i64 x.r2, .slice A l.length cap] 37 (0, 0)), bJ w.heap.size (.cells #[.int .u8 0, .int .i64 0, .string ⟨[].toArray⟩] 25 (0, 0))] 3 54 rfl rfl (Own.start w) (
    ux (t := 0) rfl <|
    ux (t := 1) rfl <|
    uq4 <|
    ah) fun fa fw bs hv ap z q ov => ?_
  obtain ⟨gb1, s2, bgb1, hgb1⟩ := zn hv 0; have ov := ov.hc (Own.start w) bgb1 hgb1; obtain ⟨gb2, s3, bgb2, hgb2⟩ := zn hv 1; have ov := ov.cons hgb2 (Nat.le_trans (Own.start w).kept.size bgb2) (bG (cr ap 0 1 rfl rfl rfl s2 rfl s3 rfl) ((Own.start w).below bgb2)); obtain ⟨gb3, s4, bgb3, hgb3⟩ := zn hv 2; have ov := ov.cons hgb3 (Nat.le_trans (Own.start w).kept.size bgb3) (bG (cr ap 1 2 rfl rfl rfl s3 rfl s4 rfl) (bG (cr ap 0 2 rfl rfl rfl s2 rfl s4 rfl) ((Own.start w).below bgb3))); have ow := ov
  refine rgx [yV (al (⟨0, 0, []⟩ : Vl)), yV (al v), yV (.bool (bE (⟨0, 0, []⟩ : Vl) v)), yV _] 4 54 z q ow (
    aS (fun hk bs hd => bP (us := #[]) rfl (by simp) (by kernel_rfl)) rfl <|
    ua (rln 3 ow 2 (zt s2)) rfl <|
    uc (rc2 (zd 0) (zd 1) eM) (fun hk => gK (⟨0, 0, []⟩ : Vl) v _ kO hsv) rfl <|
    uq3 2 rfl rfl <|
    ah) fun fa fw bs hv ap z q ow => ?_
  obtain ⟨s2, s3, s4⟩ := b3 bs s2 s3 s4; have s5 := zh hv 3
  refine rgx [yV _] 1 54 z q ow (
    uq1 rfl rfl rfl <|
    ah) fun fa fw bs hv ap z q ow => ?_
  obtain ⟨s2, s3, s4, s5⟩ := b4 bs s2 s3 s4 s5; have s6 := zh hv 0; refine sq fun hK4 => ?_
  refine rgx [yV (.pointer (some ⟨gb2, 4, none⟩)), yV _, yV _, yV _] 4 54 z q ow (
    ua (rfa (zt s3)) rfl <|
    ua (rlb ow 1 (zd 0)) rfl <|
    ua (rle Tryz.underlying35 (zd 1)) rfl <|
    ua (rmo zc) rfl <|
    ah) fun fa fw bs hv ap z q ow => ?_
  obtain ⟨s2, s3, s4, s5, s6⟩ := b5 bs s2 s3 s4 s5 s6; have s14 := zh hv 1; have s15 := zh hv 2; have s16 := zh hv 3; refine wp_block ?_; refine bc (fun (k : Nat) fr u => ∃ (n : Int), (k ≤ l.length) ∧ (cu x v (bE aG v) 0 l = cu x v (bE aG v) n (l.drop k)) ∧ (0 ≤ n ∧ n ≤ 1048576) ∧ fr.tmps.size = 54 ∧ fr.defers = [] ∧ Own w [Th.obj gb3 (.cells #[.int .u8 0, .int .i64 0, .string ⟨[].toArray⟩] 25 (0, 0)), Th.obj gb2 (.cells #[.int .i64 x.c1, .int .i64 x.r1, .int .i64 x.c2, .int .i64 x.r2, .slice A l.length cap] 37 (0, 0)), Th.obj gb1 (.cells #[.int .u8 v.k, .int .i64 v.n, .string ⟨v.t.toArray⟩] 25 (0, 0))] u ∧ fr.eval (.tmp 2) = .pointer (some ⟨gb1, 0, none⟩) ∧ fr.eval (.tmp 3) = .pointer (some ⟨gb2, 0, none⟩) ∧ fr.eval (.tmp 4) = .pointer (some ⟨gb3, 0, none⟩) ∧ fr.eval (.tmp 5) = .bool (bE (⟨0, 0, []⟩ : Vl) v) ∧ fr.eval (.tmp 6) = .int .i64 n ∧ fr.eval (.tmp 14) = .slice A l.length cap ∧ fr.eval (.tmp 15) = .int .i64 ((l.length : Nat) : Int) ∧ fr.eval (.tmp 16) = .int .i64 (k : Int)) (fun k => l.length - k) 0 ⟨0, (Nat.zero_le _), rfl, ⟨by decide, by decide⟩, z, q, ow, s2, s3, s4, s5, s6, s14, s15, s16⟩ (fun k b_ u_ hI => ?_)
  revert b_ u_; intro fa fw hI
  obtain ⟨n, hk0, hm, hnb, z, q, ow, s2, s3, s4, s5, s6, s14, s15, s16⟩ := hI
  refine rgx [yV _] 1 54 z q ow (
    ua (rlt (zt s16) (zt s15)) rfl <|
    ah) fun fa fw bs hv ap z q ow => ?_
  obtain ⟨s2, s3, s4, s5, s6, s14, s15, s16⟩ := b8 bs s2 s3 s4 s5 s6 s14 s15 s16; have s17 := zh hv 0; refine sq fun hK7 => ?_
  by_cases hc1 : (k : Int) < ((l.length : Nat) : Int)
  ·refine ct s17 ((decide_eq_true_iff).2 hc1) ?_
   refine wp_skip ?_; refine tn hK7 ?_; refine sq fun hK8 => ?_; refine wp_block ?_; refine sq fun hK9 => ?_; have hltk : k < l.length := by omega
   obtain ⟨cl, hcl⟩ := bQ hltk; obtain ⟨bcl, ocl, Acl, ecl⟩ := hr.elem hcl; have hfc := (hf cl (List.mem_of_getElem? hcl)).1; have hix := vz ho hfc
   refine ro [yV _, yV (.agg #[.int .i64 cl.c, .int .i64 cl.r, .int .u8 cl.v.k, .int .i64 cl.v.n, .string ⟨cl.v.t.toArray⟩]), bJ fw.heap.size (.cells #[.int .i64 0, .int .i64 0, .int .u8 0, .int .i64 0, .string ⟨[].toArray⟩] 46 (0, 0))] 3 54 z q ow (
     ua (rpl 5 Tryz.underlying35 Acl (zt s14) (zt s16) hltk) rfl <|
     ua (rpk 5 0 ecl ow (zd 0)) rfl <|
     uq4 <|
     ah) fun fa fw bs hv ap z q ov => ?_
   obtain ⟨s2, s3, s4, s5, s6, s14, s15, s16⟩ := b8 bs s2 s3 s4 s5 s6 s14 s15 s16; have s19 := zh hv 1; obtain ⟨gb4, s8, bgb4, hgb4⟩ := zn hv 2; have ov := ov.hc ow bgb4 hgb4; have ow := ov; refine ws ow 0 0 s8 s19 fun fw ow => ?_; refine wt hK9 ?_
   refine rgx [yV (.agg #[.int .i64 x.c1, .int .i64 x.r1, .int .i64 x.c2, .int .i64 x.r2, .slice A l.length cap]), yV (.pointer (some ⟨gb4, 0, none⟩)), yV (.agg #[.int .i64 cl.c, .int .i64 cl.r]), yV (.int .i64 (cJ x cl.c cl.r)), yV _] 5 54 z q ow (
     ua (rln 5 ow 2 (zt s3)) rfl <|
     ua (rfa (zt s8)) rfl <|
     ua (rln 2 ow 0 (zd 1)) rfl <|
     uc (rc2 (zd 0) (zd 2) gp) (fun hk => jz x _ _ _ cl.c cl.r _ ho hfc) rfl <|
     uq3 3 rfl rfl <|
     ah) fun fa fw bs hv ap z q ow => ?_
   obtain ⟨s2, s3, s4, s5, s6, s14, s15, s16⟩ := b8 bs s2 s3 s4 s5 s6 s14 s15 s16; have s8 := bg bs s8; have s9 := zh hv 4; refine sq fun hK11 => ?_
   refine rgx [yV _, yV _, yIf _ (yV _), yIf _ (yV _), yIf _ (yV _), yV _] 6 54 z q ow (
     um s5 rfl <|
     uq2 0 rfl rfl <|
     ui (gd1 1) (rmo (zt s9)) rfl <|
     ui (gd1 1) (rmo (zt s6)) rfl <|
     ui (gd1 1) (rgt (zi 2) (zi 3)) rfl <|
     ua (ran (zd 1) (zi 4)) rfl <|
     ah) fun fa fw bs hv ap z q ow => ?_
   obtain ⟨s2, s3, s4, s5, s6, s14, s15, s16⟩ := b8 bs s2 s3 s4 s5 s6 s14 s15 s16; obtain ⟨s8, s9⟩ := b2 bs s8 s9; have s29 := zh hv 5
   by_cases hc2 : ((bE (⟨0, 0, []⟩ : Vl) v) = true) ∧ ((n : Int) < (cJ x cl.c cl.r : Int))
   ·refine ct s29 ((lV (Iff.rfl) (decide_eq_true_iff)).2 hc2) ?_
    have hgp := hc2; refine sq fun hK13 => ?_
    refine ro [yV _, yV _, yV (al (aK ((n + 1) * 10000)))] 3 54 z q ow (
      um s6 rfl <|
      ua (rad (zd 0) zc) rfl <|
      uc (rc1 (zd 1) cC) (fun hk => dn (n + 1) _ (by omega) (by omega)) rfl <|
      ah) fun fa fw bs hv ap z q ow => ?_
    obtain ⟨s2, s3, s4, s5, s6, s14, s15, s16⟩ := b8 bs s2 s3 s4 s5 s6 s14 s15 s16; obtain ⟨s8, s9⟩ := b2 bs s8 s9; have s32 := zh hv 2; refine ws ow 1 0 s4 s32 fun fw ow => ?_; refine wt hK13 ?_; refine wp_ret ?_; refine ao ?_; refine aD ?_; refine ao ?_; refine ao ?_; refine aD ?_; refine ao ?_; refine rs3 s4 (ow.box 1 rfl) q ?_; exact ⟨congrArg (fun v => Ending.returned (al v)) (vE (hm.trans (vA hcl hgp)) (by omega)), ow.kept⟩
   refine cf s29 (lV (Iff.rfl) (decide_eq_true_iff)) hc2 ?_; have hgo := hc2; refine wp_skip ?_; refine tn hK11 ?_; refine sq fun hK14 => ?_
   refine rgx [yV (.pointer (some ⟨gb4, 2, none⟩)), yV (al cl.v), yV (al v), yV (.bool (bE cl.v v))] 4 54 z q ow (
     ua (rfa (zt s8)) rfl <|
     ua (rln 3 ow 0 (zd 0)) rfl <|
     ua (rln 3 ow 3 (zt s2)) rfl <|
     uc (rc2 (zd 1) (zd 2) eM) (fun hk => gK cl.v v _ (hs cl (List.mem_of_getElem? hcl)) hsv) rfl <|
     ah) fun fa fw bs hv ap z q ow => ?_
   obtain ⟨s2, s3, s4, s5, s6, s14, s15, s16⟩ := b8 bs s2 s3 s4 s5 s6 s14 s15 s16; have s9 := bg bs s9; have s36 := zh hv 3
   by_cases hc3 : (bE cl.v v) = true
   ·refine ct s36 ((Iff.rfl).2 hc3) ?_
    have hsm : bE cl.v v = true := by simpa using hc3
    refine sq fun hK16 => ?_
    refine ro [yV _, yV _, yV (al (aK (((cJ x cl.c cl.r) + 1) * 10000)))] 3 54 z q ow (
      um s9 rfl <|
      ua (rad (zd 0) zc) rfl <|
      uc (rc1 (zd 1) cC) (fun hk => dn ((cJ x cl.c cl.r) + 1) _ (by omega) (by omega)) rfl <|
      ah) fun fa fw bs hv ap z q ow => ?_
    obtain ⟨s2, s3, s4, s5, s6, s14, s15, s16⟩ := b8 bs s2 s3 s4 s5 s6 s14 s15 s16; have s9 := bg bs s9; have s39 := zh hv 2; refine ws ow 1 0 s4 s39 fun fw ow => ?_; refine wt hK16 ?_; refine wp_ret ?_; refine ao ?_; refine aD ?_; refine ao ?_; refine ao ?_; refine aD ?_; refine ao ?_; refine rs3 s4 (ow.box 1 rfl) q ?_; exact ⟨congrArg (fun v => Ending.returned (al v)) (vE (hm.trans (vB hcl hgo hsm)) (by omega)), ow.kept⟩
   refine cf s36 (Iff.rfl) hc3 ?_; have hsm : bE cl.v v = false := by simpa using hc3
   refine wp_skip ?_; refine tn hK14 ?_
   refine ro [yV _, yV _, yV _] 3 54 z q ow (
     um s9 rfl <|
     ua (rad (zd 0) zc) rfl <|
     uq3 1 rfl rfl <|
     ah) fun fa fw bs hv ap z q ow => ?_
   obtain ⟨s2, s3, s4, s5, s14, s15, s16⟩ := b7 bs s2 s3 s4 s5 s14 s15 s16; have s6 := zh hv 2; refine bp ?_; refine bn ?_; refine tn hK8 ?_
   refine ro [yV (.int .i64 ((k + 1 : Nat) : Int))] 1 54 z q ow (
     ua (rad (zt s16) zc) rfl <|
     ah) fun fa fw bs hv ap z q ow => ?_
   obtain ⟨s2, s3, s4, s5, s14, s15, s16, s6⟩ := b8 bs s2 s3 s4 s5 s14 s15 s16 s6; have s42 := zh hv 0; refine ae (v := .int .i64 ((k + 1 : Nat) : Int)) (ag rfl) (ce rfl s42) ?_; refine gp7 z q ow s2 s3 s4 s5 s14 s15 s6 fun fa fw z q ow s2 s3 s4 s5 s14 s15 s6 s16 => ?_; refine bp ?_; exact bK ⟨(k + 1), ⟨((cJ x cl.c cl.r) + 1), hltk, (hm.trans (yc hcl hgo hsm)), (by omega), z, q, ow.tail, s2, s3, s4, s5, s6, s14, s15, s16⟩, (show l.length - (k + 1) < l.length - k by omega)⟩
  refine cf s17 (decide_eq_true_iff) hc1 ?_; refine wp_exit ?_; refine aX ?_; refine aX ?_; refine aP ?_; refine tn hK4 ?_; refine sq fun hK17 => ?_
  refine rgx [yV _, yV _, yIf _ (yV _), yIf _ (yV (.agg #[.int .i64 x.c1, .int .i64 x.r1, .int .i64 x.c2, .int .i64 x.r2, .slice A l.length cap])), yIf _ (yV (.int .i64 (ck x))), yIf _ (yV _), yV _] 7 54 z q ow (
    um s5 rfl <|
    uq2 0 rfl rfl <|
    ui (gd1 1) (rmo (zt s6)) rfl <|
    ui (gd1 1) (rln 5 ow 1 (zt s3)) rfl <|
    uq6 (gd1 1) (rc1 (zi 3) iu) (fun hk hz => kN x _ _ _ _) rfl <|
    ui (gd1 1) (rlt (zi 2) (zi 4)) rfl <|
    ua (ran (zd 1) (zi 5)) rfl <|
    ah) fun fa fw bs hv ap z q ow => ?_
  obtain ⟨s4, s6⟩ := b2 bs s4 s6; have s49 := zh hv 6
  by_cases hc4 : ((bE (⟨0, 0, []⟩ : Vl) v) = true) ∧ ((n : Int) < (ck x : Int))
  ·refine ct s49 ((lV (Iff.rfl) (decide_eq_true_iff)).2 hc4) ?_
   have hgp := hc4; refine sq fun hK19 => ?_
   refine ro [yV _, yV _, yV (al (aK ((n + 1) * 10000)))] 3 54 z q ow (
     um s6 rfl <|
     ua (rad (zd 0) zc) rfl <|
     uc (rc1 (zd 1) cC) (fun hk => dn (n + 1) _ (by omega) (by omega)) rfl <|
     ah) fun fa fw bs hv ap z q ow => ?_
   have s4 := bg bs s4; have s52 := zh hv 2; refine ws ow 0 0 s4 s52 fun fw ow => ?_; refine wt hK19 ?_; refine wp_ret ?_; refine ao ?_; refine rs3 s4 (ow.box 0 rfl) q ?_; exact ⟨congrArg (fun v => Ending.returned (al v)) (vE (hm.trans (vC (by omega) hgp)) (by omega)), ow.kept⟩
  refine cf s49 (lV (Iff.rfl) (decide_eq_true_iff)) hc4 ?_; have hgo := hc4; refine wp_skip ?_; refine tn hK17 ?_; refine sq fun hK20 => ?_
  refine ro [yV (al (aW 4))] 1 54 z q ow (
    uc (rc1 zc cD) (fun hk => cj 4 _) rfl <|
    ah) fun fa fw bs hv ap z q ow => ?_
  have s4 := bg bs s4; have s53 := zh hv 0; refine ws ow 0 0 s4 s53 fun fw ow => ?_; refine wt hK20 ?_; refine wp_ret ?_; refine rs3 s4 (ow.box 0 rfl) q ?_; exact ⟨congrArg (fun v => Ending.returned (al v)) (Ch (hm.trans (vD (by omega) hgo))), ow.kept⟩
