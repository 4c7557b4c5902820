/- Layer 16: the program's functions, first part (printed by wip/mkagg2.py). -/
import Derived.Test.YtbkjdcpfkepheaaGreatDoorCGAgg1
import Derived.Test.YtbkjdcpfkepheaaGreatDoorCMixAP
import Derived.Test.YtbkjdcpfkepheaaGreatDoorCBunV
import Derived.Test.YtbkjdcpfkepheaaGreatDoorCMixAM
set_option maxHeartbeats 4000000
namespace Go.Proofs.YtbkjdcpfkepheaaGreatDoor
section
set_option linter.unusedVariables false
set_option linter.unusedSimpArgs false
open Go.RowKit Lv
set_option maxRecDepth 100000
theorem fZ : Small aj := ⟨⟨by decide, by decide⟩, Nat.zero_le _⟩
theorem DD {a : Act} {w : World} {o : Oper} {T2 : TypeId} {x y : Operand} (ho : o.op = .binOp .eql 44 x y T2) {c r d s : Int} (hx : a.eval x = .agg #[.int .i64 c, .int .i64 r]) (hy : a.eval y = .agg #[.int .i64 d, .int .i64 s]) : (execOp a.eval o).run Tryz.prog w = .ok (.value (.bool (decide (c = d ∧ r = s)))) w := by
  unfold execOp; rw [ho]
  simp only [hx, hy]
  go_simp
  by_cases h1 : c = d <;> by_cases h2 : r = s <;> simp [h1, h2]
theorem Ex {a : Act} {w : World} {o : Oper} {T2 : TypeId} {x y : Operand} (ho : o.op = .binOp .eql 34 x y T2) {u v : Rc} (hx : a.eval x = aR u) (hy : a.eval y = aR v) : (execOp a.eval o).run Tryz.prog w = .ok (.value (.bool (decide (u = v)))) w := by
  unfold execOp; rw [ho]
  simp only [hx, hy]
  obtain ⟨a1, a2, a3, a4⟩ := u; obtain ⟨b1, b2, b3, b4⟩ := v
  go_simp
  by_cases h1 : a1 = b1 <;> by_cases h2 : a2 = b2 <;> by_cases h3 : a3 = b3 <;> by_cases h4 : a4 = b4 <;> simp [h1, h2, h3, h4]
theorem uq {l : List Cl} {k : Nat} {c r : Int} {p : Cl} (h : l[k]? = some p) (hno : ∀ j, j < k → ∀ q, l[j]? = some q → ¬ (q.c = c ∧ q.r = r)) (e : p.c = c ∧ p.r = r) : rL l c r = p.v := by
  unfold rL
  have : l.find? (fun p => decide (p.c = c ∧ p.r = r)) = some p := by
    obtain ⟨hk, ek⟩ := List.getElem?_eq_some_iff.1 h; rw [List.find?_eq_some_iff_getElem]; refine ⟨by simpa using e, k, hk, ek, fun j hj => ?_⟩; have := hno j hj _ (List.getElem?_eq_getElem (by omega)); rw [decide_eq_false this]
    rfl
  rw [this]
theorem yQ {l : List Cl} {c r : Int} (hno : ∀ j, j < l.length → ∀ q, l[j]? = some q → ¬ (q.c = c ∧ q.r = r)) : rL l c r = aj := by
  unfold rL
  have : l.find? (fun p => decide (p.c = c ∧ p.r = r)) = none := by
    rw [List.find?_eq_none]; intro p hp; obtain ⟨j, hj, e⟩ := List.getElem_of_mem hp; have := hno j hj p (by rw [List.getElem?_eq_getElem hj, e])
    simpa using this
  rw [this]
theorem sI {α : Type} {l : List α} {k : Nat} {p : α} {P : α → Prop} (h : ∀ j, j < k → ∀ q, l[j]? = some q → P q) (hp : l[k]? = some p) (hn : P p) : ∀ j, j < k + 1 → ∀ q, l[j]? = some q → P q := fun j hj q hq => by
  rcases Nat.lt_succ_iff_lt_or_eq.1 hj with c | rfl
  · exact h j c q hq
  · rw [hp] at hq; cases hq; exact hn
def we (x : Rc) (l : List Cl) (v : Vl) : Vl := ay (((if aX aj v then aJ x - l.length else 0) + (l.filter fun c => aX c.v v).length) * 10000)
def mW (x : Rc) (l : List Cl) (v : Vl) : Vl := if bG x v (aX aj v) 0 l = 0 then aG 4 else ay (bG x v (aX aj v) 0 l * 10000)
theorem Ey {b : Bool} {n : Int} (h : b = true) : n = if b then n else 0 := by rw [h]; rfl
theorem Gy {b : Bool} {n : Int} (h : b = false) : 0 = if b then n else 0 := by rw [h]; rfl
theorem dU {α : Type} (l : List α) (k : Nat) (p : α → Bool) : ((l.take k).filter p).length ≤ k := Nat.le_trans (List.length_filter_le _ _) (by rw [List.length_take]; omega)
theorem oL {α : Type} {l : List α} {k : Nat} {p : α → Bool} {c : α} {n n0 : Int} (hn : n = n0 + (((l.take k).filter p).length : Int)) (hc : l[k]? = some c) (h : p c = true) : n + 1 = n0 + (((l.take (k + 1)).filter p).length : Int) := by
  rw [fu hc, List.filter_append, List.length_append, hn, List.filter_cons_of_pos h]
  simp only [List.filter_nil, List.length_cons, List.length_nil]
  omega
theorem ur {α : Type} {l : List α} {k : Nat} {p : α → Bool} {c : α} {n n0 : Int} (hn : n = n0 + (((l.take k).filter p).length : Int)) (hc : l[k]? = some c) (h : p c = false) : n = n0 + (((l.take (k + 1)).filter p).length : Int) := by
  rw [fu hc, List.filter_append, List.length_append, hn, List.filter_cons_of_neg (by rw [h]; decide)]
  simp
theorem kt {α : Type} {l : List α} {k : Nat} {p : α → Bool} {n n0 : Int} (hn : n = n0 + (((l.take k).filter p).length : Int)) (hk : l.length ≤ k) : n = n0 + ((l.filter p).length : Int) := by rwa [List.take_of_length_le hk] at hn
theorem yR {x : Rc} {c r : Int} (ho : okR x = true) (h : jL x c r = true) : 0 ≤ bN x c r ∧ bN x c r < 1048576 := by
  have h1 := me h; obtain ⟨⟨o1, o2, o3⟩, o4, o5, o6⟩ := eD.1 ho; have := iz (a := bh x) (b := cd x) (by unfold bh; omega) (by unfold bh; omega) (by unfold cd; omega) (by unfold cd; omega)
  omega
theorem yS {x : Rc} {v : Vl} {b : Bool} {n : Int} {l : List Cl} {k : Nat} {c : Cl} (h : l[k]? = some c) (g : b = true ∧ n < bN x c.c c.r) : bG x v b n (l.drop k) = n + 1 := by
  rw [dD h, bG, if_pos g]
theorem yT {x : Rc} {v : Vl} {b : Bool} {n : Int} {l : List Cl} {k : Nat} {c : Cl} (h : l[k]? = some c) (g : ¬ (b = true ∧ n < bN x c.c c.r)) (e : aX c.v v = true) : bG x v b n (l.drop k) = bN x c.c c.r + 1 := by
  rw [dD h, bG, if_neg g, if_pos e]
theorem BQ {x : Rc} {v : Vl} {b : Bool} {n : Int} {l : List Cl} {k : Nat} {c : Cl} (h : l[k]? = some c) (g : ¬ (b = true ∧ n < bN x c.c c.r)) (e : aX c.v v = false) : bG x v b n (l.drop k) = bG x v b (bN x c.c c.r + 1) (l.drop (k + 1)) := by
  rw [dD h, bG, if_neg g, if_neg (by rw [e]; decide)]
theorem yU {x : Rc} {v : Vl} {b : Bool} {n : Int} {l : List Cl} {k : Nat} (h : l.length ≤ k) (g : b = true ∧ n < aJ x) : bG x v b n (l.drop k) = n + 1 := by
  rw [List.drop_eq_nil_of_le h, bG, if_pos g]
theorem yW {x : Rc} {v : Vl} {b : Bool} {n : Int} {l : List Cl} {k : Nat} (h : l.length ≤ k) (g : ¬ (b = true ∧ n < aJ x)) : bG x v b n (l.drop k) = 0 := by
  rw [List.drop_eq_nil_of_le h, bG, if_neg g]
theorem yX {x : Rc} {l : List Cl} {v : Vl} {n : Int} (h : bG x v (aX aj v) 0 l = n) (h0 : n ≠ 0) : ay (n * 10000) = mW x l v := by
  unfold mW; rw [h, if_neg h0]
theorem Gz {x : Rc} {l : List Cl} {v : Vl} (h : bG x v (aX aj v) 0 l = 0) : aG 4 = mW x l v := by
  unfold mW; rw [h, if_pos rfl]
theorem iV {x : Rc} : 0 ≤ aJ x ∧ aJ x ≤ 1048576 := by
  unfold aJ
  split
  · rename_i h
    obtain ⟨⟨o1, o2, o3⟩, o4, o5, o6⟩ := eD.1 h; exact iz (a := bh x) (b := cd x) (by unfold bh; omega) (by unfold bh; omega) (by unfold cd; omega) (by unfold cd; omega)
  · omega
theorem qx : En 62 := by intro args w; go_simp
theorem ie (a b : Vl) (w : World) (ha : Small a) (hb : Small b) :
    Calls Tryz.prog 104 #[ae a, ae b] w fun e w' => e = .returned (.bool (aX a b)) ∧ Kept w w' := by
  go_enter Tryz.func104, Tryz.ntmps104; refine z00 19 [(0, ae a), (1, ae b)] ?_; intro _ s; refine zr s 3 (zP (zB (zB Z0 (.cells #[.int .u8 a.k, .int .i64 a.n, .string ⟨a.t.toArray⟩] 25 (0, 0))) (.cells #[.int .u8 b.k, .int .i64 b.n, .string ⟨b.t.toArray⟩] 25 (0, 0)))) ?_; intro gb1 gb2 _ fw s; refine zr s 8 (zP (zP (zP (zP (zP (zC (zA (zA Z0 (ae a) 3 1) (ae b) 3 0) fun cc => qj a b _ ha.1 hb.1 (Nat.le_trans ha.2 (by decide)) (Nat.le_trans hb.2 (by decide)))))))) ?_; intro _ fw s; refine zr s 7 (zP (zO (zPi (zPi (zP (zP (zP Z0))))) fun cc => gm rfl cc.e (fun hb => cc.f hb) rfl)) ?_; intro _ fw s; refine wp_ret ?_; refine z1 s ?_; exact ⟨(congrArg (fun b => Ending.returned (.bool b)) (show _ = aX a b by rfl)), s.o.kept⟩
theorem ig (a b : Vl) (w : World) (ha : Small a) (hb : Small b) :
    Calls Tryz.prog 73 #[ae a, ae b] w fun e w' => e = .returned (.bool (aX a b)) ∧ Kept w w' := by
  go_enter Tryz.func73, Tryz.ntmps73; refine z00 19 [(0, ae a), (1, ae b)] ?_; intro _ s; refine zr s 3 (zP (zB (zB Z0 (.cells #[.int .u8 a.k, .int .i64 a.n, .string ⟨a.t.toArray⟩] 25 (0, 0))) (.cells #[.int .u8 b.k, .int .i64 b.n, .string ⟨b.t.toArray⟩] 25 (0, 0)))) ?_; intro gb1 gb2 _ fw s; refine zr s 8 (zP (zP (zP (zP (zP (zC (zA (zA Z0 (ae a) 3 1) (ae b) 3 0) fun cc => ot a b _ ha.1 hb.1 (Nat.le_trans ha.2 (by decide)) (Nat.le_trans hb.2 (by decide)))))))) ?_; intro _ fw s; refine zr s 7 (zP (zO (zPi (zPi (zP (zP (zP Z0))))) fun cc => gm rfl cc.e (fun hb => cc.f hb) rfl)) ?_; intro _ fw s; refine wp_ret ?_; refine z1 s ?_; exact ⟨(congrArg (fun b => Ending.returned (.bool b)) (show _ = aX a b by rfl)), s.o.kept⟩
theorem dJ (n : Int) (w : World) (h1 : -900000000000000 ≤ n) (h2 : n ≤ 900000000000000) :
    Calls Tryz.prog 106 #[.int .i64 n] w fun e w' => e = .returned (ae (ay (n * 10000))) ∧ Kept w w' := by
  go_enter Tryz.func106, Tryz.ntmps106; refine z00 6 [(0, .int .i64 n)] ?_; intro _ s; refine zr s 1 (zV Z0 oZ) ?_; intro gb1 _ fw s; refine zt_ s 3 (zC (zO (zP Z0) fun cc => vR (Or.inr rfl) rfl cc.e rfl (by omega) (by omega)) fun cc => dx (n * 10000) _ (by omega) (by omega)) ?_; intro _ fw s K1 hK1; refine zS s 0 ?_; intro fw s; refine wt hK1 ?_; refine wp_ret ?_; refine ac (v := ae (ay (n * 10000))) rfl (.cons (rC s 3 0) .nil) rfl s.q ?_; exact ⟨rfl, s.o.kept⟩
theorem iW (n : Int) (b : Bool) (w : World) (hn : b = true → i64 n) :
    Calls Tryz.prog 131 #[.int .i64 n, .bool b] w fun e w' => e = .returned (ae (eX (n, b))) ∧ Kept w w' := by
  go_enter Tryz.func131, Tryz.ntmps131; refine z00 10 [(0, .int .i64 n), (1, .bool b)] ?_; intro _ s; refine zr s 1 (zV Z0 oZ) ?_; intro gb1 _ fw s; refine sq fun hK1 => ?_; refine zr s 2 (zP (zP Z0)) ?_; intro _ fw s; refine zb s (jc (Iff.rfl)) ?_ ?_
  ·intro hc1
   have hb : b = false := by simpa using hc1
   refine zt_ s 1 (zC Z0 fun cc => cz 3 _) ?_; intro _ fw s K2 hK2; refine zS s 0 ?_; intro fw s; refine wt hK2 ?_; refine wp_ret ?_; refine ag ?_; refine ac (v := ae (aG 3)) rfl (.cons (rC s 3 0) .nil) rfl s.q ?_; exact ⟨congrArg (fun v => Ending.returned (ae v)) (show _ = eX (n, b) by unfold eX; rw [hb]; rfl), s.o.kept⟩
  intro hc1; have hb : b = true := by simpa using hc1
  refine wp_skip ?_; refine tn hK1 ?_; refine zt_ s 2 (zC (zP Z0) fun cc => dx n _ (hn hb).1 (hn hb).2) ?_; intro _ fw s K3 hK3; refine zS s 0 ?_; intro fw s; refine wt hK3 ?_; refine wp_ret ?_; refine ac (v := ae (ay n)) rfl (.cons (rC s 3 0) .nil) rfl s.q ?_; exact ⟨congrArg (fun v => Ending.returned (ae v)) (show _ = eX (n, b) by unfold eX; rw [hb]; rfl), s.o.kept⟩
theorem yY (x : Rc) (l : List Cl) (A : Option Addr) (cap : Nat) (c r : Int) (w : World) (hr : RowK 5 clV w A l) (hl : l.length ≤ 1000000) :
    Calls Tryz.prog 107 #[.agg #[.int .i64 x.c1, .int .i64 x.r1, .int .i64 x.c2, .int .i64 x.r2, .slice A l.length cap], .agg #[.int .i64 c, .int .i64 r]] w fun e w' => e = .returned (ae (rL l c r)) ∧ Kept w w' := by
  go_enter Tryz.func107, Tryz.ntmps107; refine z00 22 [(0, .agg #[.int .i64 x.c1, .int .i64 x.r1, .int .i64 x.c2, .int .i64 x.r2, .slice A l.length cap]), (1, .agg #[.int .i64 c, .int .i64 r])] ?_; intro _ s; refine zr s 3 (zV (zB (zB Z0 (.cells #[.int .i64 x.c1, .int .i64 x.r1, .int .i64 x.c2, .int .i64 x.r2, .slice A l.length cap] 37 (0, 0))) (.cells #[.int .i64 c, .int .i64 r] 44 (0, 0))) oZ) ?_; intro gb1 gb2 gb3 _ fw s; refine sq fun hK1 => ?_; refine zr s 4 (zP (zN (zL (zF Z0 4) 2))) ?_; intro _ fw s; refine wp_block ?_; refine aP (fun (k : Nat) fr u => (k ≤ l.length) ∧ (∀ j, j < k → ∀ q, l[j]? = some q → ¬ (q.c = c ∧ q.r = r)) ∧ Sg 22 w [Th.obj gb3 oZ, Th.obj gb2 (.cells #[.int .i64 c, .int .i64 r] 44 (0, 0)), Th.obj gb1 (.cells #[.int .i64 x.c1, .int .i64 x.r1, .int .i64 x.c2, .int .i64 x.r2, .slice A l.length cap] 37 (0, 0))] [(3, .pointer (some ⟨gb2, 0, none⟩)), (4, .pointer (some ⟨gb3, 0, none⟩)), (8, .slice A l.length cap), (9, .int .i64 ((l.length : Nat) : Int)), (10, .int .i64 (k : Int))] fr u) (fun k => l.length - k) 0 ⟨(Nat.zero_le _), (fun j hj => absurd hj (Nat.not_lt_zero j)), s.c⟩ (fun k b_ u_ hI => ?_)
  revert b_ u_; intro fa fw hI
  obtain ⟨hk0, hno, s⟩ := hI; refine zr s 1 (zP Z0) ?_; intro _ fw s; refine sq fun hK2 => ?_; refine zi_ s ?_ ?_
  ·intro hc1
   refine wp_skip ?_; refine tn hK2 ?_; refine sq fun hK3 => ?_; refine wp_block ?_; have hltk : k < l.length := by omega
   obtain ⟨cl, hcl⟩ := bI hltk; obtain ⟨bcl, ocl, Acl, ecl⟩ := hr.elem hcl; refine zt_ s 3 (zV (zO (zO Z0 fun cc => al 5 Tryz.underlying35 (by kernel_rfl) rfl Acl cc.e cc.e hltk) (v := .agg #[.int .i64 cl.c, .int .i64 cl.r, .int .u8 cl.v.k, .int .i64 cl.v.n, .string ⟨cl.v.t.toArray⟩]) fun cc => bf (n := 5) 0 rfl (by kernel_rfl) (by kernel_rfl) cc.e rfl (ecl.kept cc.ow.kept)) (.cells #[.int .i64 0, .int .i64 0, .int .u8 0, .int .i64 0, .string ⟨[].toArray⟩] 46 (0, 0))) ?_; intro gb4 _ fw s K4 hK4; refine zS s 0 ?_; intro fw s; refine wt hK4 ?_; refine zr s 4 (zO (zA (zA (zF Z0 0) (.agg #[.int .i64 cl.c, .int .i64 cl.r]) 2 0) (.agg #[.int .i64 c, .int .i64 r]) 2 2) fun cc => DD rfl cc.e cc.e) ?_; intro _ fw s; refine zi_ s ?_ ?_
   ·intro hc2
    refine zt_ s 2 (zA (zF Z0 2) (ae cl.v) 3 0) ?_; intro _ fw s K5 hK5; refine zS s 1 ?_; intro fw s; refine wt hK5 ?_; refine wp_ret ?_; refine ao (ag (ag (ao (ag ?_)))); refine ac (v := ae cl.v) rfl (.cons (rC s 3 1) .nil) rfl s.q ?_; exact ⟨congrArg (fun v => Ending.returned (ae v)) ((uq hcl hno hc2).symm), s.o.kept⟩
   intro hc2; have hne := hc2; refine wp_skip ?_; refine aB ?_; refine tn hK3 ?_; refine zu s 1 (by exact zAn Z0 k 1) ?_; intro _ fw s; refine zw s ?_; intro _ fw s; refine aN ?_; exact bg ⟨(k + 1), ⟨hltk, (sI hno hcl hne), (s.ow s.o.tail).c⟩, (show l.length - (k + 1) < l.length - k by omega)⟩
  intro hc1; refine wp_exit ?_; refine aM ?_; refine aM ?_; refine aD ?_; refine tn hK1 ?_; refine zt_ s 1 (zO Z0 (v := ae (⟨0, 0, []⟩ : Vl)) fun cc => cG (us := #[]) rfl (by simp) (by kernel_rfl)) ?_; intro _ fw s K6 hK6; refine zS s 0 ?_; intro fw s; refine wt hK6 ?_; refine wp_ret ?_; refine ac (v := ae (⟨0, 0, []⟩ : Vl)) rfl (.cons (rC s 3 0) .nil) rfl s.q ?_; exact ⟨congrArg (fun v => Ending.returned (ae v)) ((yQ (fun j hj => hno j (by omega))).symm), s.o.kept⟩
theorem qy (x : Rc) (l : List Cl) (A : Option Addr) (cap : Nat) (v : Vl) (w : World) (hr : RowK 5 clV w A l) (hl : l.length ≤ 1000000) (hsv : Small v) (hs : ∀ c ∈ l, Small c.v) :
    Calls Tryz.prog 65 #[.agg #[.int .i64 x.c1, .int .i64 x.r1, .int .i64 x.c2, .int .i64 x.r2, .slice A l.length cap], ae v] w fun e w' => e = .returned (ae (we x l v)) ∧ Kept w w' := by
  have sz := iV (x := x); go_enter Tryz.func65, Tryz.ntmps65; refine z00 33 [(0, .agg #[.int .i64 x.c1, .int .i64 x.r1, .int .i64 x.c2, .int .i64 x.r2, .slice A l.length cap]), (1, ae v)] ?_; intro _ s; refine zr s 3 (zV (zB (zB Z0 (.cells #[.int .i64 x.c1, .int .i64 x.r1, .int .i64 x.c2, .int .i64 x.r2, .slice A l.length cap] 37 (0, 0))) (.cells #[.int .u8 v.k, .int .i64 v.n, .string ⟨v.t.toArray⟩] 25 (0, 0))) oZ) ?_; intro gb1 gb2 gb3 _ fw s; refine zr s 1 (zP Z0) ?_; intro _ fw s; refine Ee (fun fr u => ∃ (n0 : Int), (n0 = if aX aj v then aJ x - l.length else 0) ∧ Sg 33 w [Th.obj gb3 oZ, Th.obj gb2 (.cells #[.int .u8 v.k, .int .i64 v.n, .string ⟨v.t.toArray⟩] 25 (0, 0)), Th.obj gb1 (.cells #[.int .i64 x.c1, .int .i64 x.r1, .int .i64 x.c2, .int .i64 x.r2, .slice A l.length cap] 37 (0, 0))] [(2, .pointer (some ⟨gb1, 0, none⟩)), (3, .pointer (some ⟨gb2, 0, none⟩)), (4, .pointer (some ⟨gb3, 0, none⟩)), (5, .int .i64 n0)] fr u) ?_ ?_
  ·skip
   refine zr s 3 (zC (zA (zO Z0 (v := ae (⟨0, 0, []⟩ : Vl)) fun cc => cG (us := #[]) rfl (by simp) (by kernel_rfl)) (ae v) 3 1) fun cc => ie (⟨0, 0, []⟩ : Vl) v _ fZ hsv) ?_; intro _ fw s; refine zb s (Iff.rfl) ?_ ?_
   ·intro hc1
    have hbl : aX aj v = true := hc1; refine zq s 7 (by exact zP (zSb (zN (zL (zF (zC (zA Z0 (.agg #[.int .i64 x.c1, .int .i64 x.r1, .int .i64 x.c2, .int .i64 x.r2, .slice A l.length cap]) 5 2) fun cc => mj x _ _ _ _) 4) 2)))) ?_; intro _ fw s; refine bg ?_; exact ⟨((aJ x) - ((l.length : Nat) : Int)), (Ey hbl), s.c⟩
   intro hc1; have hbl : aX aj v = false := Bool.eq_false_iff.2 hc1; refine wp_skip ?_; refine bg ?_; exact ⟨0, (Gy hbl), s.c⟩
  rintro fa fw ⟨n0, hn0, s⟩; have hb0 : -1000000 ≤ n0 ∧ n0 ≤ 1048576 := by rw [hn0]; split <;> omega
  refine sq fun hK1 => ?_; refine zr s 4 (zP (zN (zL (zF Z0 4) 2))) ?_; intro _ fw s; refine wp_block ?_; refine aP (fun (k : Nat) fr u => ∃ (n : Int), (k ≤ l.length) ∧ (n = n0 + (((l.take k).filter fun c => aX c.v v).length : Int)) ∧ Sg 33 w [Th.obj gb3 oZ, Th.obj gb2 (.cells #[.int .u8 v.k, .int .i64 v.n, .string ⟨v.t.toArray⟩] 25 (0, 0)), Th.obj gb1 (.cells #[.int .i64 x.c1, .int .i64 x.r1, .int .i64 x.c2, .int .i64 x.r2, .slice A l.length cap] 37 (0, 0))] [(3, .pointer (some ⟨gb2, 0, none⟩)), (4, .pointer (some ⟨gb3, 0, none⟩)), (5, .int .i64 n), (18, .slice A l.length cap), (19, .int .i64 ((l.length : Nat) : Int)), (20, .int .i64 (k : Int))] fr u) (fun k => l.length - k) 0 ⟨n0, (Nat.zero_le _), (by simp), s.c⟩ (fun k b_ u_ hI => ?_)
  revert b_ u_; intro fa fw hI
  obtain ⟨n, hk0, hn, s⟩ := hI; refine zr s 1 (zP Z0) ?_; intro _ fw s; refine sq fun hK2 => ?_; refine zi_ s ?_ ?_
  ·intro hc2
   refine wp_skip ?_; refine tn hK2 ?_; refine sq fun hK3 => ?_; refine wp_block ?_; have hltk : k < l.length := by omega
   obtain ⟨cl, hcl⟩ := bI hltk; obtain ⟨bcl, ocl, Acl, ecl⟩ := hr.elem hcl; refine zt_ s 3 (zV (zO (zO Z0 fun cc => al 5 Tryz.underlying35 (by kernel_rfl) rfl Acl cc.e cc.e hltk) (v := .agg #[.int .i64 cl.c, .int .i64 cl.r, .int .u8 cl.v.k, .int .i64 cl.v.n, .string ⟨cl.v.t.toArray⟩]) fun cc => bf (n := 5) 0 rfl (by kernel_rfl) (by kernel_rfl) cc.e rfl (ecl.kept cc.ow.kept)) (.cells #[.int .i64 0, .int .i64 0, .int .u8 0, .int .i64 0, .string ⟨[].toArray⟩] 46 (0, 0))) ?_; intro gb4 _ fw s K4 hK4; refine zS s 0 ?_; intro fw s; refine wt hK4 ?_; refine zr s 4 (zC (zA (zA (zF Z0 2) (ae cl.v) 3 0) (ae v) 3 2) fun cc => ie cl.v v _ (hs cl (List.mem_of_getElem? hcl)) hsv) ?_; intro _ fw s; refine zb s (Iff.rfl) ?_ ?_
   ·intro hc3
    have hsm : aX cl.v v = true := by simpa using hc3
    have fb := dU l k (fun c => aX c.v v); refine zu s 2 (by exact zAd (zP Z0)) ?_; intro _ fw s; refine zw s ?_; intro _ fw s; refine aN ?_; refine aB ?_; refine tn hK3 ?_; refine zu s 1 (by exact zAn Z0 k 1) ?_; intro _ fw s; refine zw s ?_; intro _ fw s; refine aN ?_; exact bg ⟨(k + 1), ⟨(n + 1), hltk, (oL hn hcl hsm), (s.ow s.o.tail).c⟩, (show l.length - (k + 1) < l.length - k by omega)⟩
   intro hc3; have hsm : aX cl.v v = false := by simpa using hc3
   refine wp_skip ?_; refine aB ?_; refine tn hK3 ?_; refine zu s 1 (by exact zAn Z0 k 1) ?_; intro _ fw s; refine zw s ?_; intro _ fw s; refine aN ?_; exact bg ⟨(k + 1), ⟨n, hltk, (ur hn hcl hsm), (s.ow s.o.tail).c⟩, (show l.length - (k + 1) < l.length - k by omega)⟩
  intro hc2; refine wp_exit ?_; refine aM ?_; refine aM ?_; refine aD ?_; refine tn hK1 ?_; have fb := dU l k (fun c => aX c.v v); refine zt_ s 2 (zC (zP Z0) fun cc => dJ n _ (by omega) (by omega)) ?_; intro _ fw s K5 hK5; refine zS s 0 ?_; intro fw s; refine wt hK5 ?_; refine wp_ret ?_; refine ac (v := ae (ay (n * 10000))) rfl (.cons (rC s 3 0) .nil) rfl s.q ?_; exact ⟨congrArg (fun v => Ending.returned (ae v)) (show ay _ = ay _ by rw [kt hn (by omega), hn0]), s.o.kept⟩
theorem wi (x : Rc) (l : List Cl) (A : Option Addr) (cap : Nat) (v : Vl) (w : World) (hr : RowK 5 clV w A l) (hl : l.length ≤ 1000000) (hsv : Small v) (hs : ∀ c ∈ l, Small c.v) (ho : okR x = true) (hf : ∀ c ∈ l, dT x c) :
    Calls Tryz.prog 67 #[ae v, .agg #[.int .i64 x.c1, .int .i64 x.r1, .int .i64 x.c2, .int .i64 x.r2, .slice A l.length cap]] w fun e w' => e = .returned (ae (mW x l v)) ∧ Kept w w' := by
  have sz := iV (x := x); go_enter Tryz.func67, Tryz.ntmps67; refine z00 54 [(0, ae v), (1, .agg #[.int .i64 x.c1, .int .i64 x.r1, .int .i64 x.c2, .int .i64 x.r2, .slice A l.length cap])] ?_; intro _ s; refine zr s 3 (zV (zB (zB Z0 (.cells #[.int .u8 v.k, .int .i64 v.n, .string ⟨v.t.toArray⟩] 25 (0, 0))) (.cells #[.int .i64 x.c1, .int .i64 x.r1, .int .i64 x.c2, .int .i64 x.r2, .slice A l.length cap] 37 (0, 0))) oZ) ?_; intro gb1 gb2 gb3 _ fw s; refine zr s 4 (zP (zC (zA (zO Z0 (v := ae (⟨0, 0, []⟩ : Vl)) fun cc => cG (us := #[]) rfl (by simp) (by kernel_rfl)) (ae v) 3 2) fun cc => ie (⟨0, 0, []⟩ : Vl) v _ fZ hsv)) ?_; intro _ fw s; refine zr s 1 (zP Z0) ?_; intro _ fw s; refine sq fun hK1 => ?_; refine zr s 4 (zP (zN (zL (zF Z0 4) 1))) ?_; intro _ fw s; refine wp_block ?_; refine aP (fun (k : Nat) fr u => ∃ (n : Int), (k ≤ l.length) ∧ (bG x v (aX aj v) 0 l = bG x v (aX aj v) n (l.drop k)) ∧ (0 ≤ n ∧ n ≤ 1048576) ∧ Sg 54 w [Th.obj gb3 oZ, Th.obj gb2 (.cells #[.int .i64 x.c1, .int .i64 x.r1, .int .i64 x.c2, .int .i64 x.r2, .slice A l.length cap] 37 (0, 0)), Th.obj gb1 (.cells #[.int .u8 v.k, .int .i64 v.n, .string ⟨v.t.toArray⟩] 25 (0, 0))] [(2, .pointer (some ⟨gb1, 0, none⟩)), (3, .pointer (some ⟨gb2, 0, none⟩)), (4, .pointer (some ⟨gb3, 0, none⟩)), (5, .bool (aX (⟨0, 0, []⟩ : Vl) v)), (6, .int .i64 n), (14, .slice A l.length cap), (15, .int .i64 ((l.length : Nat) : Int)), (16, .int .i64 (k : Int))] fr u) (fun k => l.length - k) 0 ⟨0, (Nat.zero_le _), rfl, ⟨by decide, by decide⟩, s.c⟩ (fun k b_ u_ hI => ?_)
  revert b_ u_; intro fa fw hI
  obtain ⟨n, hk0, hm, hnb, s⟩ := hI; refine zr s 1 (zP Z0) ?_; intro _ fw s; refine sq fun hK2 => ?_; refine zi_ s ?_ ?_
  ·intro hc1
   refine wp_skip ?_; refine tn hK2 ?_; refine sq fun hK3 => ?_; refine wp_block ?_; have hltk : k < l.length := by omega
   obtain ⟨cl, hcl⟩ := bI hltk; obtain ⟨bcl, ocl, Acl, ecl⟩ := hr.elem hcl; have hfc := (hf cl (List.mem_of_getElem? hcl)).1; have hix := yR ho hfc; refine zt_ s 3 (zV (zO (zO Z0 fun cc => al 5 Tryz.underlying35 (by kernel_rfl) rfl Acl cc.e cc.e hltk) (v := .agg #[.int .i64 cl.c, .int .i64 cl.r, .int .u8 cl.v.k, .int .i64 cl.v.n, .string ⟨cl.v.t.toArray⟩]) fun cc => bf (n := 5) 0 rfl (by kernel_rfl) (by kernel_rfl) cc.e rfl (ecl.kept cc.ow.kept)) (.cells #[.int .i64 0, .int .i64 0, .int .u8 0, .int .i64 0, .string ⟨[].toArray⟩] 46 (0, 0))) ?_; intro gb4 _ fw s K4 hK4; refine zS s 0 ?_; intro fw s; refine wt hK4 ?_; refine zr s 5 (zP (zC (zA (zF (zA Z0 (.agg #[.int .i64 x.c1, .int .i64 x.r1, .int .i64 x.c2, .int .i64 x.r2, .slice A l.length cap]) 5 2) 0) (.agg #[.int .i64 cl.c, .int .i64 cl.r]) 2 0) fun cc => ks x _ _ _ cl.c cl.r _ ho hfc)) ?_; intro _ fw s; refine sq fun hK5 => ?_; refine zr s 6 (zO (zPi (zPi (zPi (zP (zP Z0))))) fun cc => gm rfl cc.e (fun hb => cc.f hb) rfl) ?_; intro _ fw s; refine zb s (pE (Iff.rfl) (decide_eq_true_iff)) ?_ ?_
   ·intro hc2
    have hgp := hc2; refine zt_ s 3 (zC (zAd (zP Z0)) fun cc => dJ (n + 1) _ (by omega) (by omega)) ?_; intro _ fw s K6 hK6; refine zS s 1 ?_; intro fw s; refine wt hK6 ?_; refine wp_ret ?_; refine ag (ao (ag (ag (ao (ag ?_))))); refine ac (v := ae (ay ((n + 1) * 10000))) rfl (.cons (rC s 3 1) .nil) rfl s.q ?_; exact ⟨congrArg (fun v => Ending.returned (ae v)) (yX (hm.trans (yS hcl hgp)) (by omega)), s.o.kept⟩
   intro hc2; have hgo := hc2; refine wp_skip ?_; refine tn hK5 ?_; refine sq fun hK7 => ?_; refine zr s 4 (zC (zA (zA (zF Z0 2) (ae cl.v) 3 0) (ae v) 3 3) fun cc => ie cl.v v _ (hs cl (List.mem_of_getElem? hcl)) hsv) ?_; intro _ fw s; refine zb s (Iff.rfl) ?_ ?_
   ·intro hc3
    have hsm : aX cl.v v = true := by simpa using hc3
    refine zt_ s 3 (zC (zAd (zP Z0)) fun cc => dJ ((bN x cl.c cl.r) + 1) _ (by omega) (by omega)) ?_; intro _ fw s K8 hK8; refine zS s 1 ?_; intro fw s; refine wt hK8 ?_; refine wp_ret ?_; refine ag (ao (ag (ag (ao (ag ?_))))); refine ac (v := ae (ay (((bN x cl.c cl.r) + 1) * 10000))) rfl (.cons (rC s 3 1) .nil) rfl s.q ?_; exact ⟨congrArg (fun v => Ending.returned (ae v)) (yX (hm.trans (yT hcl hgo hsm)) (by omega)), s.o.kept⟩
   intro hc3; have hsm : aX cl.v v = false := by simpa using hc3
   refine wp_skip ?_; refine tn hK7 ?_; refine zq s 3 (by exact zP (zAd (zP Z0))) ?_; intro _ fw s; refine aB ?_; refine tn hK3 ?_; refine zu s 1 (by exact zAn Z0 k 1) ?_; intro _ fw s; refine zw s ?_; intro _ fw s; refine aN ?_; exact bg ⟨(k + 1), ⟨((bN x cl.c cl.r) + 1), hltk, (hm.trans (BQ hcl hgo hsm)), (by omega), (s.ow s.o.tail).c⟩, (show l.length - (k + 1) < l.length - k by omega)⟩
  intro hc1; refine wp_exit ?_; refine aM ?_; refine aM ?_; refine aD ?_; refine tn hK1 ?_; refine sq fun hK9 => ?_; refine zr s 7 (zO (zPi (zCI (zAi (zPi (zP (zP Z0))) (.agg #[.int .i64 x.c1, .int .i64 x.r1, .int .i64 x.c2, .int .i64 x.r2, .slice A l.length cap]) 5 1) fun cc => mj x _ _ _ _)) fun cc => gm rfl cc.e (fun hb => cc.f hb) rfl) ?_; intro _ fw s; refine zb s (pE (Iff.rfl) (decide_eq_true_iff)) ?_ ?_
  ·intro hc4
   have hgp := hc4; refine zt_ s 3 (zC (zAd (zP Z0)) fun cc => dJ (n + 1) _ (by omega) (by omega)) ?_; intro _ fw s K10 hK10; refine zS s 0 ?_; intro fw s; refine wt hK10 ?_; refine wp_ret ?_; refine ag ?_; refine ac (v := ae (ay ((n + 1) * 10000))) rfl (.cons (rC s 3 0) .nil) rfl s.q ?_; exact ⟨congrArg (fun v => Ending.returned (ae v)) (yX (hm.trans (yU (by omega) hgp)) (by omega)), s.o.kept⟩
  intro hc4; have hgo := hc4; refine wp_skip ?_; refine tn hK9 ?_; refine zt_ s 1 (zC Z0 fun cc => cz 4 _) ?_; intro _ fw s K11 hK11; refine zS s 0 ?_; intro fw s; refine wt hK11 ?_; refine wp_ret ?_; refine ac (v := ae (aG 4)) rfl (.cons (rC s 3 0) .nil) rfl s.q ?_; exact ⟨congrArg (fun v => Ending.returned (ae v)) (Gz (hm.trans (yW (by omega) hgo))), s.o.kept⟩
