/- Layer 16: the program's functions, first part (printed by wip/mkagg2.py). -/
import Derived.Test.YtbkjdcpfkepheaaGreatDoorUGAgg1
import Derived.Test.YtbkjdcpfkepheaaGreatDoorUBunV
import Derived.Test.YtbkjdcpfkepheaaGreatDoorUMixAN
namespace Go.Proofs.YtbkjdcpfkepheaaGreatDoor
set_option linter.unusedVariables false
set_option linter.unusedSimpArgs false
open Go.RowKit Lv
set_option maxRecDepth 100000
theorem small_blank : Small blankV := ⟨⟨by decide, by decide⟩, Nat.zero_le _⟩
theorem xeqRef {a : Act} {w : World} {o : Oper} {T2 : TypeId} {x y : Operand} (ho : o.op = .binOp .eql 44 x y T2) {c r d s : Int} (hx : a.eval x = .agg #[.int .i64 c, .int .i64 r]) (hy : a.eval y = .agg #[.int .i64 d, .int .i64 s]) : (execOp a.eval o).run Tryz.prog w = .ok (.value (.bool (decide (c = d ∧ r = s)))) w := by
  unfold execOp; rw [ho]
  simp only [hx, hy]
  go_simp
  by_cases h1 : c = d <;> by_cases h2 : r = s <;> simp [h1, h2]
theorem xeqRc {a : Act} {w : World} {o : Oper} {T2 : TypeId} {x y : Operand} (ho : o.op = .binOp .eql 34 x y T2) {u v : Rc} (hx : a.eval x = .agg #[.int .i64 u.c1, .int .i64 u.r1, .int .i64 u.c2, .int .i64 u.r2]) (hy : a.eval y = .agg #[.int .i64 v.c1, .int .i64 v.r1, .int .i64 v.c2, .int .i64 v.r2]) : (execOp a.eval o).run Tryz.prog w = .ok (.value (.bool (decide (u = v)))) w := by
  unfold execOp; rw [ho]
  simp only [hx, hy]
  obtain ⟨a1, a2, a3, a4⟩ := u; obtain ⟨b1, b2, b3, b4⟩ := v
  go_simp
  by_cases h1 : a1 = b1 <;> by_cases h2 : a2 = b2 <;> by_cases h3 : a3 = b3 <;> by_cases h4 : a4 = b4 <;> simp [h1, h2, h3, h4]
theorem at16_yes {l : List Cl} {k : Nat} {c r : Int} {p : Cl} (h : l[k]? = some p) (hno : ∀ j, j < k → ∀ q, l[j]? = some q → ¬ (q.c = c ∧ q.r = r)) (e : p.c = c ∧ p.r = r) : at16 l c r = p.v := by
  unfold at16
  have : l.find? (fun p => decide (p.c = c ∧ p.r = r)) = some p := by
    obtain ⟨hk, ek⟩ := List.getElem?_eq_some_iff.1 h; rw [List.find?_eq_some_iff_getElem]; refine ⟨by simpa using e, k, hk, ek, fun j hj => ?_⟩; have := hno j hj _ (List.getElem?_eq_getElem (by omega)); rw [decide_eq_false this]
    rfl
  rw [this]
theorem at16_no {l : List Cl} {c r : Int} (hno : ∀ j, j < l.length → ∀ q, l[j]? = some q → ¬ (q.c = c ∧ q.r = r)) : at16 l c r = blankV := by
  unfold at16
  have : l.find? (fun p => decide (p.c = c ∧ p.r = r)) = none := by
    rw [List.find?_eq_none]; intro p hp; obtain ⟨j, hj, e⟩ := List.getElem_of_mem hp; have := hno j hj p (by rw [List.getElem?_eq_getElem hj, e])
    simpa using this
  rw [this]
theorem no_step {α : Type} {l : List α} {k : Nat} {p : α} {P : α → Prop} (h : ∀ j, j < k → ∀ q, l[j]? = some q → P q) (hp : l[k]? = some p) (hn : P p) : ∀ j, j < k + 1 → ∀ q, l[j]? = some q → P q := fun j hj q hq => by
  rcases Nat.lt_succ_iff_lt_or_eq.1 hj with c | rfl
  · exact h j c q hq
  · rw [hp] at hq; cases hq; exact hn
def cif16 (x : Rc) (l : List Cl) (v : Vl) : Vl := vMake (((if same16 blankV v then size16 x - l.length else 0) + (l.filter fun c => same16 c.v v).length) * 10000)
def mat16 (x : Rc) (l : List Cl) (v : Vl) : Vl := if match16 x v (same16 blankV v) 0 l = 0 then vFail 4 else vMake (match16 x v (same16 blankV v) 0 l * 10000)
theorem if0_yes {b : Bool} {n : Int} (h : b = true) : n = if b then n else 0 := by rw [h]; rfl
theorem if0_no {b : Bool} {n : Int} (h : b = false) : 0 = if b then n else 0 := by rw [h]; rfl
theorem filter_le {α : Type} (l : List α) (k : Nat) (p : α → Bool) : ((l.take k).filter p).length ≤ k := Nat.le_trans (List.length_filter_le _ _) (by rw [List.length_take]; omega)
theorem cnt_yes {α : Type} {l : List α} {k : Nat} {p : α → Bool} {c : α} {n n0 : Int} (hn : n = n0 + (((l.take k).filter p).length : Int)) (hc : l[k]? = some c) (h : p c = true) : n + 1 = n0 + (((l.take (k + 1)).filter p).length : Int) := by
  rw [take_at hc, List.filter_append, List.length_append, hn, List.filter_cons_of_pos h]
  simp only [List.filter_nil, List.length_cons, List.length_nil]
  omega
theorem cnt_no {α : Type} {l : List α} {k : Nat} {p : α → Bool} {c : α} {n n0 : Int} (hn : n = n0 + (((l.take k).filter p).length : Int)) (hc : l[k]? = some c) (h : p c = false) : n = n0 + (((l.take (k + 1)).filter p).length : Int) := by
  rw [take_at hc, List.filter_append, List.length_append, hn, List.filter_cons_of_neg (by rw [h]; decide)]
  simp
theorem cnt_all {α : Type} {l : List α} {k : Nat} {p : α → Bool} {n n0 : Int} (hn : n = n0 + (((l.take k).filter p).length : Int)) (hk : l.length ≤ k) : n = n0 + ((l.filter p).length : Int) := by rwa [List.take_of_length_le hk] at hn
theorem idx_box {x : Rc} {c r : Int} (ho : okR x = true) (h : hasR x c r = true) : 0 ≤ idx16 x c r ∧ idx16 x c r < 1048576 := by
  have h1 := idx_in h; obtain ⟨⟨o1, o2, o3⟩, o4, o5, o6⟩ := okR_iff.1 ho; have := mul_in (a := wide16 x) (b := high16 x) (by unfold wide16; omega) (by unfold wide16; omega) (by unfold high16; omega) (by unfold high16; omega)
  omega
theorem match_gap {x : Rc} {v : Vl} {b : Bool} {n : Int} {l : List Cl} {k : Nat} {c : Cl} (h : l[k]? = some c) (g : b = true ∧ n < idx16 x c.c c.r) : match16 x v b n (l.drop k) = n + 1 := by
  rw [drop_at h, match16, if_pos g]
theorem match_hit {x : Rc} {v : Vl} {b : Bool} {n : Int} {l : List Cl} {k : Nat} {c : Cl} (h : l[k]? = some c) (g : ¬ (b = true ∧ n < idx16 x c.c c.r)) (e : same16 c.v v = true) : match16 x v b n (l.drop k) = idx16 x c.c c.r + 1 := by
  rw [drop_at h, match16, if_neg g, if_pos e]
theorem match_on {x : Rc} {v : Vl} {b : Bool} {n : Int} {l : List Cl} {k : Nat} {c : Cl} (h : l[k]? = some c) (g : ¬ (b = true ∧ n < idx16 x c.c c.r)) (e : same16 c.v v = false) : match16 x v b n (l.drop k) = match16 x v b (idx16 x c.c c.r + 1) (l.drop (k + 1)) := by
  rw [drop_at h, match16, if_neg g, if_neg (by rw [e]; decide)]
theorem match_end {x : Rc} {v : Vl} {b : Bool} {n : Int} {l : List Cl} {k : Nat} (h : l.length ≤ k) (g : b = true ∧ n < size16 x) : match16 x v b n (l.drop k) = n + 1 := by
  rw [List.drop_eq_nil_of_le h, match16, if_pos g]
theorem match_out {x : Rc} {v : Vl} {b : Bool} {n : Int} {l : List Cl} {k : Nat} (h : l.length ≤ k) (g : ¬ (b = true ∧ n < size16 x)) : match16 x v b n (l.drop k) = 0 := by
  rw [List.drop_eq_nil_of_le h, match16, if_neg g]
theorem mat_at {x : Rc} {l : List Cl} {v : Vl} {n : Int} (h : match16 x v (same16 blankV v) 0 l = n) (h0 : n ≠ 0) : vMake (n * 10000) = mat16 x l v := by
  unfold mat16; rw [h, if_neg h0]
theorem mat_no {x : Rc} {l : List Cl} {v : Vl} (h : match16 x v (same16 blankV v) 0 l = 0) : vFail 4 = mat16 x l v := by
  unfold mat16; rw [h, if_pos rfl]
theorem size_in {x : Rc} : 0 ≤ size16 x ∧ size16 x ≤ 1048576 := by
  unfold size16
  split
  · rename_i h
    obtain ⟨⟨o1, o2, o3⟩, o4, o5, o6⟩ := okR_iff.1 h; exact mul_in (a := wide16 x) (b := high16 x) (by unfold wide16; omega) (by unfold wide16; omega) (by unfold high16; omega) (by unfold high16; omega)
  · omega
theorem en_agg_equal : En 104 := by intro args w; go_simp
theorem en_agg_index : En 62 := by intro args w; go_simp
theorem en_agg_size : En 105 := by intro args w; go_simp
theorem en_agg_whole : En 106 := by intro args w; go_simp
theorem en_val_Compare : En 19 := by intro args w; go_simp
theorem en_val_Fail : En 56 := by intro args w; go_simp
theorem en_val_Make : En 103 := by intro args w; go_simp
set_option maxHeartbeats 4000000 in
theorem aequal_any (a b : Vl) (w : World) (ha : Small a) (hb : Small b) :
    Calls Tryz.prog 104 #[aggV a, aggV b] w fun e w' => e = .returned (.bool (same16 a b)) ∧ Kept w w' := by
  go_enter Tryz.func104, Tryz.ntmps104; refine sq fun hK1 => ?_
  refine ro [yNew w.heap.size (.cells #[.int .u8 a.k, .int .i64 a.n, .string ⟨a.t.toArray⟩] 25 (0, 0)), yNew w.heap.size (.cells #[.int .u8 b.k, .int .i64 b.n, .string ⟨b.t.toArray⟩] 25 (0, 0)), yV _] 3 19 rfl rfl (Own.start w) (
    aP (fun hk bs hd => xbox rfl (bs.get 0 rfl rfl) (by kernel_rfl)) rfl <|
    aP (fun hk bs hd => xbox rfl (bs.get 1 rfl rfl) (by kernel_rfl)) rfl <|
    aS (fun hk bs hd => xassign rfl rfl) rfl <|
    arm0) fun fa fw bs hv ap z q ov => ?_
  obtain ⟨gb1, s2, bgb1, hgb1⟩ := gotP hv 0 rfl rfl rfl; have ov := ov.cons hgb1 (Nat.le_trans (Own.start w).kept.size bgb1) ((Own.start w).below bgb1); obtain ⟨gb2, s3, bgb2, hgb2⟩ := gotP hv 1 rfl rfl rfl; have ov := ov.cons hgb2 (Nat.le_trans (Own.start w).kept.size bgb2) (ne_cons (apartP ap 0 1 rfl rfl rfl s2 rfl s3 rfl) ((Own.start w).below bgb2)); have s4 := gv hv 2 rfl rfl; have ow := ov; refine wt hK1 ?_; refine sq fun hK2 => ?_
  refine ro [yV (aggV a), yV (aggV b), yV (.tuple #[.int .i64 ((vCmp a b).1), .int .i64 ((vCmp a b).2)]), yV _, yV _, yV _, yV _, yV _] 8 19 z q ow (
    aS (fun hk bs hd => xloadN 3 rfl (by kernel_rfl) (by kernel_rfl) (bg bs s2) ((ow.keep hk).box 1 rfl) (Nat.le_of_ble_eq_true rfl) rfl) rfl <|
    aS (fun hk bs hd => xloadN 3 rfl (by kernel_rfl) (by kernel_rfl) (bg bs s3) ((ow.keep hk).box 0 rfl) (Nat.le_of_ble_eq_true rfl) rfl) rfl <|
    aC (fun hk bs hd => xcall2 rfl (dp hd 0 rfl) (dp hd 1 rfl) (en_val_Compare _ _)) (fun hk bs hd => vcompare_any a b _ ha.1 hb.1 (Nat.le_trans ha.2 (by decide)) (Nat.le_trans hb.2 (by decide))) rfl <|
    mvD 2 rfl rfl rfl rfl rfl rfl <|
    aS (fun hk bs hd => xextract rfl (dp hd 3 rfl) rfl) rfl <|
    aS (fun hk bs hd => xextract rfl (dp hd 3 rfl) rfl) rfl <|
    asD 4 rfl rfl rfl rfl rfl rfl <|
    asD 5 rfl rfl rfl rfl rfl rfl <|
    arm0) fun fa fw bs hv ap z q ow => ?_
  have s4 := bg bs s4; have s5 := gv hv 6 rfl rfl; have s6 := gv hv 7 rfl rfl; refine wt hK2 ?_; refine sq fun hK3 => ?_
  refine ro [yV _, yV _, yV _, yIf _ (yV _), yIf _ (yV _), yV _, yV _] 7 19 z q ow (
    mvS s6 rfl rfl rfl rfl <|
    aS (fun hk bs hd => xeqi rfl (dp hd 0 rfl) rfl) rfl <|
    mvD 1 rfl rfl rfl rfl rfl rfl <|
    ai (g1 2 rfl rfl) (fun hk bs hd hz => xmove rfl (bg bs s5)) rfl <|
    ai (g1 2 rfl rfl) (fun hk bs hd hz => xeqi rfl (di hd 3 rfl hz) rfl) rfl <|
    aS (fun hk bs hd => xand rfl (dp hd 2 rfl) (fun hb => di hd 4 rfl hb) rfl) rfl <|
    asD 5 rfl rfl rfl rfl rfl rfl <|
    arm0) fun fa fw bs hv ap z q ow => ?_
  have s4 := gv hv 6 rfl rfl; refine wt hK3 ?_; refine wp_ret ?_; refine results_one rfl (res_tmp s4) q ?_; exact ⟨(congrArg (fun b => Ending.returned (.bool b)) (show _ = same16 a b by rfl)), ow.kept⟩
set_option maxHeartbeats 4000000 in
theorem awhole_any (n : Int) (w : World) (h1 : -900000000000000 ≤ n) (h2 : n ≤ 900000000000000) :
    Calls Tryz.prog 106 #[.int .i64 n] w fun e w' => e = .returned (aggV (vMake (n * 10000))) ∧ Kept w w' := by
  go_enter Tryz.func106, Tryz.ntmps106; refine sq fun hK1 => ?_
  refine ro [yNew w.heap.size (.cells #[.int .u8 0, .int .i64 0, .string ⟨[].toArray⟩] 25 (0, 0))] 1 6 rfl rfl (Own.start w) (
    aP (fun hk bs hd => xalloc rfl (by kernel_rfl)) rfl <|
    arm0) fun fa fw bs hv ap z q ov => ?_
  have s0 := bs.get 0 rfl rfl; obtain ⟨gb1, s2, bgb1, hgb1⟩ := gotP hv 0 rfl rfl rfl; have ov := ov.cons hgb1 (Nat.le_trans (Own.start w).kept.size bgb1) ((Own.start w).below bgb1); have ow := ov; refine wt hK1 ?_; refine sq fun hK2 => ?_
  refine ro [yV _, yV _, yV (aggV (vMake (n * 10000)))] 3 6 z q ow (
    mvS s0 rfl rfl rfl rfl <|
    aS (fun hk bs hd => xmul (Or.inr rfl) rfl (dp hd 0 rfl) rfl (by omega) (by omega)) rfl <|
    aC (fun hk bs hd => xcall1 rfl (dp hd 1 rfl) (en_val_Make _ _)) (fun hk bs hd => vmake_any (n * 10000) _ (by omega) (by omega)) rfl <|
    arm0) fun fa fw bs hv ap z q ow => ?_
  have s2 := bg bs s2; have s5 := gv hv 2 rfl rfl; refine ws ow 0 0 s2 s5 fun fw ow => ?_; refine wt hK2 ?_; refine wp_ret ?_; refine rs3 s2 (ow.box 0 rfl) q ?_; exact ⟨rfl, ow.kept⟩
set_option maxHeartbeats 4000000 in
theorem aresult_any (n : Int) (b : Bool) (w : World) (hn : b = true → i64 n) :
    Calls Tryz.prog 131 #[.int .i64 n, .bool b] w fun e w' => e = .returned (aggV (vRes (n, b))) ∧ Kept w w' := by
  go_enter Tryz.func131, Tryz.ntmps131; refine sq fun hK1 => ?_
  refine ro [yNew w.heap.size (.cells #[.int .u8 0, .int .i64 0, .string ⟨[].toArray⟩] 25 (0, 0))] 1 10 rfl rfl (Own.start w) (
    aP (fun hk bs hd => xalloc rfl (by kernel_rfl)) rfl <|
    arm0) fun fa fw bs hv ap z q ov => ?_
  have s0 := bs.get 0 rfl rfl; have s1 := bs.get 1 rfl rfl; obtain ⟨gb1, s4, bgb1, hgb1⟩ := gotP hv 0 rfl rfl rfl; have ov := ov.cons hgb1 (Nat.le_trans (Own.start w).kept.size bgb1) ((Own.start w).below bgb1); have ow := ov; refine wt hK1 ?_; refine sq fun hK2 => ?_; refine sq fun hK3 => ?_
  refine ro [yV _, yV _] 2 10 z q ow (
    mvS s1 rfl rfl rfl rfl <|
    aS (fun hk bs hd => xnot rfl (dp hd 0 rfl)) rfl <|
    arm0) fun fa fw bs hv ap z q ow => ?_
  obtain ⟨s0, s4⟩ := b2 bs s0 s4; have s6 := gv hv 1 rfl rfl; refine wt hK3 ?_
  by_cases hc1 : ¬ (b = true)
  ·refine ct s6 ((bnot (Iff.rfl)).2 hc1) ?_
   have hb : b = false := by simpa using hc1
   refine sq fun hK4 => ?_
   refine ro [yV (aggV (vFail 3))] 1 10 z q ow (
     aC (fun hk bs hd => xcall1 rfl rfl (en_val_Fail _ _)) (fun hk bs hd => vfail_any 3 _) rfl <|
     arm0) fun fa fw bs hv ap z q ow => ?_
   obtain ⟨s0, s4⟩ := b2 bs s0 s4; have s7 := gv hv 0 rfl rfl; refine ws ow 0 0 s4 s7 fun fw ow => ?_; refine wt hK4 ?_; refine wp_ret ?_; refine then_r ?_; refine rs3 s4 (ow.box 0 rfl) q ?_; exact ⟨congrArg (fun v => Ending.returned (aggV v)) (show _ = vRes (n, b) by unfold vRes; rw [hb]; rfl), ow.kept⟩
  refine cf s6 (bnot (Iff.rfl)) hc1 ?_; have hb : b = true := by simpa using hc1
  refine wp_skip ?_; refine tn hK2 ?_; refine sq fun hK5 => ?_
  refine ro [yV _, yV (aggV (vMake n))] 2 10 z q ow (
    mvS s0 rfl rfl rfl rfl <|
    aC (fun hk bs hd => xcall1 rfl (dp hd 0 rfl) (en_val_Make _ _)) (fun hk bs hd => vmake_any n _ (hn hb).1 (hn hb).2) rfl <|
    arm0) fun fa fw bs hv ap z q ow => ?_
  have s4 := bg bs s4; have s9 := gv hv 1 rfl rfl; refine ws ow 0 0 s4 s9 fun fw ow => ?_; refine wt hK5 ?_; refine wp_ret ?_; refine rs3 s4 (ow.box 0 rfl) q ?_; exact ⟨congrArg (fun v => Ending.returned (aggV v)) (show _ = vRes (n, b) by unfold vRes; rw [hb]; rfl), ow.kept⟩
set_option maxHeartbeats 4000000 in
theorem aat_any (x : Rc) (l : List Cl) (A : Option Addr) (cap : Nat) (c r : Int) (w : World) (hr : RowK 5 clV w A l) (hl : l.length ≤ 1000000) :
    Calls Tryz.prog 107 #[.agg #[.int .i64 x.c1, .int .i64 x.r1, .int .i64 x.c2, .int .i64 x.r2, .slice A l.length cap], .agg #[.int .i64 c, .int .i64 r]] w fun e w' => e = .returned (aggV (at16 l c r)) ∧ Kept w w' := by
  go_enter Tryz.func107, Tryz.ntmps107; refine sq fun hK1 => ?_
  refine ro [yNew w.heap.size (.cells #[.int .i64 x.c1, .int .i64 x.r1, .int .i64 x.c2, .int .i64 x.r2, .slice A l.length cap] 37 (0, 0)), yNew w.heap.size (.cells #[.int .i64 c, .int .i64 r] 44 (0, 0)), yNew w.heap.size (.cells #[.int .u8 0, .int .i64 0, .string ⟨[].toArray⟩] 25 (0, 0))] 3 22 rfl rfl (Own.start w) (
    aP (fun hk bs hd => xbox rfl (bs.get 0 rfl rfl) (by kernel_rfl)) rfl <|
    aP (fun hk bs hd => xbox rfl (bs.get 1 rfl rfl) (by kernel_rfl)) rfl <|
    aP (fun hk bs hd => xalloc rfl (by kernel_rfl)) rfl <|
    arm0) fun fa fw bs hv ap z q ov => ?_
  obtain ⟨gb1, s2, bgb1, hgb1⟩ := gotP hv 0 rfl rfl rfl; have ov := ov.cons hgb1 (Nat.le_trans (Own.start w).kept.size bgb1) ((Own.start w).below bgb1); obtain ⟨gb2, s3, bgb2, hgb2⟩ := gotP hv 1 rfl rfl rfl; have ov := ov.cons hgb2 (Nat.le_trans (Own.start w).kept.size bgb2) (ne_cons (apartP ap 0 1 rfl rfl rfl s2 rfl s3 rfl) ((Own.start w).below bgb2)); obtain ⟨gb3, s4, bgb3, hgb3⟩ := gotP hv 2 rfl rfl rfl; have ov := ov.cons hgb3 (Nat.le_trans (Own.start w).kept.size bgb3) (ne_cons (apartP ap 1 2 rfl rfl rfl s3 rfl s4 rfl) (ne_cons (apartP ap 0 2 rfl rfl rfl s2 rfl s4 rfl) ((Own.start w).below bgb3))); have ow := ov; refine wt hK1 ?_; refine sq fun hK2 => ?_; refine sq fun hK3 => ?_
  refine ro [yV (.pointer (some ⟨gb1, 4, none⟩)), yV _, yV _, yV _] 4 22 z q ow (
    aS (fun hk bs hd => xfieldAddr rfl (bg bs s2) (by kernel_rfl)) rfl <|
    aS (fun hk bs hd => xloadB rfl (by kernel_rfl) (dp hd 0 rfl) ((ow.keep hk).box 2 rfl) rfl) rfl <|
    aS (fun hk bs hd => xlen Tryz.underlying35 rfl (dp hd 1 rfl)) rfl <|
    aS (fun hk bs hd => xmove rfl rfl) rfl <|
    arm0) fun fa fw bs hv ap z q ow => ?_
  obtain ⟨s3, s4⟩ := b2 bs s3 s4; have s8 := gv hv 1 rfl rfl; have s9 := gv hv 2 rfl rfl; have s10 := gv hv 3 rfl rfl; refine wt hK3 ?_; refine wp_block ?_; refine wp_loop_g (fun (k : Nat) fr u => (k ≤ l.length) ∧ (∀ j, j < k → ∀ q, l[j]? = some q → ¬ (q.c = c ∧ q.r = r)) ∧ fr.tmps.size = 22 ∧ fr.defers = [] ∧ Own w [Th.obj gb3 (.cells #[.int .u8 0, .int .i64 0, .string ⟨[].toArray⟩] 25 (0, 0)), Th.obj gb2 (.cells #[.int .i64 c, .int .i64 r] 44 (0, 0)), Th.obj gb1 (.cells #[.int .i64 x.c1, .int .i64 x.r1, .int .i64 x.c2, .int .i64 x.r2, .slice A l.length cap] 37 (0, 0))] u ∧ fr.eval (.tmp 3) = .pointer (some ⟨gb2, 0, none⟩) ∧ fr.eval (.tmp 4) = .pointer (some ⟨gb3, 0, none⟩) ∧ fr.eval (.tmp 8) = .slice A l.length cap ∧ fr.eval (.tmp 9) = .int .i64 ((l.length : Nat) : Int) ∧ fr.eval (.tmp 10) = .int .i64 (k : Int)) (fun k => l.length - k) 0 ⟨(Nat.zero_le _), (fun j hj => absurd hj (Nat.not_lt_zero j)), z, q, ow, s3, s4, s8, s9, s10⟩ (fun k b_ u_ hI => ?_)
  revert b_ u_; intro fa fw hI
  obtain ⟨hk0, hno, z, q, ow, s3, s4, s8, s9, s10⟩ := hI; refine sq fun hK4 => ?_
  refine ro [yV _] 1 22 z q ow (
    aS (fun hk bs hd => xlss rfl (bg bs s10) (bg bs s9)) rfl <|
    arm0) fun fa fw bs hv ap z q ow => ?_
  obtain ⟨s3, s4, s8, s9, s10⟩ := b5 bs s3 s4 s8 s9 s10; have s11 := gv hv 0 rfl rfl; refine wt hK4 ?_; refine sq fun hK5 => ?_
  by_cases hc1 : (k : Int) < ((l.length : Nat) : Int)
  ·refine ct s11 ((decide_eq_true_iff).2 hc1) ?_
   refine wp_skip ?_; refine tn hK5 ?_; refine sq fun hK6 => ?_; refine wp_block ?_; refine sq fun hK7 => ?_; have hltk : k < l.length := by omega
   obtain ⟨cl, hcl⟩ := at_some hltk; obtain ⟨bcl, ocl, Acl, ecl⟩ := hr.elem hcl
   refine ro [yV _, yV (.agg #[.int .i64 cl.c, .int .i64 cl.r, .int .u8 cl.v.k, .int .i64 cl.v.n, .string ⟨cl.v.t.toArray⟩]), yNew fw.heap.size (.cells #[.int .i64 0, .int .i64 0, .int .u8 0, .int .i64 0, .string ⟨[].toArray⟩] 46 (0, 0))] 3 22 z q ow (
     aS (fun hk bs hd => xplaceK 5 Tryz.underlying35 (by kernel_rfl) rfl Acl (bg bs s8) (bg bs s10) hltk) rfl <|
     aS (fun hk bs hd => xpartK (n := 5) 0 rfl (by kernel_rfl) (by kernel_rfl) (dp hd 0 rfl) rfl (ecl.kept (ow.keep hk).kept)) rfl <|
     aP (fun hk bs hd => xalloc rfl (by kernel_rfl)) rfl <|
     arm0) fun fa fw bs hv ap z q ov => ?_
   obtain ⟨s3, s4, s8, s9, s10⟩ := b5 bs s3 s4 s8 s9 s10; have s13 := gv hv 1 rfl rfl; obtain ⟨gb4, s6, bgb4, hgb4⟩ := gotP hv 2 rfl rfl rfl; have ov := ov.cons hgb4 (Nat.le_trans ow.kept.size bgb4) (ow.below bgb4); have ow := ov; refine ws ow 0 0 s6 s13 fun fw ow => ?_; refine wt hK7 ?_; refine sq fun hK8 => ?_
   refine ro [yV (.pointer (some ⟨gb4, 0, none⟩)), yV (.agg #[.int .i64 cl.c, .int .i64 cl.r]), yV (.agg #[.int .i64 c, .int .i64 r]), yV _] 4 22 z q ow (
     aS (fun hk bs hd => xfieldAddr rfl (bg bs s6) (by kernel_rfl)) rfl <|
     aS (fun hk bs hd => xloadN 2 rfl (by kernel_rfl) (by kernel_rfl) (dp hd 0 rfl) ((ow.keep hk).box 0 rfl) (Nat.le_of_ble_eq_true rfl) rfl) rfl <|
     aS (fun hk bs hd => xloadN 2 rfl (by kernel_rfl) (by kernel_rfl) (bg bs s3) ((ow.keep hk).box 2 rfl) (Nat.le_of_ble_eq_true rfl) rfl) rfl <|
     aS (fun hk bs hd => xeqRef rfl (dp hd 1 rfl) (dp hd 2 rfl)) rfl <|
     arm0) fun fa fw bs hv ap z q ow => ?_
   obtain ⟨s3, s4, s8, s9, s10, s6⟩ := b6 bs s3 s4 s8 s9 s10 s6; have s17 := gv hv 3 rfl rfl; refine wt hK8 ?_
   by_cases hc2 : cl.c = c ∧ cl.r = r
   ·refine ct s17 ((decide_eq_true_iff).2 hc2) ?_
    refine sq fun hK9 => ?_
    refine ro [yV (.pointer (some ⟨gb4, 2, none⟩)), yV (aggV cl.v)] 2 22 z q ow (
      aS (fun hk bs hd => xfieldAddr rfl (bg bs s6) (by kernel_rfl)) rfl <|
      aS (fun hk bs hd => xloadN 3 rfl (by kernel_rfl) (by kernel_rfl) (dp hd 0 rfl) ((ow.keep hk).box 0 rfl) (Nat.le_of_ble_eq_true rfl) rfl) rfl <|
      arm0) fun fa fw bs hv ap z q ow => ?_
    obtain ⟨s3, s4, s8, s9, s10⟩ := b5 bs s3 s4 s8 s9 s10; have s19 := gv hv 1 rfl rfl; refine ws ow 1 0 s4 s19 fun fw ow => ?_; refine wt hK9 ?_; refine wp_ret ?_; refine block_r ?_; refine then_r ?_; refine then_r ?_; refine block_r ?_; refine then_r ?_; refine rs3 s4 (ow.box 1 rfl) q ?_; exact ⟨congrArg (fun v => Ending.returned (aggV v)) ((at16_yes hcl hno hc2).symm), ow.kept⟩
   refine cf s17 (decide_eq_true_iff) hc2 ?_; have hne := hc2; refine wp_skip ?_; refine block_n ?_; refine tn hK6 ?_
   refine ro [yV (.int .i64 ((k + 1 : Nat) : Int))] 1 22 z q ow (
     aS (fun hk bs hd => xadd (Or.inl rfl) rfl (bg bs s10) rfl (by omega) (by omega)) rfl <|
     arm0) fun fa fw bs hv ap z q ow => ?_
   obtain ⟨s3, s4, s8, s9, s10⟩ := b5 bs s3 s4 s8 s9 s10; have s20 := gv hv 0 rfl rfl; refine wl_value (v := .int .i64 ((k + 1 : Nat) : Int)) (want0 rfl) (xmove rfl s20) ?_; refine gp4 z q ow s3 s4 s8 s9 fun fa fw z q ow s3 s4 s8 s9 s10 => ?_; refine wl_end ?_; exact then_n ⟨(k + 1), ⟨hltk, (no_step hno hcl hne), z, q, ow.tail, s3, s4, s8, s9, s10⟩, (show l.length - (k + 1) < l.length - k by omega)⟩
  refine cf s11 (decide_eq_true_iff) hc1 ?_; refine wp_exit ?_; refine then_e ?_; refine then_e ?_; refine block_hit ?_; refine tn hK2 ?_; refine sq fun hK10 => ?_
  refine ro [yV (aggV (⟨0, 0, []⟩ : Vl))] 1 22 z q ow (
    aS (fun hk bs hd => xbuild (us := #[]) rfl (by simp) (by kernel_rfl)) rfl <|
    arm0) fun fa fw bs hv ap z q ow => ?_
  have s4 := bg bs s4; have s21 := gv hv 0 rfl rfl; refine ws ow 0 0 s4 s21 fun fw ow => ?_; refine wt hK10 ?_; refine wp_ret ?_; refine rs3 s4 (ow.box 0 rfl) q ?_; exact ⟨congrArg (fun v => Ending.returned (aggV v)) ((at16_no (fun j hj => hno j (by omega))).symm), ow.kept⟩
set_option maxHeartbeats 4000000 in
theorem acountif_any (x : Rc) (l : List Cl) (A : Option Addr) (cap : Nat) (v : Vl) (w : World) (hr : RowK 5 clV w A l) (hl : l.length ≤ 1000000) (hsv : Small v) (hs : ∀ c ∈ l, Small c.v) :
    Calls Tryz.prog 65 #[.agg #[.int .i64 x.c1, .int .i64 x.r1, .int .i64 x.c2, .int .i64 x.r2, .slice A l.length cap], aggV v] w fun e w' => e = .returned (aggV (cif16 x l v)) ∧ Kept w w' := by
  have sz := size_in (x := x); go_enter Tryz.func65, Tryz.ntmps65; refine sq fun hK1 => ?_
  refine ro [yNew w.heap.size (.cells #[.int .i64 x.c1, .int .i64 x.r1, .int .i64 x.c2, .int .i64 x.r2, .slice A l.length cap] 37 (0, 0)), yNew w.heap.size (.cells #[.int .u8 v.k, .int .i64 v.n, .string ⟨v.t.toArray⟩] 25 (0, 0)), yNew w.heap.size (.cells #[.int .u8 0, .int .i64 0, .string ⟨[].toArray⟩] 25 (0, 0))] 3 33 rfl rfl (Own.start w) (
    aP (fun hk bs hd => xbox rfl (bs.get 0 rfl rfl) (by kernel_rfl)) rfl <|
    aP (fun hk bs hd => xbox rfl (bs.get 1 rfl rfl) (by kernel_rfl)) rfl <|
    aP (fun hk bs hd => xalloc rfl (by kernel_rfl)) rfl <|
    arm0) fun fa fw bs hv ap z q ov => ?_
  obtain ⟨gb1, s2, bgb1, hgb1⟩ := gotP hv 0 rfl rfl rfl; have ov := ov.cons hgb1 (Nat.le_trans (Own.start w).kept.size bgb1) ((Own.start w).below bgb1); obtain ⟨gb2, s3, bgb2, hgb2⟩ := gotP hv 1 rfl rfl rfl; have ov := ov.cons hgb2 (Nat.le_trans (Own.start w).kept.size bgb2) (ne_cons (apartP ap 0 1 rfl rfl rfl s2 rfl s3 rfl) ((Own.start w).below bgb2)); obtain ⟨gb3, s4, bgb3, hgb3⟩ := gotP hv 2 rfl rfl rfl; have ov := ov.cons hgb3 (Nat.le_trans (Own.start w).kept.size bgb3) (ne_cons (apartP ap 1 2 rfl rfl rfl s3 rfl s4 rfl) (ne_cons (apartP ap 0 2 rfl rfl rfl s2 rfl s4 rfl) ((Own.start w).below bgb3))); have ow := ov; refine wt hK1 ?_; refine sq fun hK2 => ?_
  refine ro [yV _] 1 33 z q ow (
    aS (fun hk bs hd => xassign rfl rfl) rfl <|
    arm0) fun fa fw bs hv ap z q ow => ?_
  obtain ⟨s2, s3, s4⟩ := b3 bs s2 s3 s4; have s5 := gv hv 0 rfl rfl; refine wt hK2 ?_; refine wp_join (fun fr u => ∃ (n0 : Int), (n0 = if same16 blankV v then size16 x - l.length else 0) ∧ fr.tmps.size = 33 ∧ fr.defers = [] ∧ Own w [Th.obj gb3 (.cells #[.int .u8 0, .int .i64 0, .string ⟨[].toArray⟩] 25 (0, 0)), Th.obj gb2 (.cells #[.int .u8 v.k, .int .i64 v.n, .string ⟨v.t.toArray⟩] 25 (0, 0)), Th.obj gb1 (.cells #[.int .i64 x.c1, .int .i64 x.r1, .int .i64 x.c2, .int .i64 x.r2, .slice A l.length cap] 37 (0, 0))] u ∧ fr.eval (.tmp 2) = .pointer (some ⟨gb1, 0, none⟩) ∧ fr.eval (.tmp 3) = .pointer (some ⟨gb2, 0, none⟩) ∧ fr.eval (.tmp 4) = .pointer (some ⟨gb3, 0, none⟩) ∧ fr.eval (.tmp 5) = .int .i64 n0) ?_ ?_
  ·skip
   refine sq fun hK3 => ?_
   refine ro [yV (aggV (⟨0, 0, []⟩ : Vl)), yV (aggV v), yV (.bool (same16 (⟨0, 0, []⟩ : Vl) v))] 3 33 z q ow (
     aS (fun hk bs hd => xbuild (us := #[]) rfl (by simp) (by kernel_rfl)) rfl <|
     aS (fun hk bs hd => xloadN 3 rfl (by kernel_rfl) (by kernel_rfl) (bg bs s3) ((ow.keep hk).box 1 rfl) (Nat.le_of_ble_eq_true rfl) rfl) rfl <|
     aC (fun hk bs hd => xcall2 rfl (dp hd 0 rfl) (dp hd 1 rfl) (en_agg_equal _ _)) (fun hk bs hd => aequal_any (⟨0, 0, []⟩ : Vl) v _ small_blank hsv) rfl <|
     arm0) fun fa fw bs hv ap z q ow => ?_
   obtain ⟨s2, s3, s4, s5⟩ := b4 bs s2 s3 s4 s5; have s10 := gv hv 2 rfl rfl; refine wt hK3 ?_
   by_cases hc1 : (same16 (⟨0, 0, []⟩ : Vl) v) = true
   ·refine ct s10 ((Iff.rfl).2 hc1) ?_
    have hbl : same16 blankV v = true := hc1
    refine ro [yV (.agg #[.int .i64 x.c1, .int .i64 x.r1, .int .i64 x.c2, .int .i64 x.r2, .slice A l.length cap]), yV (.int .i64 (size16 x)), yV (.pointer (some ⟨gb1, 4, none⟩)), yV _, yV _, yV _, yV _] 7 33 z q ow (
      aS (fun hk bs hd => xloadN 5 rfl (by kernel_rfl) (by kernel_rfl) (bg bs s2) ((ow.keep hk).box 2 rfl) (Nat.le_of_ble_eq_true rfl) rfl) rfl <|
      aC (fun hk bs hd => xcall1 rfl (dp hd 0 rfl) (en_agg_size _ _)) (fun hk bs hd => asize_any x _ _ _ _) rfl <|
      aS (fun hk bs hd => xfieldAddr rfl (bg bs s2) (by kernel_rfl)) rfl <|
      aS (fun hk bs hd => xloadB rfl (by kernel_rfl) (dp hd 2 rfl) ((ow.keep hk).box 2 rfl) rfl) rfl <|
      aS (fun hk bs hd => xlen Tryz.underlying35 rfl (dp hd 3 rfl)) rfl <|
      aS (fun hk bs hd => xsub (Or.inl rfl) rfl (dp hd 1 rfl) (dp hd 4 rfl) (by omega) (by omega)) rfl <|
      asD 5 rfl rfl rfl rfl rfl rfl <|
      arm0) fun fa fw bs hv ap z q ow => ?_
    obtain ⟨s2, s3, s4⟩ := b3 bs s2 s3 s4; have s5 := gv hv 6 rfl rfl; refine wl_end ?_; refine then_n ?_; exact ⟨((size16 x) - ((l.length : Nat) : Int)), (if0_yes hbl), z, q, ow, s2, s3, s4, s5⟩
   refine cf s10 (Iff.rfl) hc1 ?_; have hbl : same16 blankV v = false := Bool.eq_false_iff.2 hc1; refine wp_skip ?_; refine then_n ?_; exact ⟨0, (if0_no hbl), z, q, ow, s2, s3, s4, s5⟩
  rintro fa fw ⟨n0, hn0, z, q, ow, s2, s3, s4, s5⟩; have hb0 : -1000000 ≤ n0 ∧ n0 ≤ 1048576 := by rw [hn0]; split <;> omega
  refine sq fun hK4 => ?_; refine sq fun hK5 => ?_
  refine ro [yV (.pointer (some ⟨gb1, 4, none⟩)), yV _, yV _, yV _] 4 33 z q ow (
    aS (fun hk bs hd => xfieldAddr rfl (bg bs s2) (by kernel_rfl)) rfl <|
    aS (fun hk bs hd => xloadB rfl (by kernel_rfl) (dp hd 0 rfl) ((ow.keep hk).box 2 rfl) rfl) rfl <|
    aS (fun hk bs hd => xlen Tryz.underlying35 rfl (dp hd 1 rfl)) rfl <|
    aS (fun hk bs hd => xmove rfl rfl) rfl <|
    arm0) fun fa fw bs hv ap z q ow => ?_
  obtain ⟨s3, s4, s5⟩ := b3 bs s3 s4 s5; have s18 := gv hv 1 rfl rfl; have s19 := gv hv 2 rfl rfl; have s20 := gv hv 3 rfl rfl; refine wt hK5 ?_; refine wp_block ?_; refine wp_loop_g (fun (k : Nat) fr u => ∃ (n : Int), (k ≤ l.length) ∧ (n = n0 + (((l.take k).filter fun c => same16 c.v v).length : Int)) ∧ fr.tmps.size = 33 ∧ fr.defers = [] ∧ Own w [Th.obj gb3 (.cells #[.int .u8 0, .int .i64 0, .string ⟨[].toArray⟩] 25 (0, 0)), Th.obj gb2 (.cells #[.int .u8 v.k, .int .i64 v.n, .string ⟨v.t.toArray⟩] 25 (0, 0)), Th.obj gb1 (.cells #[.int .i64 x.c1, .int .i64 x.r1, .int .i64 x.c2, .int .i64 x.r2, .slice A l.length cap] 37 (0, 0))] u ∧ fr.eval (.tmp 3) = .pointer (some ⟨gb2, 0, none⟩) ∧ fr.eval (.tmp 4) = .pointer (some ⟨gb3, 0, none⟩) ∧ fr.eval (.tmp 5) = .int .i64 n ∧ fr.eval (.tmp 18) = .slice A l.length cap ∧ fr.eval (.tmp 19) = .int .i64 ((l.length : Nat) : Int) ∧ fr.eval (.tmp 20) = .int .i64 (k : Int)) (fun k => l.length - k) 0 ⟨n0, (Nat.zero_le _), (by simp), z, q, ow, s3, s4, s5, s18, s19, s20⟩ (fun k b_ u_ hI => ?_)
  revert b_ u_; intro fa fw hI
  obtain ⟨n, hk0, hn, z, q, ow, s3, s4, s5, s18, s19, s20⟩ := hI; refine sq fun hK6 => ?_
  refine ro [yV _] 1 33 z q ow (
    aS (fun hk bs hd => xlss rfl (bg bs s20) (bg bs s19)) rfl <|
    arm0) fun fa fw bs hv ap z q ow => ?_
  obtain ⟨s3, s4, s5, s18, s19, s20⟩ := b6 bs s3 s4 s5 s18 s19 s20; have s21 := gv hv 0 rfl rfl; refine wt hK6 ?_; refine sq fun hK7 => ?_
  by_cases hc2 : (k : Int) < ((l.length : Nat) : Int)
  ·refine ct s21 ((decide_eq_true_iff).2 hc2) ?_
   refine wp_skip ?_; refine tn hK7 ?_; refine sq fun hK8 => ?_; refine wp_block ?_; refine sq fun hK9 => ?_; have hltk : k < l.length := by omega
   obtain ⟨cl, hcl⟩ := at_some hltk; obtain ⟨bcl, ocl, Acl, ecl⟩ := hr.elem hcl
   refine ro [yV _, yV (.agg #[.int .i64 cl.c, .int .i64 cl.r, .int .u8 cl.v.k, .int .i64 cl.v.n, .string ⟨cl.v.t.toArray⟩]), yNew fw.heap.size (.cells #[.int .i64 0, .int .i64 0, .int .u8 0, .int .i64 0, .string ⟨[].toArray⟩] 46 (0, 0))] 3 33 z q ow (
     aS (fun hk bs hd => xplaceK 5 Tryz.underlying35 (by kernel_rfl) rfl Acl (bg bs s18) (bg bs s20) hltk) rfl <|
     aS (fun hk bs hd => xpartK (n := 5) 0 rfl (by kernel_rfl) (by kernel_rfl) (dp hd 0 rfl) rfl (ecl.kept (ow.keep hk).kept)) rfl <|
     aP (fun hk bs hd => xalloc rfl (by kernel_rfl)) rfl <|
     arm0) fun fa fw bs hv ap z q ov => ?_
   obtain ⟨s3, s4, s5, s18, s19, s20⟩ := b6 bs s3 s4 s5 s18 s19 s20; have s23 := gv hv 1 rfl rfl; obtain ⟨gb4, s7, bgb4, hgb4⟩ := gotP hv 2 rfl rfl rfl; have ov := ov.cons hgb4 (Nat.le_trans ow.kept.size bgb4) (ow.below bgb4); have ow := ov; refine ws ow 0 0 s7 s23 fun fw ow => ?_; refine wt hK9 ?_; refine sq fun hK10 => ?_
   refine ro [yV (.pointer (some ⟨gb4, 2, none⟩)), yV (aggV cl.v), yV (aggV v), yV (.bool (same16 cl.v v))] 4 33 z q ow (
     aS (fun hk bs hd => xfieldAddr rfl (bg bs s7) (by kernel_rfl)) rfl <|
     aS (fun hk bs hd => xloadN 3 rfl (by kernel_rfl) (by kernel_rfl) (dp hd 0 rfl) ((ow.keep hk).box 0 rfl) (Nat.le_of_ble_eq_true rfl) rfl) rfl <|
     aS (fun hk bs hd => xloadN 3 rfl (by kernel_rfl) (by kernel_rfl) (bg bs s3) ((ow.keep hk).box 2 rfl) (Nat.le_of_ble_eq_true rfl) rfl) rfl <|
     aC (fun hk bs hd => xcall2 rfl (dp hd 1 rfl) (dp hd 2 rfl) (en_agg_equal _ _)) (fun hk bs hd => aequal_any cl.v v _ (hs cl (List.mem_of_getElem? hcl)) hsv) rfl <|
     arm0) fun fa fw bs hv ap z q ow => ?_
   obtain ⟨s3, s4, s5, s18, s19, s20⟩ := b6 bs s3 s4 s5 s18 s19 s20; have s27 := gv hv 3 rfl rfl; refine wt hK10 ?_
   by_cases hc3 : (same16 cl.v v) = true
   ·refine ct s27 ((Iff.rfl).2 hc3) ?_
    have hsm : same16 cl.v v = true := by simpa using hc3
    have fb := filter_le l k (fun c => same16 c.v v)
    refine ro [yV _, yV _] 2 33 z q ow (
      mvS s5 rfl rfl rfl rfl <|
      aS (fun hk bs hd => xadd (Or.inl rfl) rfl (dp hd 0 rfl) rfl (by omega) (by omega)) rfl <|
      arm0) fun fa fw bs hv ap z q ow => ?_
    obtain ⟨s3, s4, s5, s18, s19, s20⟩ := b6 bs s3 s4 s5 s18 s19 s20; have s29 := gv hv 1 rfl rfl; refine wl_value (v := .int .i64 (n + 1)) (want0 rfl) (xassign rfl s29) ?_; refine gp5 z q ow s3 s4 s18 s19 s20 fun fa fw z q ow s3 s4 s18 s19 s20 s5 => ?_; refine wl_end ?_; refine block_n ?_; refine tn hK8 ?_
    refine ro [yV (.int .i64 ((k + 1 : Nat) : Int))] 1 33 z q ow (
      aS (fun hk bs hd => xadd (Or.inl rfl) rfl (bg bs s20) rfl (by omega) (by omega)) rfl <|
      arm0) fun fa fw bs hv ap z q ow => ?_
    obtain ⟨s3, s4, s18, s19, s20, s5⟩ := b6 bs s3 s4 s18 s19 s20 s5; have s30 := gv hv 0 rfl rfl; refine wl_value (v := .int .i64 ((k + 1 : Nat) : Int)) (want0 rfl) (xmove rfl s30) ?_; refine gp5 z q ow s3 s4 s18 s19 s5 fun fa fw z q ow s3 s4 s18 s19 s5 s20 => ?_; refine wl_end ?_; exact then_n ⟨(k + 1), ⟨(n + 1), hltk, (cnt_yes hn hcl hsm), z, q, ow.tail, s3, s4, s5, s18, s19, s20⟩, (show l.length - (k + 1) < l.length - k by omega)⟩
   refine cf s27 (Iff.rfl) hc3 ?_; have hsm : same16 cl.v v = false := by simpa using hc3
   refine wp_skip ?_; refine block_n ?_; refine tn hK8 ?_
   refine ro [yV (.int .i64 ((k + 1 : Nat) : Int))] 1 33 z q ow (
     aS (fun hk bs hd => xadd (Or.inl rfl) rfl (bg bs s20) rfl (by omega) (by omega)) rfl <|
     arm0) fun fa fw bs hv ap z q ow => ?_
   obtain ⟨s3, s4, s5, s18, s19, s20⟩ := b6 bs s3 s4 s5 s18 s19 s20; have s30 := gv hv 0 rfl rfl; refine wl_value (v := .int .i64 ((k + 1 : Nat) : Int)) (want0 rfl) (xmove rfl s30) ?_; refine gp5 z q ow s3 s4 s5 s18 s19 fun fa fw z q ow s3 s4 s5 s18 s19 s20 => ?_; refine wl_end ?_; exact then_n ⟨(k + 1), ⟨n, hltk, (cnt_no hn hcl hsm), z, q, ow.tail, s3, s4, s5, s18, s19, s20⟩, (show l.length - (k + 1) < l.length - k by omega)⟩
  refine cf s21 (decide_eq_true_iff) hc2 ?_; refine wp_exit ?_; refine then_e ?_; refine then_e ?_; refine block_hit ?_; refine tn hK4 ?_; refine sq fun hK11 => ?_; have fb := filter_le l k (fun c => same16 c.v v)
  refine ro [yV _, yV (aggV (vMake (n * 10000)))] 2 33 z q ow (
    mvS s5 rfl rfl rfl rfl <|
    aC (fun hk bs hd => xcall1 rfl (dp hd 0 rfl) (en_agg_whole _ _)) (fun hk bs hd => awhole_any n _ (by omega) (by omega)) rfl <|
    arm0) fun fa fw bs hv ap z q ow => ?_
  have s4 := bg bs s4; have s32 := gv hv 1 rfl rfl; refine ws ow 0 0 s4 s32 fun fw ow => ?_; refine wt hK11 ?_; refine wp_ret ?_; refine rs3 s4 (ow.box 0 rfl) q ?_; exact ⟨congrArg (fun v => Ending.returned (aggV v)) (show vMake _ = vMake _ by rw [cnt_all hn (by omega), hn0]), ow.kept⟩
set_option maxHeartbeats 4000000 in
theorem amatch_any (x : Rc) (l : List Cl) (A : Option Addr) (cap : Nat) (v : Vl) (w : World) (hr : RowK 5 clV w A l) (hl : l.length ≤ 1000000) (hsv : Small v) (hs : ∀ c ∈ l, Small c.v) (ho : okR x = true) (hf : ∀ c ∈ l, Fine16 x c) :
    Calls Tryz.prog 67 #[aggV v, .agg #[.int .i64 x.c1, .int .i64 x.r1, .int .i64 x.c2, .int .i64 x.r2, .slice A l.length cap]] w fun e w' => e = .returned (aggV (mat16 x l v)) ∧ Kept w w' := by
  have sz := size_in (x := x); go_enter Tryz.func67, Tryz.ntmps67; refine sq fun hK1 => ?_
  refine ro [yNew w.heap.size (.cells #[.int .u8 v.k, .int .i64 v.n, .string ⟨v.t.toArray⟩] 25 (0, 0)), yNew w.heap.size (.cells #[.int .i64 x.c1, .int .i64 x.r1, .int .i64 x.c2, .int .i64 x.r2, .slice A l.length cap] 37 (0, 0)), yNew w.heap.size (.cells #[.int .u8 0, .int .i64 0, .string ⟨[].toArray⟩] 25 (0, 0))] 3 54 rfl rfl (Own.start w) (
    aP (fun hk bs hd => xbox rfl (bs.get 0 rfl rfl) (by kernel_rfl)) rfl <|
    aP (fun hk bs hd => xbox rfl (bs.get 1 rfl rfl) (by kernel_rfl)) rfl <|
    aP (fun hk bs hd => xalloc rfl (by kernel_rfl)) rfl <|
    arm0) fun fa fw bs hv ap z q ov => ?_
  obtain ⟨gb1, s2, bgb1, hgb1⟩ := gotP hv 0 rfl rfl rfl; have ov := ov.cons hgb1 (Nat.le_trans (Own.start w).kept.size bgb1) ((Own.start w).below bgb1); obtain ⟨gb2, s3, bgb2, hgb2⟩ := gotP hv 1 rfl rfl rfl; have ov := ov.cons hgb2 (Nat.le_trans (Own.start w).kept.size bgb2) (ne_cons (apartP ap 0 1 rfl rfl rfl s2 rfl s3 rfl) ((Own.start w).below bgb2)); obtain ⟨gb3, s4, bgb3, hgb3⟩ := gotP hv 2 rfl rfl rfl; have ov := ov.cons hgb3 (Nat.le_trans (Own.start w).kept.size bgb3) (ne_cons (apartP ap 1 2 rfl rfl rfl s3 rfl s4 rfl) (ne_cons (apartP ap 0 2 rfl rfl rfl s2 rfl s4 rfl) ((Own.start w).below bgb3))); have ow := ov; refine wt hK1 ?_; refine sq fun hK2 => ?_
  refine ro [yV (aggV (⟨0, 0, []⟩ : Vl)), yV (aggV v), yV (.bool (same16 (⟨0, 0, []⟩ : Vl) v)), yV _] 4 54 z q ow (
    aS (fun hk bs hd => xbuild (us := #[]) rfl (by simp) (by kernel_rfl)) rfl <|
    aS (fun hk bs hd => xloadN 3 rfl (by kernel_rfl) (by kernel_rfl) (bg bs s2) ((ow.keep hk).box 2 rfl) (Nat.le_of_ble_eq_true rfl) rfl) rfl <|
    aC (fun hk bs hd => xcall2 rfl (dp hd 0 rfl) (dp hd 1 rfl) (en_agg_equal _ _)) (fun hk bs hd => aequal_any (⟨0, 0, []⟩ : Vl) v _ small_blank hsv) rfl <|
    asD 2 rfl rfl rfl rfl rfl rfl <|
    arm0) fun fa fw bs hv ap z q ow => ?_
  obtain ⟨s2, s3, s4⟩ := b3 bs s2 s3 s4; have s5 := gv hv 3 rfl rfl; refine wt hK2 ?_; refine sq fun hK3 => ?_
  refine ro [yV _] 1 54 z q ow (
    aS (fun hk bs hd => xassign rfl rfl) rfl <|
    arm0) fun fa fw bs hv ap z q ow => ?_
  obtain ⟨s2, s3, s4, s5⟩ := b4 bs s2 s3 s4 s5; have s6 := gv hv 0 rfl rfl; refine wt hK3 ?_; refine sq fun hK4 => ?_; refine sq fun hK5 => ?_
  refine ro [yV (.pointer (some ⟨gb2, 4, none⟩)), yV _, yV _, yV _] 4 54 z q ow (
    aS (fun hk bs hd => xfieldAddr rfl (bg bs s3) (by kernel_rfl)) rfl <|
    aS (fun hk bs hd => xloadB rfl (by kernel_rfl) (dp hd 0 rfl) ((ow.keep hk).box 1 rfl) rfl) rfl <|
    aS (fun hk bs hd => xlen Tryz.underlying35 rfl (dp hd 1 rfl)) rfl <|
    aS (fun hk bs hd => xmove rfl rfl) rfl <|
    arm0) fun fa fw bs hv ap z q ow => ?_
  obtain ⟨s2, s3, s4, s5, s6⟩ := b5 bs s2 s3 s4 s5 s6; have s14 := gv hv 1 rfl rfl; have s15 := gv hv 2 rfl rfl; have s16 := gv hv 3 rfl rfl; refine wt hK5 ?_; refine wp_block ?_; refine wp_loop_g (fun (k : Nat) fr u => ∃ (n : Int), (k ≤ l.length) ∧ (match16 x v (same16 blankV v) 0 l = match16 x v (same16 blankV v) n (l.drop k)) ∧ (0 ≤ n ∧ n ≤ 1048576) ∧ fr.tmps.size = 54 ∧ fr.defers = [] ∧ Own w [Th.obj gb3 (.cells #[.int .u8 0, .int .i64 0, .string ⟨[].toArray⟩] 25 (0, 0)), Th.obj gb2 (.cells #[.int .i64 x.c1, .int .i64 x.r1, .int .i64 x.c2, .int .i64 x.r2, .slice A l.length cap] 37 (0, 0)), Th.obj gb1 (.cells #[.int .u8 v.k, .int .i64 v.n, .string ⟨v.t.toArray⟩] 25 (0, 0))] u ∧ fr.eval (.tmp 2) = .pointer (some ⟨gb1, 0, none⟩) ∧ fr.eval (.tmp 3) = .pointer (some ⟨gb2, 0, none⟩) ∧ fr.eval (.tmp 4) = .pointer (some ⟨gb3, 0, none⟩) ∧ fr.eval (.tmp 5) = .bool (same16 (⟨0, 0, []⟩ : Vl) v) ∧ fr.eval (.tmp 6) = .int .i64 n ∧ fr.eval (.tmp 14) = .slice A l.length cap ∧ fr.eval (.tmp 15) = .int .i64 ((l.length : Nat) : Int) ∧ fr.eval (.tmp 16) = .int .i64 (k : Int)) (fun k => l.length - k) 0 ⟨0, (Nat.zero_le _), rfl, ⟨by decide, by decide⟩, z, q, ow, s2, s3, s4, s5, s6, s14, s15, s16⟩ (fun k b_ u_ hI => ?_)
  revert b_ u_; intro fa fw hI
  obtain ⟨n, hk0, hm, hnb, z, q, ow, s2, s3, s4, s5, s6, s14, s15, s16⟩ := hI; refine sq fun hK6 => ?_
  refine ro [yV _] 1 54 z q ow (
    aS (fun hk bs hd => xlss rfl (bg bs s16) (bg bs s15)) rfl <|
    arm0) fun fa fw bs hv ap z q ow => ?_
  obtain ⟨s2, s3, s4, s5, s6, s14, s15, s16⟩ := b8 bs s2 s3 s4 s5 s6 s14 s15 s16; have s17 := gv hv 0 rfl rfl; refine wt hK6 ?_; refine sq fun hK7 => ?_
  by_cases hc1 : (k : Int) < ((l.length : Nat) : Int)
  ·refine ct s17 ((decide_eq_true_iff).2 hc1) ?_
   refine wp_skip ?_; refine tn hK7 ?_; refine sq fun hK8 => ?_; refine wp_block ?_; refine sq fun hK9 => ?_; have hltk : k < l.length := by omega
   obtain ⟨cl, hcl⟩ := at_some hltk; obtain ⟨bcl, ocl, Acl, ecl⟩ := hr.elem hcl; have hfc := (hf cl (List.mem_of_getElem? hcl)).1; have hix := idx_box ho hfc
   refine ro [yV _, yV (.agg #[.int .i64 cl.c, .int .i64 cl.r, .int .u8 cl.v.k, .int .i64 cl.v.n, .string ⟨cl.v.t.toArray⟩]), yNew fw.heap.size (.cells #[.int .i64 0, .int .i64 0, .int .u8 0, .int .i64 0, .string ⟨[].toArray⟩] 46 (0, 0))] 3 54 z q ow (
     aS (fun hk bs hd => xplaceK 5 Tryz.underlying35 (by kernel_rfl) rfl Acl (bg bs s14) (bg bs s16) hltk) rfl <|
     aS (fun hk bs hd => xpartK (n := 5) 0 rfl (by kernel_rfl) (by kernel_rfl) (dp hd 0 rfl) rfl (ecl.kept (ow.keep hk).kept)) rfl <|
     aP (fun hk bs hd => xalloc rfl (by kernel_rfl)) rfl <|
     arm0) fun fa fw bs hv ap z q ov => ?_
   obtain ⟨s2, s3, s4, s5, s6, s14, s15, s16⟩ := b8 bs s2 s3 s4 s5 s6 s14 s15 s16; have s19 := gv hv 1 rfl rfl; obtain ⟨gb4, s8, bgb4, hgb4⟩ := gotP hv 2 rfl rfl rfl; have ov := ov.cons hgb4 (Nat.le_trans ow.kept.size bgb4) (ow.below bgb4); have ow := ov; refine ws ow 0 0 s8 s19 fun fw ow => ?_; refine wt hK9 ?_; refine sq fun hK10 => ?_
   refine ro [yV (.agg #[.int .i64 x.c1, .int .i64 x.r1, .int .i64 x.c2, .int .i64 x.r2, .slice A l.length cap]), yV (.pointer (some ⟨gb4, 0, none⟩)), yV (.agg #[.int .i64 cl.c, .int .i64 cl.r]), yV (.int .i64 (idx16 x cl.c cl.r)), yV _] 5 54 z q ow (
     aS (fun hk bs hd => xloadN 5 rfl (by kernel_rfl) (by kernel_rfl) (bg bs s3) ((ow.keep hk).box 2 rfl) (Nat.le_of_ble_eq_true rfl) rfl) rfl <|
     aS (fun hk bs hd => xfieldAddr rfl (bg bs s8) (by kernel_rfl)) rfl <|
     aS (fun hk bs hd => xloadN 2 rfl (by kernel_rfl) (by kernel_rfl) (dp hd 1 rfl) ((ow.keep hk).box 0 rfl) (Nat.le_of_ble_eq_true rfl) rfl) rfl <|
     aC (fun hk bs hd => xcall2 rfl (dp hd 0 rfl) (dp hd 2 rfl) (en_agg_index _ _)) (fun hk bs hd => aindex_any x _ _ _ cl.c cl.r _ ho hfc) rfl <|
     asD 3 rfl rfl rfl rfl rfl rfl <|
     arm0) fun fa fw bs hv ap z q ow => ?_
   obtain ⟨s2, s3, s4, s5, s6, s14, s15, s16⟩ := b8 bs s2 s3 s4 s5 s6 s14 s15 s16; have s8 := bg bs s8; have s9 := gv hv 4 rfl rfl; refine wt hK10 ?_; refine sq fun hK11 => ?_; refine sq fun hK12 => ?_
   refine ro [yV _, yV _, yIf _ (yV _), yIf _ (yV _), yIf _ (yV _), yV _] 6 54 z q ow (
     mvS s5 rfl rfl rfl rfl <|
     mvD 0 rfl rfl rfl rfl rfl rfl <|
     ai (g1 1 rfl rfl) (fun hk bs hd hz => xmove rfl (bg bs s9)) rfl <|
     ai (g1 1 rfl rfl) (fun hk bs hd hz => xmove rfl (bg bs s6)) rfl <|
     ai (g1 1 rfl rfl) (fun hk bs hd hz => xgtr rfl (di hd 2 rfl hz) (di hd 3 rfl hz)) rfl <|
     aS (fun hk bs hd => xand rfl (dp hd 1 rfl) (fun hb => di hd 4 rfl hb) rfl) rfl <|
     arm0) fun fa fw bs hv ap z q ow => ?_
   obtain ⟨s2, s3, s4, s5, s6, s14, s15, s16⟩ := b8 bs s2 s3 s4 s5 s6 s14 s15 s16; obtain ⟨s8, s9⟩ := b2 bs s8 s9; have s29 := gv hv 5 rfl rfl; refine wt hK12 ?_
   by_cases hc2 : ((same16 (⟨0, 0, []⟩ : Vl) v) = true) ∧ ((n : Int) < (idx16 x cl.c cl.r : Int))
   ·refine ct s29 ((band (Iff.rfl) (decide_eq_true_iff)).2 hc2) ?_
    have hgp := hc2; refine sq fun hK13 => ?_
    refine ro [yV _, yV _, yV (aggV (vMake ((n + 1) * 10000)))] 3 54 z q ow (
      mvS s6 rfl rfl rfl rfl <|
      aS (fun hk bs hd => xadd (Or.inl rfl) rfl (dp hd 0 rfl) rfl (by omega) (by omega)) rfl <|
      aC (fun hk bs hd => xcall1 rfl (dp hd 1 rfl) (en_agg_whole _ _)) (fun hk bs hd => awhole_any (n + 1) _ (by omega) (by omega)) rfl <|
      arm0) fun fa fw bs hv ap z q ow => ?_
    obtain ⟨s2, s3, s4, s5, s6, s14, s15, s16⟩ := b8 bs s2 s3 s4 s5 s6 s14 s15 s16; obtain ⟨s8, s9⟩ := b2 bs s8 s9; have s32 := gv hv 2 rfl rfl; refine ws ow 1 0 s4 s32 fun fw ow => ?_; refine wt hK13 ?_; refine wp_ret ?_; refine then_r ?_; refine block_r ?_; refine then_r ?_; refine then_r ?_; refine block_r ?_; refine then_r ?_; refine rs3 s4 (ow.box 1 rfl) q ?_; exact ⟨congrArg (fun v => Ending.returned (aggV v)) (mat_at (hm.trans (match_gap hcl hgp)) (by omega)), ow.kept⟩
   refine cf s29 (band (Iff.rfl) (decide_eq_true_iff)) hc2 ?_; have hgo := hc2; refine wp_skip ?_; refine tn hK11 ?_; refine sq fun hK14 => ?_; refine sq fun hK15 => ?_
   refine ro [yV (.pointer (some ⟨gb4, 2, none⟩)), yV (aggV cl.v), yV (aggV v), yV (.bool (same16 cl.v v))] 4 54 z q ow (
     aS (fun hk bs hd => xfieldAddr rfl (bg bs s8) (by kernel_rfl)) rfl <|
     aS (fun hk bs hd => xloadN 3 rfl (by kernel_rfl) (by kernel_rfl) (dp hd 0 rfl) ((ow.keep hk).box 0 rfl) (Nat.le_of_ble_eq_true rfl) rfl) rfl <|
     aS (fun hk bs hd => xloadN 3 rfl (by kernel_rfl) (by kernel_rfl) (bg bs s2) ((ow.keep hk).box 3 rfl) (Nat.le_of_ble_eq_true rfl) rfl) rfl <|
     aC (fun hk bs hd => xcall2 rfl (dp hd 1 rfl) (dp hd 2 rfl) (en_agg_equal _ _)) (fun hk bs hd => aequal_any cl.v v _ (hs cl (List.mem_of_getElem? hcl)) hsv) rfl <|
     arm0) fun fa fw bs hv ap z q ow => ?_
   obtain ⟨s2, s3, s4, s5, s6, s14, s15, s16⟩ := b8 bs s2 s3 s4 s5 s6 s14 s15 s16; have s9 := bg bs s9; have s36 := gv hv 3 rfl rfl; refine wt hK15 ?_
   by_cases hc3 : (same16 cl.v v) = true
   ·refine ct s36 ((Iff.rfl).2 hc3) ?_
    have hsm : same16 cl.v v = true := by simpa using hc3
    refine sq fun hK16 => ?_
    refine ro [yV _, yV _, yV (aggV (vMake (((idx16 x cl.c cl.r) + 1) * 10000)))] 3 54 z q ow (
      mvS s9 rfl rfl rfl rfl <|
      aS (fun hk bs hd => xadd (Or.inl rfl) rfl (dp hd 0 rfl) rfl (by omega) (by omega)) rfl <|
      aC (fun hk bs hd => xcall1 rfl (dp hd 1 rfl) (en_agg_whole _ _)) (fun hk bs hd => awhole_any ((idx16 x cl.c cl.r) + 1) _ (by omega) (by omega)) rfl <|
      arm0) fun fa fw bs hv ap z q ow => ?_
    obtain ⟨s2, s3, s4, s5, s6, s14, s15, s16⟩ := b8 bs s2 s3 s4 s5 s6 s14 s15 s16; have s9 := bg bs s9; have s39 := gv hv 2 rfl rfl; refine ws ow 1 0 s4 s39 fun fw ow => ?_; refine wt hK16 ?_; refine wp_ret ?_; refine then_r ?_; refine block_r ?_; refine then_r ?_; refine then_r ?_; refine block_r ?_; refine then_r ?_; refine rs3 s4 (ow.box 1 rfl) q ?_; exact ⟨congrArg (fun v => Ending.returned (aggV v)) (mat_at (hm.trans (match_hit hcl hgo hsm)) (by omega)), ow.kept⟩
   refine cf s36 (Iff.rfl) hc3 ?_; have hsm : same16 cl.v v = false := by simpa using hc3
   refine wp_skip ?_; refine tn hK14 ?_
   refine ro [yV _, yV _, yV _] 3 54 z q ow (
     mvS s9 rfl rfl rfl rfl <|
     aS (fun hk bs hd => xadd (Or.inl rfl) rfl (dp hd 0 rfl) rfl (by omega) (by omega)) rfl <|
     asD 1 rfl rfl rfl rfl rfl rfl <|
     arm0) fun fa fw bs hv ap z q ow => ?_
   obtain ⟨s2, s3, s4, s5, s14, s15, s16⟩ := b7 bs s2 s3 s4 s5 s14 s15 s16; have s6 := gv hv 2 rfl rfl; refine wl_end ?_; refine block_n ?_; refine tn hK8 ?_
   refine ro [yV (.int .i64 ((k + 1 : Nat) : Int))] 1 54 z q ow (
     aS (fun hk bs hd => xadd (Or.inl rfl) rfl (bg bs s16) rfl (by omega) (by omega)) rfl <|
     arm0) fun fa fw bs hv ap z q ow => ?_
   obtain ⟨s2, s3, s4, s5, s14, s15, s16, s6⟩ := b8 bs s2 s3 s4 s5 s14 s15 s16 s6; have s42 := gv hv 0 rfl rfl; refine wl_value (v := .int .i64 ((k + 1 : Nat) : Int)) (want0 rfl) (xmove rfl s42) ?_; refine gp7 z q ow s2 s3 s4 s5 s14 s15 s6 fun fa fw z q ow s2 s3 s4 s5 s14 s15 s6 s16 => ?_; refine wl_end ?_; exact then_n ⟨(k + 1), ⟨((idx16 x cl.c cl.r) + 1), hltk, (hm.trans (match_on hcl hgo hsm)), (by omega), z, q, ow.tail, s2, s3, s4, s5, s6, s14, s15, s16⟩, (show l.length - (k + 1) < l.length - k by omega)⟩
  refine cf s17 (decide_eq_true_iff) hc1 ?_; refine wp_exit ?_; refine then_e ?_; refine then_e ?_; refine block_hit ?_; refine tn hK4 ?_; refine sq fun hK17 => ?_; refine sq fun hK18 => ?_
  refine ro [yV _, yV _, yIf _ (yV _), yIf _ (yV (.agg #[.int .i64 x.c1, .int .i64 x.r1, .int .i64 x.c2, .int .i64 x.r2, .slice A l.length cap])), yIf _ (yV (.int .i64 (size16 x))), yIf _ (yV _), yV _] 7 54 z q ow (
    mvS s5 rfl rfl rfl rfl <|
    mvD 0 rfl rfl rfl rfl rfl rfl <|
    ai (g1 1 rfl rfl) (fun hk bs hd hz => xmove rfl (bg bs s6)) rfl <|
    ai (g1 1 rfl rfl) (fun hk bs hd hz => xloadN 5 rfl (by kernel_rfl) (by kernel_rfl) (bg bs s3) ((ow.keep hk).box 1 rfl) (Nat.le_of_ble_eq_true rfl) rfl) rfl <|
    aiC (g1 1 rfl rfl) (fun hk bs hd hz => xcall1 rfl (di hd 3 rfl hz) (en_agg_size _ _)) (fun hk bs hd hz => asize_any x _ _ _ _) rfl <|
    ai (g1 1 rfl rfl) (fun hk bs hd hz => xlss rfl (di hd 2 rfl hz) (di hd 4 rfl hz)) rfl <|
    aS (fun hk bs hd => xand rfl (dp hd 1 rfl) (fun hb => di hd 5 rfl hb) rfl) rfl <|
    arm0) fun fa fw bs hv ap z q ow => ?_
  obtain ⟨s4, s6⟩ := b2 bs s4 s6; have s49 := gv hv 6 rfl rfl; refine wt hK18 ?_
  by_cases hc4 : ((same16 (⟨0, 0, []⟩ : Vl) v) = true) ∧ ((n : Int) < (size16 x : Int))
  ·refine ct s49 ((band (Iff.rfl) (decide_eq_true_iff)).2 hc4) ?_
   have hgp := hc4; refine sq fun hK19 => ?_
   refine ro [yV _, yV _, yV (aggV (vMake ((n + 1) * 10000)))] 3 54 z q ow (
     mvS s6 rfl rfl rfl rfl <|
     aS (fun hk bs hd => xadd (Or.inl rfl) rfl (dp hd 0 rfl) rfl (by omega) (by omega)) rfl <|
     aC (fun hk bs hd => xcall1 rfl (dp hd 1 rfl) (en_agg_whole _ _)) (fun hk bs hd => awhole_any (n + 1) _ (by omega) (by omega)) rfl <|
     arm0) fun fa fw bs hv ap z q ow => ?_
   have s4 := bg bs s4; have s52 := gv hv 2 rfl rfl; refine ws ow 0 0 s4 s52 fun fw ow => ?_; refine wt hK19 ?_; refine wp_ret ?_; refine then_r ?_; refine rs3 s4 (ow.box 0 rfl) q ?_; exact ⟨congrArg (fun v => Ending.returned (aggV v)) (mat_at (hm.trans (match_end (by omega) hgp)) (by omega)), ow.kept⟩
  refine cf s49 (band (Iff.rfl) (decide_eq_true_iff)) hc4 ?_; have hgo := hc4; refine wp_skip ?_; refine tn hK17 ?_; refine sq fun hK20 => ?_
  refine ro [yV (aggV (vFail 4))] 1 54 z q ow (
    aC (fun hk bs hd => xcall1 rfl rfl (en_val_Fail _ _)) (fun hk bs hd => vfail_any 4 _) rfl <|
    arm0) fun fa fw bs hv ap z q ow => ?_
  have s4 := bg bs s4; have s53 := gv hv 0 rfl rfl; refine ws ow 0 0 s4 s53 fun fw ow => ?_; refine wt hK20 ?_; refine wp_ret ?_; refine rs3 s4 (ow.box 0 rfl) q ?_; exact ⟨congrArg (fun v => Ending.returned (aggV v)) (mat_no (hm.trans (match_out (by omega) hgo))), ow.kept⟩
end Go.Proofs.YtbkjdcpfkepheaaGreatDoor
