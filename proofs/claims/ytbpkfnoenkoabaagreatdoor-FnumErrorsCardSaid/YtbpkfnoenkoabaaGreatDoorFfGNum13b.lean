/- Layer 13: operators: the program's (printed by wip/mknum13b.py). -/
import Derived.Test.YtbpkfnoenkoabaaGreatDoorFfGNum13
import Derived.Test.YtbpkfnoenkoabaaGreatDoorFfBunV
namespace Go.Proofs.YtbpkfnoenkoabaaGreatDoor
set_option linter.unusedVariables false
set_option linter.unusedSimpArgs false
open Go.RowKit Lv
set_option maxRecDepth 100000
theorem xcall2V {a : Act} {w : World} {o : Oper} {f x y : Operand} {ts : Array TypeId} {F : FuncId} {u v : Value} (ho : o.op = .call { callee := .value f, args := #[x, y], argTypes := ts }) (hf : a.eval f = .func (.func F) #[] #[]) (hx : a.eval x = u) (hy : a.eval y = v) (hF : (callFunc F #[u, v]).run Tryz.prog w = .ok (.enter F #[u, v]) w) : (execOp a.eval o).run Tryz.prog w = .ok (.enter F #[u, v]) w := by
  unfold execOp; rw [ho]
  simp only [resolve, List.map_toArray, List.map_cons, List.map_nil, hf, hx, hy]
  go_simp
theorem small_ab {a b : Vl} (ha : Small a) (hb : Small b) : ∀ v ∈ [a, b], Small v := fun v hv => by
  simp only [List.mem_cons, List.not_mem_nil, or_false] at hv
  rcases hv with rfl | rfl
  · exact ha
  · exact hb
theorem txt_len (v : Vl) (h : Small v) : (vTxt v).t.length ≤ 2000 := by
  by_cases ok : vOk v = true
  · exact Nat.le_trans (txt_short ok h.1) (by decide)
  · unfold vTxt; rw [if_pos (by simpa using ok)]; show ([] : List UInt8).length ≤ _; decide
theorem b13_arg {op : Int} {a b : Vl} (h : op < 1 ∨ 12 < op ∨ [a, b].all vOk = false) : vBin13 op a b = (blankV, 2) := by
  unfold vBin13; rw [if_pos]; rcases h with h | h | h
  · exact Or.inl h
  · exact Or.inr (Or.inl h)
  · exact Or.inr (Or.inr (any_not h))
theorem b13_go {op : Int} {a b : Vl} (h : 1 ≤ op ∧ op ≤ 12) (hv : [a, b].all vOk = true) : ¬ (op < 1 ∨ 12 < op ∨ ([a, b].any fun v => !vOk v) = true) := by
  rintro (c | c | c)
  · omega
  · omega
  · rw [any_none hv] at c; cases c
theorem b13_cat {op : Int} {a b : Vl} (h : op = 6) (hv : [a, b].all vOk = true) : vBin13 op a b = (cat13 a b, 0) := by
  unfold vBin13; rw [if_neg (b13_go (by omega) hv), if_pos h]
theorem b13_cmp {op : Int} {a b : Vl} (h : 6 < op) (h2 : op ≤ 12) (hv : [a, b].all vOk = true) : vBin13 op a b = (cmp13 op a b, 0) := by
  unfold vBin13; rw [if_neg (b13_go (by omega) hv), if_neg (by omega), if_pos h]
theorem b13_err {op : Int} {a b x : Vl} (h : 1 ≤ op) (h2 : op ≤ 5) (hv : [a, b].all vOk = true) (he : firstE ([a, b].map vNum) = some x) : vBin13 op a b = (x, 0) := by
  unfold vBin13; rw [if_neg (b13_go (by omega) hv), if_neg (by omega), if_neg (by omega), show firstE [vNum a, vNum b] = some x from he]
theorem b13_val {op : Int} {a b : Vl} (h : 1 ≤ op) (h2 : op ≤ 5) (hv : [a, b].all vOk = true) (he : firstE ([a, b].map vNum) = none) : vBin13 op a b = (arith13 op (vNum a).n (vNum b).n, 0) := by
  unfold vBin13; rw [if_neg (b13_go (by omega) hv), if_neg (by omega), if_neg (by omega), show firstE [vNum a, vNum b] = none from he]
theorem en_dec_Add : En 168 := by intro args w; go_simp
theorem en_dec_Mul : En 172 := by intro args w; go_simp
theorem en_dec_Neg : En 90 := by intro args w; go_simp
theorem en_dec_Quo : En 93 := by intro args w; go_simp
theorem en_dec_Sub : En 170 := by intro args w; go_simp
theorem en_fnum_arithmetic : En 79 := by intro args w; go_simp
theorem en_fnum_cat : En 77 := by intro args w; go_simp
theorem en_fnum_compare : En 78 := by intro args w; go_simp
theorem en_val_Compare : En 50 := by intro args w; go_simp
theorem en_val_ToText : En 39 := by intro args w; go_simp
theorem en_val_Truth : En 166 := by intro args w; go_simp
set_option maxHeartbeats 4000000 in
theorem arith13_add (x y : Int) (w : World) (hx : i64 x) (hy : i64 y) :
    Calls Tryz.prog 167 #[.int .i64 x, .int .i64 y] w fun e w' => e = .returned (aggV (vRes (dSum [x, y]))) ∧ Kept w w' := by
  go_enter Tryz.func167, Tryz.ntmps167; refine sq fun hK1 => ?_
  refine ro [yNew w.heap.size (.cells #[.int .u8 0, .int .i64 0, .string ⟨[].toArray⟩] 25 (0, 0))] 1 11 rfl rfl (Own.start w) (
    aP (fun hk bs hd => xalloc rfl (by kernel_rfl)) rfl <|
    arm0) fun fa fw bs hv ap z q ov => ?_
  have s0 := bs.get 0 rfl rfl; have s1 := bs.get 1 rfl rfl; obtain ⟨gb1, s4, bgb1, hgb1⟩ := gotP hv 0 rfl rfl rfl; have ov := ov.cons hgb1 (Nat.le_trans (Own.start w).kept.size bgb1) ((Own.start w).below bgb1); have ow := ov; refine wt hK1 ?_; refine sq fun hK2 => ?_
  refine ro [yV _, yV _, yV (.tuple #[.int .i64 ((dSum [x, y]).1), .bool ((dSum [x, y]).2)]), yV _, yV _, yV (aggV (vRes ((dSum [x, y]).1, (dSum [x, y]).2)))] 6 11 z q ow (
    mvS s0 rfl rfl rfl rfl <|
    mvS s1 rfl rfl rfl rfl <|
    aC (fun hk bs hd => xcall2 rfl (dp hd 0 rfl) (dp hd 1 rfl) (en_dec_Add _ _)) (fun hk bs hd => add2_any x y _ (by assumption) (by assumption)) rfl <|
    aS (fun hk bs hd => xextract rfl (dp hd 2 rfl) rfl) rfl <|
    aS (fun hk bs hd => xextract rfl (dp hd 2 rfl) rfl) rfl <|
    aC (fun hk bs hd => xcall2 rfl (dp hd 3 rfl) (dp hd 4 rfl) (en_fnum_result _ _)) (fun hk bs hd => result13_any ((dSum [x, y]).1) ((dSum [x, y]).2) _ (fun _ => by first | exact fit_i64 _ | exact dMul_i64 _ _)) rfl <|
    arm0) fun fa fw bs hv ap z q ow => ?_
  have s4 := bg bs s4; have s10 := gv hv 5 rfl rfl; refine ws ow 0 0 s4 s10 fun fw ow => ?_; refine wt hK2 ?_; refine wp_ret ?_; refine rs3 s4 (ow.box 0 rfl) q ?_; exact ⟨rfl, ow.kept⟩
set_option maxHeartbeats 4000000 in
theorem arith13_sub (x y : Int) (w : World) (hx : i64 x) (hy : i64 y) :
    Calls Tryz.prog 169 #[.int .i64 x, .int .i64 y] w fun e w' => e = .returned (aggV (vRes (fit (x - y)))) ∧ Kept w w' := by
  go_enter Tryz.func169, Tryz.ntmps169; refine sq fun hK1 => ?_
  refine ro [yNew w.heap.size (.cells #[.int .u8 0, .int .i64 0, .string ⟨[].toArray⟩] 25 (0, 0))] 1 11 rfl rfl (Own.start w) (
    aP (fun hk bs hd => xalloc rfl (by kernel_rfl)) rfl <|
    arm0) fun fa fw bs hv ap z q ov => ?_
  have s0 := bs.get 0 rfl rfl; have s1 := bs.get 1 rfl rfl; obtain ⟨gb1, s4, bgb1, hgb1⟩ := gotP hv 0 rfl rfl rfl; have ov := ov.cons hgb1 (Nat.le_trans (Own.start w).kept.size bgb1) ((Own.start w).below bgb1); have ow := ov; refine wt hK1 ?_; refine sq fun hK2 => ?_
  refine ro [yV _, yV _, yV (.tuple #[.int .i64 ((fit (x - y)).1), .bool ((fit (x - y)).2)]), yV _, yV _, yV (aggV (vRes ((fit (x - y)).1, (fit (x - y)).2)))] 6 11 z q ow (
    mvS s0 rfl rfl rfl rfl <|
    mvS s1 rfl rfl rfl rfl <|
    aC (fun hk bs hd => xcall2 rfl (dp hd 0 rfl) (dp hd 1 rfl) (en_dec_Sub _ _)) (fun hk bs hd => sub2_any x y _ (by assumption) (by assumption)) rfl <|
    aS (fun hk bs hd => xextract rfl (dp hd 2 rfl) rfl) rfl <|
    aS (fun hk bs hd => xextract rfl (dp hd 2 rfl) rfl) rfl <|
    aC (fun hk bs hd => xcall2 rfl (dp hd 3 rfl) (dp hd 4 rfl) (en_fnum_result _ _)) (fun hk bs hd => result13_any ((fit (x - y)).1) ((fit (x - y)).2) _ (fun _ => by first | exact fit_i64 _ | exact dMul_i64 _ _)) rfl <|
    arm0) fun fa fw bs hv ap z q ow => ?_
  have s4 := bg bs s4; have s10 := gv hv 5 rfl rfl; refine ws ow 0 0 s4 s10 fun fw ow => ?_; refine wt hK2 ?_; refine wp_ret ?_; refine rs3 s4 (ow.box 0 rfl) q ?_; exact ⟨rfl, ow.kept⟩
set_option maxHeartbeats 4000000 in
theorem arith13_mul (x y : Int) (w : World) (hx : i64 x) (hy : i64 y) :
    Calls Tryz.prog 171 #[.int .i64 x, .int .i64 y] w fun e w' => e = .returned (aggV (vRes (dMul x y))) ∧ Kept w w' := by
  go_enter Tryz.func171, Tryz.ntmps171; refine sq fun hK1 => ?_
  refine ro [yNew w.heap.size (.cells #[.int .u8 0, .int .i64 0, .string ⟨[].toArray⟩] 25 (0, 0))] 1 11 rfl rfl (Own.start w) (
    aP (fun hk bs hd => xalloc rfl (by kernel_rfl)) rfl <|
    arm0) fun fa fw bs hv ap z q ov => ?_
  have s0 := bs.get 0 rfl rfl; have s1 := bs.get 1 rfl rfl; obtain ⟨gb1, s4, bgb1, hgb1⟩ := gotP hv 0 rfl rfl rfl; have ov := ov.cons hgb1 (Nat.le_trans (Own.start w).kept.size bgb1) ((Own.start w).below bgb1); have ow := ov; refine wt hK1 ?_; refine sq fun hK2 => ?_
  refine ro [yV _, yV _, yV (.tuple #[.int .i64 ((dMul x y).1), .bool ((dMul x y).2)]), yV _, yV _, yV (aggV (vRes ((dMul x y).1, (dMul x y).2)))] 6 11 z q ow (
    mvS s0 rfl rfl rfl rfl <|
    mvS s1 rfl rfl rfl rfl <|
    aC (fun hk bs hd => xcall2 rfl (dp hd 0 rfl) (dp hd 1 rfl) (en_dec_Mul _ _)) (fun hk bs hd => drew_kept (mul_any x y _ (by assumption) (by assumption))) rfl <|
    aS (fun hk bs hd => xextract rfl (dp hd 2 rfl) rfl) rfl <|
    aS (fun hk bs hd => xextract rfl (dp hd 2 rfl) rfl) rfl <|
    aC (fun hk bs hd => xcall2 rfl (dp hd 3 rfl) (dp hd 4 rfl) (en_fnum_result _ _)) (fun hk bs hd => result13_any ((dMul x y).1) ((dMul x y).2) _ (fun _ => by first | exact fit_i64 _ | exact dMul_i64 _ _)) rfl <|
    arm0) fun fa fw bs hv ap z q ow => ?_
  have s4 := bg bs s4; have s10 := gv hv 5 rfl rfl; refine ws ow 0 0 s4 s10 fun fw ow => ?_; refine wt hK2 ?_; refine wp_ret ?_; refine rs3 s4 (ow.box 0 rfl) q ?_; exact ⟨rfl, ow.kept⟩
set_option maxHeartbeats 4000000 in
theorem arith13_quo (x y : Int) (w : World) (hx : i64 x) (hy : i64 y) :
    Calls Tryz.prog 173 #[.int .i64 x, .int .i64 y] w fun e w' => e = .returned (aggV (if y = 0 then vFail 1 else vRes (dQuo x y))) ∧ Kept w w' := by
  go_enter Tryz.func173, Tryz.ntmps173; refine sq fun hK1 => ?_
  refine ro [yNew w.heap.size (.cells #[.int .u8 0, .int .i64 0, .string ⟨[].toArray⟩] 25 (0, 0))] 1 14 rfl rfl (Own.start w) (
    aP (fun hk bs hd => xalloc rfl (by kernel_rfl)) rfl <|
    arm0) fun fa fw bs hv ap z q ov => ?_
  have s0 := bs.get 0 rfl rfl; have s1 := bs.get 1 rfl rfl; obtain ⟨gb1, s4, bgb1, hgb1⟩ := gotP hv 0 rfl rfl rfl; have ov := ov.cons hgb1 (Nat.le_trans (Own.start w).kept.size bgb1) ((Own.start w).below bgb1); have ow := ov; refine wt hK1 ?_; refine sq fun hK2 => ?_; refine sq fun hK3 => ?_
  refine ro [yV _, yV _] 2 14 z q ow (
    mvS s1 rfl rfl rfl rfl <|
    aS (fun hk bs hd => xeqi rfl (dp hd 0 rfl) rfl) rfl <|
    arm0) fun fa fw bs hv ap z q ow => ?_
  obtain ⟨s0, s1, s4⟩ := b3 bs s0 s1 s4; have s6 := gv hv 1 rfl rfl; refine wt hK3 ?_
  by_cases hc1 : (y : Int) = (0 : Int)
  · refine ct s6 ((decide_eq_true_iff).2 hc1) ?_
    refine sq fun hK4 => ?_
    refine ro [yV (aggV (vFail 1))] 1 14 z q ow (
      aC (fun hk bs hd => xcall1 rfl rfl (en_val_Fail _ _)) (fun hk bs hd => vfail_any 1 _) rfl <|
      arm0) fun fa fw bs hv ap z q ow => ?_
    obtain ⟨s0, s1, s4⟩ := b3 bs s0 s1 s4; have s7 := gv hv 0 rfl rfl; refine ws ow 0 0 s4 s7 fun fw ow => ?_; refine wt hK4 ?_; refine wp_ret ?_; refine then_r ?_; refine rs3 s4 (ow.box 0 rfl) q ?_; exact ⟨congrArg (fun v => Ending.returned (aggV v)) (show _ = if y = 0 then _ else _ by rw [if_pos (by omega)]), ow.kept⟩
  refine cf s6 (decide_eq_true_iff) hc1 ?_; refine wp_skip ?_; refine tn hK2 ?_; refine sq fun hK5 => ?_
  refine ro [yV _, yV _, yV (.tuple #[.int .i64 ((dQuo x y).1), .bool ((dQuo x y).2)]), yV _, yV _, yV (aggV (vRes ((dQuo x y).1, (dQuo x y).2)))] 6 14 z q ow (
    mvS s0 rfl rfl rfl rfl <|
    mvS s1 rfl rfl rfl rfl <|
    aC (fun hk bs hd => xcall2 rfl (dp hd 0 rfl) (dp hd 1 rfl) (en_dec_Quo _ _)) (fun hk bs hd => drew_kept (quo_any x y _ (by assumption) (by assumption))) rfl <|
    aS (fun hk bs hd => xextract rfl (dp hd 2 rfl) rfl) rfl <|
    aS (fun hk bs hd => xextract rfl (dp hd 2 rfl) rfl) rfl <|
    aC (fun hk bs hd => xcall2 rfl (dp hd 3 rfl) (dp hd 4 rfl) (en_fnum_result _ _)) (fun hk bs hd => result13_any ((dQuo x y).1) ((dQuo x y).2) _ (fun _ => dQuo_i64 _ _)) rfl <|
    arm0) fun fa fw bs hv ap z q ow => ?_
  have s4 := bg bs s4; have s13 := gv hv 5 rfl rfl; refine ws ow 0 0 s4 s13 fun fw ow => ?_; refine wt hK5 ?_; refine wp_ret ?_; refine rs3 s4 (ow.box 0 rfl) q ?_; exact ⟨congrArg (fun v => Ending.returned (aggV v)) (show _ = if y = 0 then _ else _ by rw [if_neg (by omega)]), ow.kept⟩
set_option maxHeartbeats 4000000 in
theorem arithmetic13_any (w : World) :
    Calls Tryz.prog 79 #[] w fun e w' => e = .returned (.agg #[.nilFunc, .func (.func 167) #[] #[], .func (.func 169) #[] #[], .func (.func 171) #[] #[], .func (.func 173) #[] #[], .func (.func 158) #[] #[]]) ∧ Kept w w' := by
  go_enter Tryz.func79, Tryz.ntmps79; refine sq fun hK1 => ?_
  refine ro [yNew w.heap.size (.cells #[.nilFunc, .nilFunc, .nilFunc, .nilFunc, .nilFunc, .nilFunc] 121 (0, 0))] 1 2 rfl rfl (Own.start w) (
    aP (fun hk bs hd => xalloc rfl (by kernel_rfl)) rfl <|
    arm0) fun fa fw bs hv ap z q ov => ?_
  obtain ⟨gb1, s0, bgb1, hgb1⟩ := gotP hv 0 rfl rfl rfl; have ov := ov.cons hgb1 (Nat.le_trans (Own.start w).kept.size bgb1) ((Own.start w).below bgb1); have ow := ov; refine wt hK1 ?_; refine sq fun hK2 => ?_
  refine ro [yV (.agg #[.nilFunc, .func (.func 167) #[] #[], .func (.func 169) #[] #[], .func (.func 171) #[] #[], .func (.func 173) #[] #[], .func (.func 158) #[] #[]])] 1 2 z q ow (
    aS (fun hk bs hd => xbuild (us := #[(1, .func (.func 167) #[] #[]), (2, .func (.func 169) #[] #[]), (3, .func (.func 171) #[] #[]), (4, .func (.func 173) #[] #[]), (5, .func (.func 158) #[] #[])]) rfl (by simp only [List.map_toArray, List.map_cons, List.map_nil]; rfl) (by kernel_rfl)) rfl <|
    arm0) fun fa fw bs hv ap z q ow => ?_
  have s0 := bg bs s0; have s1 := gv hv 0 rfl rfl; refine ws ow 0 0 s0 s1 fun fw ow => ?_; refine wt hK2 ?_; refine wp_ret ?_; refine results_one rfl (res_cell (n := 6) _ s0 (by kernel_rfl) (by kernel_rfl) (ow.box 0 rfl) (Nat.le_of_ble_eq_true rfl) rfl) q ?_; exact ⟨rfl, ow.kept⟩
def opf13 (op : Int) : FuncId := if op = 1 then 167 else if op = 2 then 169 else if op = 3 then 171 else if op = 4 then 173 else 158
theorem en_opf13 (op : Int) (args : Array Value) (w : World) : (callFunc (opf13 op) args).run Tryz.prog w = .ok (.enter (opf13 op) args) w := by
  unfold opf13
  (repeat' split) <;> go_simp
theorem opf13_any (op x y : Int) (w : World) (h1 : 1 ≤ op) (h2 : op ≤ 5) (hx : i64 x) (hy : i64 y) : Calls Tryz.prog (opf13 op) #[.int .i64 x, .int .i64 y] w fun e w' => e = .returned (aggV (arith13 op x y)) ∧ Kept w w' := by
  rcases (show op = 1 ∨ op = 2 ∨ op = 3 ∨ op = 4 ∨ op = 5 by omega) with rfl | rfl | rfl | rfl | rfl
  · exact arith13_add x y w hx hy
  · exact arith13_sub x y w hx hy
  · exact arith13_mul x y w hx hy
  · exact arith13_quo x y w hx hy
  · exact power13_any x y w hx hy
theorem opf13_at (op : Int) (w : World) (h1 : 1 ≤ op) (h2 : op ≤ 5) : (Instr.index 121 (.agg #[.nilFunc, .func (.func 167) #[] #[], .func (.func 169) #[] #[], .func (.func 171) #[] #[], .func (.func 173) #[] #[], .func (.func 158) #[] #[]]) (.int .i64 op)).run Tryz.prog w = .ok (.func (.func (opf13 op)) #[] #[]) w := by
  rcases (show op = 1 ∨ op = 2 ∨ op = 3 ∨ op = 4 ∨ op = 5 by omega) with rfl | rfl | rfl | rfl | rfl <;> kernel_rfl
set_option maxHeartbeats 4000000 in
theorem cat13_any (a b : Vl) (w : World) (ha : Small a) (hb : Small b) :
    Calls Tryz.prog 77 #[aggV a, aggV b] w fun e w' => e = .returned (aggV (cat13 a b)) ∧ Kept w w' := by
  have la := txt_len a ha; have lb := txt_len b hb; go_enter Tryz.func77, Tryz.ntmps77; refine sq fun hK1 => ?_
  refine ro [yNew w.heap.size (.cells #[.int .u8 a.k, .int .i64 a.n, .string ⟨a.t.toArray⟩] 25 (0, 0)), yNew w.heap.size (.cells #[.int .u8 b.k, .int .i64 b.n, .string ⟨b.t.toArray⟩] 25 (0, 0)), yNew w.heap.size (.cells #[.int .u8 0, .int .i64 0, .string ⟨[].toArray⟩] 25 (0, 0))] 3 31 rfl rfl (Own.start w) (
    aP (fun hk bs hd => xbox rfl (bs.get 0 rfl rfl) (by kernel_rfl)) rfl <|
    aP (fun hk bs hd => xbox rfl (bs.get 1 rfl rfl) (by kernel_rfl)) rfl <|
    aP (fun hk bs hd => xalloc rfl (by kernel_rfl)) rfl <|
    arm0) fun fa fw bs hv ap z q ov => ?_
  obtain ⟨gb1, s2, bgb1, hgb1⟩ := gotP hv 0 rfl rfl rfl; have ov := ov.cons hgb1 (Nat.le_trans (Own.start w).kept.size bgb1) ((Own.start w).below bgb1); obtain ⟨gb2, s3, bgb2, hgb2⟩ := gotP hv 1 rfl rfl rfl; have ov := ov.cons hgb2 (Nat.le_trans (Own.start w).kept.size bgb2) (ne_cons (apartP ap 0 1 rfl rfl rfl s2 rfl s3 rfl) ((Own.start w).below bgb2)); obtain ⟨gb3, s4, bgb3, hgb3⟩ := gotP hv 2 rfl rfl rfl; have ov := ov.cons hgb3 (Nat.le_trans (Own.start w).kept.size bgb3) (ne_cons (apartP ap 1 2 rfl rfl rfl s3 rfl s4 rfl) (ne_cons (apartP ap 0 2 rfl rfl rfl s2 rfl s4 rfl) ((Own.start w).below bgb3))); have ow := ov; refine wt hK1 ?_; refine sq fun hK2 => ?_
  refine ro [yV (aggV a), yV (aggV (vTxt a)), yNew fw.heap.size (.cells #[.int .u8 0, .int .i64 0, .string ⟨[].toArray⟩] 25 (0, 0))] 3 31 z q ow (
    aS (fun hk bs hd => xloadN 3 rfl (by kernel_rfl) (by kernel_rfl) (bg bs s2) ((ow.keep hk).box 2 rfl) (Nat.le_of_ble_eq_true rfl) rfl) rfl <|
    aC (fun hk bs hd => xcall1 rfl (dp hd 0 rfl) (en_val_ToText _ _)) (fun hk bs hd => totxt_any a _ ha.1 ha.2) rfl <|
    aP (fun hk bs hd => xalloc rfl (by kernel_rfl)) rfl <|
    arm0) fun fa fw bs hv ap z q ov => ?_
  obtain ⟨s3, s4⟩ := b2 bs s3 s4; have s9 := gv hv 1 rfl rfl; obtain ⟨gb4, s5, bgb4, hgb4⟩ := gotP hv 2 rfl rfl rfl; have ov := ov.cons hgb4 (Nat.le_trans ow.kept.size bgb4) (ow.below bgb4); have ow := ov; refine ws ow 0 0 s5 s9 fun fw ow => ?_; refine wt hK2 ?_; refine sq fun hK3 => ?_; refine sq fun hK4 => ?_
  refine ro [yV (.pointer (some ⟨gb4, 0, none⟩)), yV _, yV _] 3 31 z q ow (
    aS (fun hk bs hd => xfieldAddr rfl (bg bs s5) (by kernel_rfl)) rfl <|
    aS (fun hk bs hd => xloadB rfl (by kernel_rfl) (dp hd 0 rfl) ((ow.keep hk).box 0 rfl) rfl) rfl <|
    aS (fun hk bs hd => xeqi rfl (dp hd 1 rfl) rfl) rfl <|
    arm0) fun fa fw bs hv ap z q ow => ?_
  obtain ⟨s3, s4, s5⟩ := b3 bs s3 s4 s5; have s12 := gv hv 2 rfl rfl; refine wt hK4 ?_
  by_cases hc1 : ((vTxt a).k : Int) = (4 : Int)
  · refine ct s12 ((decide_eq_true_iff).2 hc1) ?_
    have ea : isE (vTxt a) = true := isE_yes hc1; refine sq fun hK5 => ?_
    refine ro [yV (aggV (vTxt a))] 1 31 z q ow (
      aS (fun hk bs hd => xloadN 3 rfl (by kernel_rfl) (by kernel_rfl) (bg bs s5) ((ow.keep hk).box 0 rfl) (Nat.le_of_ble_eq_true rfl) rfl) rfl <|
      arm0) fun fa fw bs hv ap z q ow => ?_
    obtain ⟨s3, s4, s5⟩ := b3 bs s3 s4 s5; have s13 := gv hv 0 rfl rfl; refine ws ow 1 0 s4 s13 fun fw ow => ?_; refine wt hK5 ?_; refine wp_ret ?_; refine then_r ?_; refine rs3 s4 (ow.box 1 rfl) q ?_; exact ⟨congrArg (fun v => Ending.returned (aggV v)) (show _ = cat13 a b by unfold cat13; rw [if_pos ea]), ow.kept⟩
  refine cf s12 (decide_eq_true_iff) hc1 ?_; have ea : isE (vTxt a) = false := isE_no hc1; refine wp_skip ?_; refine tn hK3 ?_; refine sq fun hK6 => ?_
  refine ro [yV (aggV b), yV (aggV (vTxt b)), yNew fw.heap.size (.cells #[.int .u8 0, .int .i64 0, .string ⟨[].toArray⟩] 25 (0, 0))] 3 31 z q ow (
    aS (fun hk bs hd => xloadN 3 rfl (by kernel_rfl) (by kernel_rfl) (bg bs s3) ((ow.keep hk).box 2 rfl) (Nat.le_of_ble_eq_true rfl) rfl) rfl <|
    aC (fun hk bs hd => xcall1 rfl (dp hd 0 rfl) (en_val_ToText _ _)) (fun hk bs hd => totxt_any b _ hb.1 hb.2) rfl <|
    aP (fun hk bs hd => xalloc rfl (by kernel_rfl)) rfl <|
    arm0) fun fa fw bs hv ap z q ov => ?_
  obtain ⟨s4, s5⟩ := b2 bs s4 s5; have s15 := gv hv 1 rfl rfl; obtain ⟨gb5, s6, bgb5, hgb5⟩ := gotP hv 2 rfl rfl rfl; have ov := ov.cons hgb5 (Nat.le_trans ow.kept.size bgb5) (ow.below bgb5); have ow := ov; refine ws ow 0 0 s6 s15 fun fw ow => ?_; refine wt hK6 ?_; refine sq fun hK7 => ?_; refine sq fun hK8 => ?_
  refine ro [yV (.pointer (some ⟨gb5, 0, none⟩)), yV _, yV _] 3 31 z q ow (
    aS (fun hk bs hd => xfieldAddr rfl (bg bs s6) (by kernel_rfl)) rfl <|
    aS (fun hk bs hd => xloadB rfl (by kernel_rfl) (dp hd 0 rfl) ((ow.keep hk).box 0 rfl) rfl) rfl <|
    aS (fun hk bs hd => xeqi rfl (dp hd 1 rfl) rfl) rfl <|
    arm0) fun fa fw bs hv ap z q ow => ?_
  obtain ⟨s4, s5, s6⟩ := b3 bs s4 s5 s6; have s18 := gv hv 2 rfl rfl; refine wt hK8 ?_
  by_cases hc2 : ((vTxt b).k : Int) = (4 : Int)
  · refine ct s18 ((decide_eq_true_iff).2 hc2) ?_
    have eb : isE (vTxt b) = true := isE_yes hc2; refine sq fun hK9 => ?_
    refine ro [yV (aggV (vTxt b))] 1 31 z q ow (
      aS (fun hk bs hd => xloadN 3 rfl (by kernel_rfl) (by kernel_rfl) (bg bs s6) ((ow.keep hk).box 0 rfl) (Nat.le_of_ble_eq_true rfl) rfl) rfl <|
      arm0) fun fa fw bs hv ap z q ow => ?_
    obtain ⟨s4, s5, s6⟩ := b3 bs s4 s5 s6; have s19 := gv hv 0 rfl rfl; refine ws ow 2 0 s4 s19 fun fw ow => ?_; refine wt hK9 ?_; refine wp_ret ?_; refine then_r ?_; refine rs3 s4 (ow.box 2 rfl) q ?_; exact ⟨congrArg (fun v => Ending.returned (aggV v)) (show _ = cat13 a b by unfold cat13; rw [if_neg (by rw [ea]; decide), if_pos eb]), ow.kept⟩
  refine cf s18 (decide_eq_true_iff) hc2 ?_; have eb : isE (vTxt b) = false := isE_no hc2; refine wp_skip ?_; refine tn hK7 ?_; refine sq fun hK10 => ?_
  refine ro [yV (.pointer (some ⟨gb4, 2, none⟩)), yV _, yV (.pointer (some ⟨gb5, 2, none⟩)), yV _, yV _, yV _] 6 31 z q ow (
    aS (fun hk bs hd => xfieldAddr rfl (bg bs s5) (by kernel_rfl)) rfl <|
    aS (fun hk bs hd => xloadB rfl (by kernel_rfl) (dp hd 0 rfl) ((ow.keep hk).box 1 rfl) rfl) rfl <|
    aS (fun hk bs hd => xfieldAddr rfl (bg bs s6) (by kernel_rfl)) rfl <|
    aS (fun hk bs hd => xloadB rfl (by kernel_rfl) (dp hd 2 rfl) ((ow.keep hk).box 0 rfl) rfl) rfl <|
    aS (fun hk bs hd => xcatS rfl (dp hd 1 rfl) (dp hd 3 rfl) (by omega)) rfl <|
    asD 4 rfl rfl rfl rfl rfl rfl <|
    arm0) fun fa fw bs hv ap z q ow => ?_
  have s4 := bg bs s4; have s7 := gv hv 5 rfl rfl; refine wt hK10 ?_; refine sq fun hK11 => ?_; refine sq fun hK12 => ?_
  refine ro [yV _, yV _, yV _] 3 31 z q ow (
    mvS s7 rfl rfl rfl rfl <|
    aS (fun hk bs hd => xlenS Tryz.underlying9 rfl (dp hd 0 rfl)) rfl <|
    aS (fun hk bs hd => xgtr rfl (dp hd 1 rfl) rfl) rfl <|
    arm0) fun fa fw bs hv ap z q ow => ?_
  obtain ⟨s4, s7⟩ := b2 bs s4 s7; have s27 := gv hv 2 rfl rfl; refine wt hK12 ?_
  by_cases hc3 : (256 : Int) < (((((vTxt a).t) ++ ((vTxt b).t)).length : Nat) : Int)
  · refine ct s27 ((decide_eq_true_iff).2 hc3) ?_
    refine sq fun hK13 => ?_
    refine ro [yV (aggV (vFail 2))] 1 31 z q ow (
      aC (fun hk bs hd => xcall1 rfl rfl (en_val_Fail _ _)) (fun hk bs hd => vfail_any 2 _) rfl <|
      arm0) fun fa fw bs hv ap z q ow => ?_
    obtain ⟨s4, s7⟩ := b2 bs s4 s7; have s28 := gv hv 0 rfl rfl; refine ws ow 2 0 s4 s28 fun fw ow => ?_; refine wt hK13 ?_; refine wp_ret ?_; refine then_r ?_; refine rs3 s4 (ow.box 2 rfl) q ?_; exact ⟨congrArg (fun v => Ending.returned (aggV v)) (show _ = cat13 a b by unfold cat13; rw [if_neg (by rw [ea]; decide), if_neg (by rw [eb]; decide)]; unfold vText; rw [if_pos (by omega)]), ow.kept⟩
  refine cf s27 (decide_eq_true_iff) hc3 ?_; refine wp_skip ?_; refine tn hK11 ?_; refine sq fun hK14 => ?_
  refine ro [yV _, yV (aggV (⟨3, 0, ((vTxt a).t) ++ ((vTxt b).t)⟩ : Vl))] 2 31 z q ow (
    mvS s7 rfl rfl rfl rfl <|
    arm (fun aa ww hk bs hd => by
      have d0 : aa.eval (.tmp 29) = .string ⟨(((vTxt a).t) ++ ((vTxt b).t)).toArray⟩ := depX hd 0 rfl; exact stepX_same (v := aggV (⟨3, 0, ((vTxt a).t) ++ ((vTxt b).t)⟩ : Vl)) (want0 rfl) (xbuild (us := #[(0, .int .u8 3), (2, .string ⟨(((vTxt a).t) ++ ((vTxt b).t)).toArray⟩)]) rfl (by simp only [List.map_toArray, List.map_cons, List.map_nil, d0]; rfl) (by kernel_rfl)) rfl rfl
      ) <|
    arm0) fun fa fw bs hv ap z q ow => ?_
  have s4 := bg bs s4; have s30 := gv hv 1 rfl rfl; refine ws ow 2 0 s4 s30 fun fw ow => ?_; refine wt hK14 ?_; refine wp_ret ?_; refine rs3 s4 (ow.box 2 rfl) q ?_; exact ⟨congrArg (fun v => Ending.returned (aggV v)) (show _ = cat13 a b by unfold cat13; rw [if_neg (by rw [ea]; decide), if_neg (by rw [eb]; decide)]; unfold vText; rw [if_neg (by omega)]), ow.kept⟩
set_option maxHeartbeats 4000000 in
theorem compare13_any (op : Int) (a b : Vl) (w : World) (h7 : 7 ≤ op) (h12 : op ≤ 12) (ha : Small a) (hb : Small b) :
    Calls Tryz.prog 78 #[.int .i64 op, aggV a, aggV b] w fun e w' => e = .returned (aggV (cmp13 op a b)) ∧ Kept w w' := by
  go_enter Tryz.func78, Tryz.ntmps78; refine sq fun hK1 => ?_
  refine ro [yNew w.heap.size (.cells #[.int .u8 a.k, .int .i64 a.n, .string ⟨a.t.toArray⟩] 25 (0, 0)), yNew w.heap.size (.cells #[.int .u8 b.k, .int .i64 b.n, .string ⟨b.t.toArray⟩] 25 (0, 0)), yNew w.heap.size (.cells #[.int .u8 0, .int .i64 0, .string ⟨[].toArray⟩] 25 (0, 0))] 3 52 rfl rfl (Own.start w) (
    aP (fun hk bs hd => xbox rfl (bs.get 1 rfl rfl) (by kernel_rfl)) rfl <|
    aP (fun hk bs hd => xbox rfl (bs.get 2 rfl rfl) (by kernel_rfl)) rfl <|
    aP (fun hk bs hd => xalloc rfl (by kernel_rfl)) rfl <|
    arm0) fun fa fw bs hv ap z q ov => ?_
  have s0 := bs.get 0 rfl rfl; obtain ⟨gb1, s4, bgb1, hgb1⟩ := gotP hv 0 rfl rfl rfl; have ov := ov.cons hgb1 (Nat.le_trans (Own.start w).kept.size bgb1) ((Own.start w).below bgb1); obtain ⟨gb2, s5, bgb2, hgb2⟩ := gotP hv 1 rfl rfl rfl; have ov := ov.cons hgb2 (Nat.le_trans (Own.start w).kept.size bgb2) (ne_cons (apartP ap 0 1 rfl rfl rfl s4 rfl s5 rfl) ((Own.start w).below bgb2)); obtain ⟨gb3, s6, bgb3, hgb3⟩ := gotP hv 2 rfl rfl rfl; have ov := ov.cons hgb3 (Nat.le_trans (Own.start w).kept.size bgb3) (ne_cons (apartP ap 1 2 rfl rfl rfl s5 rfl s6 rfl) (ne_cons (apartP ap 0 2 rfl rfl rfl s4 rfl s6 rfl) ((Own.start w).below bgb3))); have ow := ov; refine wt hK1 ?_; refine sq fun hK2 => ?_; refine sq fun hK3 => ?_
  refine ro [yV (.pointer (some ⟨gb1, 0, none⟩)), yV _, yV _] 3 52 z q ow (
    aS (fun hk bs hd => xfieldAddr rfl (bg bs s4) (by kernel_rfl)) rfl <|
    aS (fun hk bs hd => xloadB rfl (by kernel_rfl) (dp hd 0 rfl) ((ow.keep hk).box 2 rfl) rfl) rfl <|
    aS (fun hk bs hd => xeqi rfl (dp hd 1 rfl) rfl) rfl <|
    arm0) fun fa fw bs hv ap z q ow => ?_
  obtain ⟨s0, s4, s5, s6⟩ := b4 bs s0 s4 s5 s6; have s11 := gv hv 2 rfl rfl; refine wt hK3 ?_
  by_cases hc1 : (a.k : Int) = (4 : Int)
  · refine ct s11 ((decide_eq_true_iff).2 hc1) ?_
    have ea : isE (a) = true := isE_yes hc1; refine sq fun hK4 => ?_
    refine ro [yV (aggV a)] 1 52 z q ow (
      aS (fun hk bs hd => xloadN 3 rfl (by kernel_rfl) (by kernel_rfl) (bg bs s4) ((ow.keep hk).box 2 rfl) (Nat.le_of_ble_eq_true rfl) rfl) rfl <|
      arm0) fun fa fw bs hv ap z q ow => ?_
    obtain ⟨s0, s4, s5, s6⟩ := b4 bs s0 s4 s5 s6; have s12 := gv hv 0 rfl rfl; refine ws ow 0 0 s6 s12 fun fw ow => ?_; refine wt hK4 ?_; refine wp_ret ?_; refine then_r ?_; refine rs3 s6 (ow.box 0 rfl) q ?_; exact ⟨congrArg (fun v => Ending.returned (aggV v)) (show a = cmp13 op a b by unfold cmp13; rw [if_pos ea]), ow.kept⟩
  refine cf s11 (decide_eq_true_iff) hc1 ?_; have ea : isE (a) = false := isE_no hc1; refine wp_skip ?_; refine tn hK2 ?_; refine sq fun hK5 => ?_; refine sq fun hK6 => ?_
  refine ro [yV (.pointer (some ⟨gb2, 0, none⟩)), yV _, yV _] 3 52 z q ow (
    aS (fun hk bs hd => xfieldAddr rfl (bg bs s5) (by kernel_rfl)) rfl <|
    aS (fun hk bs hd => xloadB rfl (by kernel_rfl) (dp hd 0 rfl) ((ow.keep hk).box 1 rfl) rfl) rfl <|
    aS (fun hk bs hd => xeqi rfl (dp hd 1 rfl) rfl) rfl <|
    arm0) fun fa fw bs hv ap z q ow => ?_
  obtain ⟨s0, s4, s5, s6⟩ := b4 bs s0 s4 s5 s6; have s15 := gv hv 2 rfl rfl; refine wt hK6 ?_
  by_cases hc2 : (b.k : Int) = (4 : Int)
  · refine ct s15 ((decide_eq_true_iff).2 hc2) ?_
    have eb : isE (b) = true := isE_yes hc2; refine sq fun hK7 => ?_
    refine ro [yV (aggV b)] 1 52 z q ow (
      aS (fun hk bs hd => xloadN 3 rfl (by kernel_rfl) (by kernel_rfl) (bg bs s5) ((ow.keep hk).box 1 rfl) (Nat.le_of_ble_eq_true rfl) rfl) rfl <|
      arm0) fun fa fw bs hv ap z q ow => ?_
    obtain ⟨s0, s4, s5, s6⟩ := b4 bs s0 s4 s5 s6; have s16 := gv hv 0 rfl rfl; refine ws ow 0 0 s6 s16 fun fw ow => ?_; refine wt hK7 ?_; refine wp_ret ?_; refine then_r ?_; refine rs3 s6 (ow.box 0 rfl) q ?_; exact ⟨congrArg (fun v => Ending.returned (aggV v)) (show b = cmp13 op a b by unfold cmp13; rw [if_neg (by rw [ea]; decide), if_pos eb]), ow.kept⟩
  refine cf s15 (decide_eq_true_iff) hc2 ?_; have eb : isE (b) = false := isE_no hc2; refine wp_skip ?_; refine tn hK5 ?_; refine sq fun hK8 => ?_
  refine ro [yV (aggV a), yV (aggV b), yV (.tuple #[.int .i64 ((vCmp a b).1), .int .i64 ((vCmp a b).2)]), yV _, yV _, yV _, yV _, yV _] 8 52 z q ow (
    aS (fun hk bs hd => xloadN 3 rfl (by kernel_rfl) (by kernel_rfl) (bg bs s4) ((ow.keep hk).box 2 rfl) (Nat.le_of_ble_eq_true rfl) rfl) rfl <|
    aS (fun hk bs hd => xloadN 3 rfl (by kernel_rfl) (by kernel_rfl) (bg bs s5) ((ow.keep hk).box 1 rfl) (Nat.le_of_ble_eq_true rfl) rfl) rfl <|
    aC (fun hk bs hd => xcall2 rfl (dp hd 0 rfl) (dp hd 1 rfl) (en_val_Compare _ _)) (fun hk bs hd => vcompare_any a b _ ha.1 hb.1 (Nat.le_trans ha.2 (by decide)) (Nat.le_trans hb.2 (by decide))) rfl <|
    mvD 2 rfl rfl rfl rfl rfl rfl <|
    aS (fun hk bs hd => xextract rfl (dp hd 3 rfl) rfl) rfl <|
    aS (fun hk bs hd => xextract rfl (dp hd 3 rfl) rfl) rfl <|
    asD 4 rfl rfl rfl rfl rfl rfl <|
    asD 5 rfl rfl rfl rfl rfl rfl <|
    arm0) fun fa fw bs hv ap z q ow => ?_
  obtain ⟨s0, s6⟩ := b2 bs s0 s6; have s7 := gv hv 6 rfl rfl; refine wt hK8 ?_; refine sq fun hK9 => ?_; refine sq fun hK10 => ?_
  refine ro [yV _] 1 52 z q ow (
    mvS s0 rfl rfl rfl rfl <|
    arm0) fun fa fw bs hv ap z q ow => ?_
  obtain ⟨s6, s7⟩ := b2 bs s6 s7; have s23 := gv hv 0 rfl rfl; refine wt hK10 ?_; refine wp_block ?_; refine sq fun hK11 => ?_
  refine ro [yV _, yV _] 2 52 z q ow (
    aS (fun hk bs hd => xeqi rfl (bg bs s23) rfl) rfl <|
    asD 0 rfl rfl rfl rfl rfl rfl <|
    arm0) fun fa fw bs hv ap z q ow => ?_
  obtain ⟨s6, s7, s23⟩ := b3 bs s6 s7 s23; have s24 := gv hv 1 rfl rfl; refine wt hK11 ?_
  by_cases hc3 : (op : Int) = (7 : Int)
  · refine ct s24 ((decide_eq_true_iff).2 hc3) ?_
    refine sq fun hK12 => ?_
    refine ro [yV _, yV _, yV (aggV (vTruth (decide (((vCmp a b).1 : Int) = (0 : Int)))))] 3 52 z q ow (
      mvS s7 rfl rfl rfl rfl <|
      aS (fun hk bs hd => xeqi rfl (dp hd 0 rfl) rfl) rfl <|
      aC (fun hk bs hd => xcall1 rfl (dp hd 1 rfl) (en_val_Truth _ _)) (fun hk bs hd => vtruth_any (decide (((vCmp a b).1 : Int) = (0 : Int))) _) rfl <|
      arm0) fun fa fw bs hv ap z q ow => ?_
    obtain ⟨s6, s7⟩ := b2 bs s6 s7; have s28 := gv hv 2 rfl rfl; refine ws ow 0 0 s6 s28 fun fw ow => ?_; refine wt hK12 ?_; refine wp_ret ?_; refine block_r ?_; refine then_r ?_; refine rs3 s6 (ow.box 0 rfl) q ?_; exact ⟨congrArg (fun v => Ending.returned (aggV v)) (show _ = cmp13 op a b by have e : op = 7 := (by omega); subst e; simp [cmp13, ea, eb]), ow.kept⟩
  refine cf s24 (decide_eq_true_iff) hc3 ?_; refine sq fun hK13 => ?_
  refine ro [yV _, yV _] 2 52 z q ow (
    aS (fun hk bs hd => xeqi rfl (bg bs s23) rfl) rfl <|
    asD 0 rfl rfl rfl rfl rfl rfl <|
    arm0) fun fa fw bs hv ap z q ow => ?_
  obtain ⟨s6, s7, s23⟩ := b3 bs s6 s7 s23; have s29 := gv hv 1 rfl rfl; refine wt hK13 ?_
  by_cases hc4 : (op : Int) = (8 : Int)
  · refine ct s29 ((decide_eq_true_iff).2 hc4) ?_
    refine sq fun hK14 => ?_
    refine ro [yV _, yV _, yV (aggV (vTruth (decide (((vCmp a b).1 : Int) ≠ (0 : Int)))))] 3 52 z q ow (
      mvS s7 rfl rfl rfl rfl <|
      aS (fun hk bs hd => xnei rfl (dp hd 0 rfl) rfl) rfl <|
      aC (fun hk bs hd => xcall1 rfl (dp hd 1 rfl) (en_val_Truth _ _)) (fun hk bs hd => vtruth_any (decide (((vCmp a b).1 : Int) ≠ (0 : Int))) _) rfl <|
      arm0) fun fa fw bs hv ap z q ow => ?_
    obtain ⟨s6, s7⟩ := b2 bs s6 s7; have s33 := gv hv 2 rfl rfl; refine ws ow 0 0 s6 s33 fun fw ow => ?_; refine wt hK14 ?_; refine wp_ret ?_; refine block_r ?_; refine then_r ?_; refine rs3 s6 (ow.box 0 rfl) q ?_; exact ⟨congrArg (fun v => Ending.returned (aggV v)) (show _ = cmp13 op a b by have e : op = 8 := (by omega); subst e; simp [cmp13, ea, eb]), ow.kept⟩
  refine cf s29 (decide_eq_true_iff) hc4 ?_; refine sq fun hK15 => ?_
  refine ro [yV _, yV _] 2 52 z q ow (
    aS (fun hk bs hd => xeqi rfl (bg bs s23) rfl) rfl <|
    asD 0 rfl rfl rfl rfl rfl rfl <|
    arm0) fun fa fw bs hv ap z q ow => ?_
  obtain ⟨s6, s7, s23⟩ := b3 bs s6 s7 s23; have s34 := gv hv 1 rfl rfl; refine wt hK15 ?_
  by_cases hc5 : (op : Int) = (9 : Int)
  · refine ct s34 ((decide_eq_true_iff).2 hc5) ?_
    refine sq fun hK16 => ?_
    refine ro [yV _, yV _, yV (aggV (vTruth (decide (((vCmp a b).1 : Int) < (0 : Int)))))] 3 52 z q ow (
      mvS s7 rfl rfl rfl rfl <|
      aS (fun hk bs hd => xlss rfl (dp hd 0 rfl) rfl) rfl <|
      aC (fun hk bs hd => xcall1 rfl (dp hd 1 rfl) (en_val_Truth _ _)) (fun hk bs hd => vtruth_any (decide (((vCmp a b).1 : Int) < (0 : Int))) _) rfl <|
      arm0) fun fa fw bs hv ap z q ow => ?_
    obtain ⟨s6, s7⟩ := b2 bs s6 s7; have s38 := gv hv 2 rfl rfl; refine ws ow 0 0 s6 s38 fun fw ow => ?_; refine wt hK16 ?_; refine wp_ret ?_; refine block_r ?_; refine then_r ?_; refine rs3 s6 (ow.box 0 rfl) q ?_; exact ⟨congrArg (fun v => Ending.returned (aggV v)) (show _ = cmp13 op a b by have e : op = 9 := (by omega); subst e; simp [cmp13, ea, eb]), ow.kept⟩
  refine cf s34 (decide_eq_true_iff) hc5 ?_; refine sq fun hK17 => ?_
  refine ro [yV _, yV _] 2 52 z q ow (
    aS (fun hk bs hd => xeqi rfl (bg bs s23) rfl) rfl <|
    asD 0 rfl rfl rfl rfl rfl rfl <|
    arm0) fun fa fw bs hv ap z q ow => ?_
  obtain ⟨s6, s7, s23⟩ := b3 bs s6 s7 s23; have s39 := gv hv 1 rfl rfl; refine wt hK17 ?_
  by_cases hc6 : (op : Int) = (10 : Int)
  · refine ct s39 ((decide_eq_true_iff).2 hc6) ?_
    refine sq fun hK18 => ?_
    refine ro [yV _, yV _, yV (aggV (vTruth (decide (((vCmp a b).1 : Int) ≤ (0 : Int)))))] 3 52 z q ow (
      mvS s7 rfl rfl rfl rfl <|
      aS (fun hk bs hd => xleq rfl (dp hd 0 rfl) rfl) rfl <|
      aC (fun hk bs hd => xcall1 rfl (dp hd 1 rfl) (en_val_Truth _ _)) (fun hk bs hd => vtruth_any (decide (((vCmp a b).1 : Int) ≤ (0 : Int))) _) rfl <|
      arm0) fun fa fw bs hv ap z q ow => ?_
    obtain ⟨s6, s7⟩ := b2 bs s6 s7; have s43 := gv hv 2 rfl rfl; refine ws ow 0 0 s6 s43 fun fw ow => ?_; refine wt hK18 ?_; refine wp_ret ?_; refine block_r ?_; refine then_r ?_; refine rs3 s6 (ow.box 0 rfl) q ?_; exact ⟨congrArg (fun v => Ending.returned (aggV v)) (show _ = cmp13 op a b by have e : op = 10 := (by omega); subst e; simp [cmp13, ea, eb]), ow.kept⟩
  refine cf s39 (decide_eq_true_iff) hc6 ?_; refine sq fun hK19 => ?_
  refine ro [yV _, yV _] 2 52 z q ow (
    aS (fun hk bs hd => xeqi rfl (bg bs s23) rfl) rfl <|
    asD 0 rfl rfl rfl rfl rfl rfl <|
    arm0) fun fa fw bs hv ap z q ow => ?_
  obtain ⟨s6, s7⟩ := b2 bs s6 s7; have s44 := gv hv 1 rfl rfl; refine wt hK19 ?_
  by_cases hc7 : (op : Int) = (11 : Int)
  · refine ct s44 ((decide_eq_true_iff).2 hc7) ?_
    refine sq fun hK20 => ?_
    refine ro [yV _, yV _, yV (aggV (vTruth (decide ((0 : Int) < ((vCmp a b).1 : Int)))))] 3 52 z q ow (
      mvS s7 rfl rfl rfl rfl <|
      aS (fun hk bs hd => xgtr rfl (dp hd 0 rfl) rfl) rfl <|
      aC (fun hk bs hd => xcall1 rfl (dp hd 1 rfl) (en_val_Truth _ _)) (fun hk bs hd => vtruth_any (decide ((0 : Int) < ((vCmp a b).1 : Int))) _) rfl <|
      arm0) fun fa fw bs hv ap z q ow => ?_
    obtain ⟨s6, s7⟩ := b2 bs s6 s7; have s48 := gv hv 2 rfl rfl; refine ws ow 0 0 s6 s48 fun fw ow => ?_; refine wt hK20 ?_; refine wp_ret ?_; refine block_r ?_; refine then_r ?_; refine rs3 s6 (ow.box 0 rfl) q ?_; exact ⟨congrArg (fun v => Ending.returned (aggV v)) (show _ = cmp13 op a b by have e : op = 11 := (by omega); subst e; simp [cmp13, ea, eb]), ow.kept⟩
  refine cf s44 (decide_eq_true_iff) hc7 ?_; refine wp_skip ?_; refine block_n ?_; refine tn hK9 ?_; refine sq fun hK21 => ?_
  refine ro [yV _, yV _, yV (aggV (vTruth (decide ((0 : Int) ≤ ((vCmp a b).1 : Int)))))] 3 52 z q ow (
    mvS s7 rfl rfl rfl rfl <|
    aS (fun hk bs hd => xgeq rfl (dp hd 0 rfl) rfl) rfl <|
    aC (fun hk bs hd => xcall1 rfl (dp hd 1 rfl) (en_val_Truth _ _)) (fun hk bs hd => vtruth_any (decide ((0 : Int) ≤ ((vCmp a b).1 : Int))) _) rfl <|
    arm0) fun fa fw bs hv ap z q ow => ?_
  have s6 := bg bs s6; have s51 := gv hv 2 rfl rfl; refine ws ow 0 0 s6 s51 fun fw ow => ?_; refine wt hK21 ?_; refine wp_ret ?_; refine rs3 s6 (ow.box 0 rfl) q ?_; exact ⟨congrArg (fun v => Ending.returned (aggV v)) (show _ = cmp13 op a b by have e : op = 12 := (by omega); subst e; simp [cmp13, ea, eb]), ow.kept⟩
set_option maxHeartbeats 8000000 in
theorem binary13_any (op : Int) (a b : Vl) (w : World) (mx : Int) (HM : Mx w mx) (ha : Small a) (hb : Small b) :
    Calls Tryz.prog 30 #[.int .i64 op, aggV a, aggV b] w fun e w' => e = .returned (.tuple #[aggV (vBin13 op a b).1, .int .i64 (vBin13 op a b).2]) ∧ Kept w w' := by
  go_enter Tryz.func30, Tryz.ntmps30; refine sq fun hK1 => ?_
  refine ro [yNew w.heap.size (.cells #[.int .u8 a.k, .int .i64 a.n, .string ⟨a.t.toArray⟩] 25 (0, 0)), yNew w.heap.size (.cells #[.int .u8 b.k, .int .i64 b.n, .string ⟨b.t.toArray⟩] 25 (0, 0)), yNew w.heap.size (.cells #[.int .u8 0, .int .i64 0, .string ⟨[].toArray⟩] 25 (0, 0)), yV _] 4 56 rfl rfl (Own.start w) (
    aP (fun hk bs hd => xbox rfl (bs.get 1 rfl rfl) (by kernel_rfl)) rfl <|
    aP (fun hk bs hd => xbox rfl (bs.get 2 rfl rfl) (by kernel_rfl)) rfl <|
    aP (fun hk bs hd => xalloc rfl (by kernel_rfl)) rfl <|
    aS (fun hk bs hd => xassign rfl rfl) rfl <|
    arm0) fun fa fw bs hv ap z q ov => ?_
  have s0 := bs.get 0 rfl rfl; obtain ⟨gb1, s4, bgb1, hgb1⟩ := gotP hv 0 rfl rfl rfl; have ov := ov.cons hgb1 (Nat.le_trans (Own.start w).kept.size bgb1) ((Own.start w).below bgb1); obtain ⟨gb2, s5, bgb2, hgb2⟩ := gotP hv 1 rfl rfl rfl; have ov := ov.cons hgb2 (Nat.le_trans (Own.start w).kept.size bgb2) (ne_cons (apartP ap 0 1 rfl rfl rfl s4 rfl s5 rfl) ((Own.start w).below bgb2)); obtain ⟨gb3, s6, bgb3, hgb3⟩ := gotP hv 2 rfl rfl rfl; have ov := ov.cons hgb3 (Nat.le_trans (Own.start w).kept.size bgb3) (ne_cons (apartP ap 1 2 rfl rfl rfl s5 rfl s6 rfl) (ne_cons (apartP ap 0 2 rfl rfl rfl s4 rfl s6 rfl) ((Own.start w).below bgb3))); have s7 := gv hv 3 rfl rfl; have ow := ov; refine wt hK1 ?_; refine sq fun hK2 => ?_; refine sq fun hK3 => ?_
  refine ro [yV _, yV _, yV _, yIf (((decide ((op : Int) < (1 : Int))) = false)) (yV (.int .i64 op)), yIf (((decide ((op : Int) < (1 : Int))) = false)) (yV (.bool (decide ((12 : Int) < (op : Int))))), yV _, yV _, yIf ((((decide ((op : Int) < (1 : Int))) || (decide ((12 : Int) < (op : Int)))) = false)) (yV (aggV a)), yIf ((((decide ((op : Int) < (1 : Int))) || (decide ((12 : Int) < (op : Int)))) = false)) (yV (aggV b)), yIf ((((decide ((op : Int) < (1 : Int))) || (decide ((12 : Int) < (op : Int)))) = false)) (ySlice fw.heap.size 2 (rowObj [a, b])), yIf ((((decide ((op : Int) < (1 : Int))) || (decide ((12 : Int) < (op : Int)))) = false)) (yV (.bool ([a, b].all vOk))), yIf ((((decide ((op : Int) < (1 : Int))) || (decide ((12 : Int) < (op : Int)))) = false)) (yV (.bool (!([a, b].all vOk)))), yV _] 13 56 z q ow (
    mvS s0 rfl rfl rfl rfl <|
    aS (fun hk bs hd => xlss rfl (dp hd 0 rfl) rfl) rfl <|
    mvD 1 rfl rfl rfl rfl rfl rfl <|
    arm (fun aa ww hk bs hd => by
      have d2 := dp hd 2 rfl
      by_cases hz : ((decide ((op : Int) < (1 : Int))) = false)
      · exact stepX_same (v := .int .i64 op) (want1 (j := 2) (b := false) rfl (d2.trans (congrArg Value.bool hz))) (xmove rfl (bg bs s0)) ⟨fun _ => rfl, fun c => absurd hz c⟩ rfl
      · exact stepX_skip (wantN (j := 2) (b := false) (b' := true) rfl (d2.trans (congrArg Value.bool ((Bool.not_eq_false _).mp hz))) rfl) ⟨fun c => absurd c hz, fun _ => rfl⟩ rfl
      ) <|
    arm (fun aa ww hk bs hd => by
      have d2 := dp hd 2 rfl; have d3 := dI hd 3 rfl
      by_cases hz : ((decide ((op : Int) < (1 : Int))) = false)
      · exact stepX_same (v := .bool (decide ((12 : Int) < (op : Int)))) (want1 (j := 2) (b := false) rfl (d2.trans (congrArg Value.bool hz))) (xgtr rfl (d3.1 hz) rfl) ⟨fun _ => rfl, fun c => absurd hz c⟩ rfl
      · exact stepX_skip (wantN (j := 2) (b := false) (b' := true) rfl (d2.trans (congrArg Value.bool ((Bool.not_eq_false _).mp hz))) rfl) ⟨fun c => absurd c hz, fun _ => rfl⟩ rfl
      ) <|
    arm (fun aa ww hk bs hd => by
      have d2 := dp hd 2 rfl; have d4 := dI hd 4 rfl; exact stepX_same (v := .bool ((decide ((op : Int) < (1 : Int))) || (decide ((12 : Int) < (op : Int))))) (want0 rfl) (xor_ rfl (d2) rfl (fun hb => d4.1 hb)) rfl rfl
      ) <|
    mvD 5 rfl rfl rfl rfl rfl rfl <|
    arm (fun aa ww hk bs hd => by
      have d6 := dp hd 6 rfl
      by_cases hz : (((decide ((op : Int) < (1 : Int))) || (decide ((12 : Int) < (op : Int)))) = false)
      · exact stepX_same (v := aggV a) (want1 (j := 6) (b := false) rfl (d6.trans (congrArg Value.bool hz))) (xloadN 3 (vs := [.int .u8 a.k, .int .i64 a.n, .string ⟨a.t.toArray⟩]) rfl (by kernel_rfl) (by kernel_rfl) (bg bs s4) ((ow.keep hk).box 2 rfl) (Nat.le_of_ble_eq_true rfl) rfl) ⟨fun _ => rfl, fun c => absurd hz c⟩ rfl
      · exact stepX_skip (wantN (j := 6) (b := false) (b' := true) rfl (d6.trans (congrArg Value.bool ((Bool.not_eq_false _).mp hz))) rfl) ⟨fun c => absurd c hz, fun _ => rfl⟩ rfl
      ) <|
    arm (fun aa ww hk bs hd => by
      have d6 := dp hd 6 rfl
      by_cases hz : (((decide ((op : Int) < (1 : Int))) || (decide ((12 : Int) < (op : Int)))) = false)
      · exact stepX_same (v := aggV b) (want1 (j := 6) (b := false) rfl (d6.trans (congrArg Value.bool hz))) (xloadN 3 (vs := [.int .u8 b.k, .int .i64 b.n, .string ⟨b.t.toArray⟩]) rfl (by kernel_rfl) (by kernel_rfl) (bg bs s5) ((ow.keep hk).box 1 rfl) (Nat.le_of_ble_eq_true rfl) rfl) ⟨fun _ => rfl, fun c => absurd hz c⟩ rfl
      · exact stepX_skip (wantN (j := 6) (b := false) (b' := true) rfl (d6.trans (congrArg Value.bool ((Bool.not_eq_false _).mp hz))) rfl) ⟨fun c => absurd c hz, fun _ => rfl⟩ rfl
      ) <|
    arm (fun aa ww hk bs hd => by
      have d6 := dp hd 6 rfl; have d7 := dI hd 7 rfl; have d8 := dI hd 8 rfl
      by_cases hz : (((decide ((op : Int) < (1 : Int))) || (decide ((12 : Int) < (op : Int)))) = false)
      · exact stepX_value (want1 (j := 6) (b := false) rfl (d6.trans (congrArg Value.bool hz))) (xrow2 rfl (d7.1 hz) (d8.1 hz)) ⟨fun _ => ⟨_, rfl, hk.size, Go.heap_alloc_new _ _⟩, fun c => absurd hz c⟩ ((Kept.refl _).alloc _) rfl
      · exact stepX_skip (wantN (j := 6) (b := false) (b' := true) rfl (d6.trans (congrArg Value.bool ((Bool.not_eq_false _).mp hz))) rfl) ⟨fun c => absurd c hz, fun _ => rfl⟩ rfl
      ) <|
    arm (fun aa ww hk bs hd => by
      have d6 := dp hd 6 rfl; have d9 : ((((decide ((op : Int) < (1 : Int))) || (decide ((12 : Int) < (op : Int)))) = false) → ∃ g, aa.eval (.tmp 21) = .slice (some ⟨g, 0, none⟩) 2 2 ∧ fw.heap.size ≤ g ∧ ww.heap[g]? = some (rowObj [a, b])) ∧ (¬ ((((decide ((op : Int) < (1 : Int))) || (decide ((12 : Int) < (op : Int)))) = false)) → aa.eval (.tmp 21) = undef) := depX hd 9 rfl
      by_cases hz : (((decide ((op : Int) < (1 : Int))) || (decide ((12 : Int) < (op : Int)))) = false)
      · obtain ⟨g9, e9, _, h9⟩ := d9.1 hz
        exact stepX_enter (want1 (j := 6) (b := false) rfl (d6.trans (congrArg Value.bool hz))) (xcall1 (u := .slice (some ⟨g9, 0, none⟩) 2 2) rfl e9 (en_fnum_valid _ _)) ((valid13r_any g9 0 2 [a, b] ww (rowObj_row h9) (small_ab ha hb) (by simp)).mono fun _ _ ⟨he, hk2⟩ => ⟨_, he, ⟨fun _ => rfl, fun c => absurd hz c⟩, hk2⟩) rfl
      · exact stepX_skip (wantN (j := 6) (b := false) (b' := true) rfl (d6.trans (congrArg Value.bool ((Bool.not_eq_false _).mp hz))) rfl) ⟨fun c => absurd c hz, fun _ => rfl⟩ rfl
      ) <|
    arm (fun aa ww hk bs hd => by
      have d6 := dp hd 6 rfl; have d10 := dI hd 10 rfl
      by_cases hz : (((decide ((op : Int) < (1 : Int))) || (decide ((12 : Int) < (op : Int)))) = false)
      · exact stepX_same (v := .bool (!([a, b].all vOk))) (want1 (j := 6) (b := false) rfl (d6.trans (congrArg Value.bool hz))) (xnot rfl (d10.1 hz)) ⟨fun _ => rfl, fun c => absurd hz c⟩ rfl
      · exact stepX_skip (wantN (j := 6) (b := false) (b' := true) rfl (d6.trans (congrArg Value.bool ((Bool.not_eq_false _).mp hz))) rfl) ⟨fun c => absurd c hz, fun _ => rfl⟩ rfl
      ) <|
    arm (fun aa ww hk bs hd => by
      have d6 := dp hd 6 rfl; have d11 := dI hd 11 rfl; exact stepX_same (v := .bool (((decide ((op : Int) < (1 : Int))) || (decide ((12 : Int) < (op : Int)))) || (!([a, b].all vOk)))) (want0 rfl) (xor_ rfl (d6) rfl (fun hb => d11.1 hb)) rfl rfl
      ) <|
    arm0) fun fa fw bs hv ap z q ow => ?_
  obtain ⟨s0, s4, s5, s6, s7⟩ := b5 bs s0 s4 s5 s6 s7; have s24 := gv hv 12 rfl rfl; refine wt hK3 ?_
  by_cases hc1 : (((op : Int) < (1 : Int)) ∨ ((12 : Int) < (op : Int))) ∨ (¬ (([a, b].all vOk) = true))
  · refine ct s24 ((bor (bor (decide_eq_true_iff) (decide_eq_true_iff)) (bnot (Iff.rfl))).2 hc1) ?_
    have hbad : op < 1 ∨ 12 < op ∨ [a, b].all vOk = false := by rcases hc1 with h | h; omega; exact Or.inr (Or.inr (by simpa using h))
    refine sq fun hK4 => ?_
    refine ro [yV (aggV (⟨0, 0, []⟩ : Vl))] 1 56 z q ow (
      aS (fun hk bs hd => xbuild (us := #[]) rfl (by simp) (by kernel_rfl)) rfl <|
      arm0) fun fa fw bs hv ap z q ow => ?_
    obtain ⟨s0, s4, s5, s6, s7⟩ := b5 bs s0 s4 s5 s6 s7; have s25 := gv hv 0 rfl rfl; refine ws ow 0 0 s6 s25 fun fw ow => ?_; refine wl_value (v := .int .i64 2) (want0 rfl) (xassign rfl rfl) ?_; refine gp4 z q ow s0 s4 s5 s6 fun fa fw z q ow s0 s4 s5 s6 s7 => ?_; refine wt hK4 ?_; refine wp_ret ?_; refine then_r ?_; refine resultsL (v := .tuple #[aggV (⟨0, 0, []⟩ : Vl), .int .i64 2]) rfl (.cons (res_cell (n := 3) _ s6 (by kernel_rfl) (by kernel_rfl) (ow.box 0 rfl) (Nat.le_of_ble_eq_true rfl) rfl) (.cons (res_tmp s7) .nil)) rfl q ?_; exact ⟨ret_pair13 (b13_arg hbad), ow.kept⟩
  refine cf s24 (bor (bor (decide_eq_true_iff) (decide_eq_true_iff)) (bnot (Iff.rfl))) hc1 ?_; have hop : 1 ≤ op ∧ op ≤ 12 := by omega
  have hval : [a, b].all vOk = true := by cases e : [a, b].all vOk with
    | true => rfl
    | false => exact absurd (Or.inr (by rw [e]; decide)) hc1
  refine wp_skip ?_; refine tn hK2 ?_; refine sq fun hK5 => ?_; refine wp_block ?_; refine sq fun hK6 => ?_
  refine ro [yV _, yV _, yV _] 3 56 z q ow (
    mvS s0 rfl rfl rfl rfl <|
    aS (fun hk bs hd => xeqi rfl (dp hd 0 rfl) rfl) rfl <|
    asD 1 rfl rfl rfl rfl rfl rfl <|
    arm0) fun fa fw bs hv ap z q ow => ?_
  obtain ⟨s0, s4, s5, s6, s7⟩ := b5 bs s0 s4 s5 s6 s7; have s26 := gv hv 2 rfl rfl; refine wt hK6 ?_
  by_cases hc2 : (op : Int) = (6 : Int)
  · refine ct s26 ((decide_eq_true_iff).2 hc2) ?_
    refine sq fun hK7 => ?_
    refine ro [yV (aggV a), yV (aggV b), yV (aggV (cat13 a b))] 3 56 z q ow (
      aS (fun hk bs hd => xloadN 3 rfl (by kernel_rfl) (by kernel_rfl) (bg bs s4) ((ow.keep hk).box 2 rfl) (Nat.le_of_ble_eq_true rfl) rfl) rfl <|
      aS (fun hk bs hd => xloadN 3 rfl (by kernel_rfl) (by kernel_rfl) (bg bs s5) ((ow.keep hk).box 1 rfl) (Nat.le_of_ble_eq_true rfl) rfl) rfl <|
      aC (fun hk bs hd => xcall2 rfl (dp hd 0 rfl) (dp hd 1 rfl) (en_fnum_cat _ _)) (fun hk bs hd => cat13_any a b _ ha hb) rfl <|
      arm0) fun fa fw bs hv ap z q ow => ?_
    obtain ⟨s0, s4, s5, s6, s7⟩ := b5 bs s0 s4 s5 s6 s7; have s31 := gv hv 2 rfl rfl; refine ws ow 0 0 s6 s31 fun fw ow => ?_; refine wl_value (v := .int .i64 0) (want0 rfl) (xassign rfl rfl) ?_; refine gp4 z q ow s0 s4 s5 s6 fun fa fw z q ow s0 s4 s5 s6 s7 => ?_; refine wt hK7 ?_; refine wp_ret ?_; refine block_r ?_; refine then_r ?_; refine resultsL (v := .tuple #[aggV (cat13 a b), .int .i64 0]) rfl (.cons (res_cell (n := 3) _ s6 (by kernel_rfl) (by kernel_rfl) (ow.box 0 rfl) (Nat.le_of_ble_eq_true rfl) rfl) (.cons (res_tmp s7) .nil)) rfl q ?_; exact ⟨ret_pair13 (b13_cat (by omega) hval), ow.kept⟩
  refine cf s26 (decide_eq_true_iff) hc2 ?_; refine sq fun hK8 => ?_
  refine ro [yV _, yV _, yV _] 3 56 z q ow (
    mvS s0 rfl rfl rfl rfl <|
    aS (fun hk bs hd => xgtr rfl (dp hd 0 rfl) rfl) rfl <|
    asD 1 rfl rfl rfl rfl rfl rfl <|
    arm0) fun fa fw bs hv ap z q ow => ?_
  obtain ⟨s0, s4, s5, s6, s7⟩ := b5 bs s0 s4 s5 s6 s7; have s32 := gv hv 2 rfl rfl; refine wt hK8 ?_
  by_cases hc3 : (6 : Int) < (op : Int)
  · refine ct s32 ((decide_eq_true_iff).2 hc3) ?_
    refine sq fun hK9 => ?_
    refine ro [yV _, yV (aggV a), yV (aggV b), yV (aggV (cmp13 op a b))] 4 56 z q ow (
      mvS s0 rfl rfl rfl rfl <|
      aS (fun hk bs hd => xloadN 3 rfl (by kernel_rfl) (by kernel_rfl) (bg bs s4) ((ow.keep hk).box 2 rfl) (Nat.le_of_ble_eq_true rfl) rfl) rfl <|
      aS (fun hk bs hd => xloadN 3 rfl (by kernel_rfl) (by kernel_rfl) (bg bs s5) ((ow.keep hk).box 1 rfl) (Nat.le_of_ble_eq_true rfl) rfl) rfl <|
      aC (fun hk bs hd => xcall3 rfl (dp hd 0 rfl) (dp hd 1 rfl) (dp hd 2 rfl) (en_fnum_compare _ _)) (fun hk bs hd => compare13_any op a b _ (by omega) (by omega) ha hb) rfl <|
      arm0) fun fa fw bs hv ap z q ow => ?_
    obtain ⟨s0, s4, s5, s6, s7⟩ := b5 bs s0 s4 s5 s6 s7; have s38 := gv hv 3 rfl rfl; refine ws ow 0 0 s6 s38 fun fw ow => ?_; refine wl_value (v := .int .i64 0) (want0 rfl) (xassign rfl rfl) ?_; refine gp4 z q ow s0 s4 s5 s6 fun fa fw z q ow s0 s4 s5 s6 s7 => ?_; refine wt hK9 ?_; refine wp_ret ?_; refine block_r ?_; refine then_r ?_; refine resultsL (v := .tuple #[aggV (cmp13 op a b), .int .i64 0]) rfl (.cons (res_cell (n := 3) _ s6 (by kernel_rfl) (by kernel_rfl) (ow.box 0 rfl) (Nat.le_of_ble_eq_true rfl) rfl) (.cons (res_tmp s7) .nil)) rfl q ?_; exact ⟨ret_pair13 (b13_cmp (by omega) (by omega) hval), ow.kept⟩
  refine cf s32 (decide_eq_true_iff) hc3 ?_; refine wp_skip ?_; refine block_n ?_; refine tn hK5 ?_; refine sq fun hK10 => ?_
  refine ro [yNew fw.heap.size (.cells #[.int .i64 0] 2 (0, 0)), yNew fw.heap.size (.cells #[.int .i64 0] 2 (0, 0))] 2 56 z q ow (
    aP (fun hk bs hd => xalloc rfl (by kernel_rfl)) rfl <|
    aP (fun hk bs hd => xalloc rfl (by kernel_rfl)) rfl <|
    arm0) fun fa fw bs hv ap z q ov => ?_
  obtain ⟨s0, s4, s5, s6, s7⟩ := b5 bs s0 s4 s5 s6 s7; obtain ⟨gb4, s8, bgb4, hgb4⟩ := gotP hv 0 rfl rfl rfl; have ov := ov.cons hgb4 (Nat.le_trans ow.kept.size bgb4) (ow.below bgb4); obtain ⟨gb5, s9, bgb5, hgb5⟩ := gotP hv 1 rfl rfl rfl; have ov := ov.cons hgb5 (Nat.le_trans ow.kept.size bgb5) (ne_cons (apartP ap 0 1 rfl rfl rfl s8 rfl s9 rfl) (ow.below bgb5)); have ow := ov; refine wt hK10 ?_; refine sq fun hK11 => ?_; refine sq fun hK12 => ?_
  refine ro [yV (aggV a), yV (aggV b), ySlice fw.heap.size 2 (rowObj [a, b]), ySlice fw.heap.size 2 (.cells #[.pointer (some ⟨gb4, 0, none⟩), .pointer (some ⟨gb5, 0, none⟩)] 108 (0, 0))] 4 56 z q ow (
    aS (fun hk bs hd => xloadN 3 rfl (by kernel_rfl) (by kernel_rfl) (bg bs s4) ((ow.keep hk).box 4 rfl) (Nat.le_of_ble_eq_true rfl) rfl) rfl <|
    aS (fun hk bs hd => xloadN 3 rfl (by kernel_rfl) (by kernel_rfl) (bg bs s5) ((ow.keep hk).box 3 rfl) (Nat.le_of_ble_eq_true rfl) rfl) rfl <|
    arm (fun aa ww hk bs hd => by
      have d0 := dp hd 0 rfl; have d1 := dp hd 1 rfl; exact stepX_new _ (want0 rfl) (xrow2 rfl (d0) (d1)) ⟨_, rfl, hk.size, Go.heap_alloc_new _ _⟩ ((Kept.refl _).alloc _) rfl (Nat.le_refl _)
      ) <|
    aL (fun hk bs hd => xbuildSlice (us := #[(0, .pointer (some ⟨gb4, 0, none⟩)), (1, .pointer (some ⟨gb5, 0, none⟩))]) rfl (by simp only [List.map_toArray, List.map_cons, List.map_nil, bg bs s8, bg bs s9]) (by kernel_rfl)) rfl <|
    arm0) fun fa fw bs hv ap z q ov => ?_
  obtain ⟨s0, s6, s7, s8, s9⟩ := b5 bs s0 s6 s7 s8 s9; obtain ⟨gb6, s42, bgb6, hgb6⟩ := gotL hv 2 rfl rfl rfl; have ov := ov.cons hgb6 (Nat.le_trans ow.kept.size bgb6) (ow.below bgb6); obtain ⟨gb7, s43, bgb7, hgb7⟩ := gotL hv 3 rfl rfl rfl; have ov := ov.cons hgb7 (Nat.le_trans ow.kept.size bgb7) (ne_cons (apartP ap 2 3 rfl rfl rfl s42 rfl s43 rfl) (ow.below bgb7)); have ow := ov; refine wl_enter (want0 rfl) (xcall2 (u := .slice (some ⟨gb6, 0, none⟩) 2 2) (v := .slice (some ⟨gb7, 0, none⟩) 2 2) rfl s42 s43 (en_fnum_numbers _ _)) ((numbers13_2 a b gb6 0 2 gb7 gb4 gb5 2 [Th.obj gb6 (rowObj [a, b]), Th.obj gb3 (.cells #[.int .u8 0, .int .i64 0, .string ⟨[].toArray⟩] 25 (0, 0)), Th.obj gb2 (.cells #[.int .u8 b.k, .int .i64 b.n, .string ⟨b.t.toArray⟩] 25 (0, 0)), Th.obj gb1 (.cells #[.int .u8 a.k, .int .i64 a.n, .string ⟨a.t.toArray⟩] 25 (0, 0))] w _ mx HM (Own.past2 ow) (fun u o => rowObj_row (l := [a, b]) (o.get 0 rfl)) ha hb).mono ?_); rintro _ fw ⟨x, ok, rfl, hcv⟩; refine ⟨_, rfl, ?_⟩; rcases hcv with ⟨rfl, hfst, how⟩ | ⟨rfl, hfst, how⟩
  · skip
    have ow := how; clear how; refine wl_value (v := .tuple #[aggV x, .bool false]) (want0 rfl) (xmove rfl (put_in (t := 44) z rfl)) ?_; refine wl_value (v := aggV x) (want0 rfl) (xextract rfl (put_in (t := 39) (put_size z) rfl) rfl) ?_; refine wl_value (v := .bool false) (want0 rfl) (xextract rfl (pb 45 (put_in (t := 39) (put_size z) rfl) rfl) rfl) ?_; refine wl_newP ow (want0 rfl) (xalloc (b := .cells #[.int .u8 0, .int .i64 0, .string ⟨[].toArray⟩] 25 (0, 0)) rfl (by kernel_rfl)) fun gb8 fw ow => ?_; refine wl_store ow 0 0 (want0 rfl) rfl rfl (put_in (t := 10) (put_size (put_size (put_size (put_size z)))) rfl) (pb 10 (pb 46 (put_in (t := 45) (put_size (put_size z)) rfl) rfl) rfl) (by kernel_rfl) rfl rfl rfl fun fw ow => ?_; refine wl_value (v := .bool false) (want0 rfl) (xassign rfl (pb 10 (put_in (t := 46) (put_size (put_size (put_size z))) rfl) rfl)) ?_; refine gt7 (put_size (put_size (put_size (put_size (put_size (put_size z)))))) (put_def (put_def (put_def (put_def (put_def (put_def q)))))) ow 0 (pb 11 (pb 10 (pb 46 (pb 45 (pb 39 (pb 44 s0 rfl) rfl) rfl) rfl) rfl) rfl) 6 (pb 11 (pb 10 (pb 46 (pb 45 (pb 39 (pb 44 s6 rfl) rfl) rfl) rfl) rfl) rfl) 7 (pb 11 (pb 10 (pb 46 (pb 45 (pb 39 (pb 44 s7 rfl) rfl) rfl) rfl) rfl) rfl) 8 (pb 11 (pb 10 (pb 46 (pb 45 (pb 39 (pb 44 s8 rfl) rfl) rfl) rfl) rfl) rfl) 9 (pb 11 (pb 10 (pb 46 (pb 45 (pb 39 (pb 44 s9 rfl) rfl) rfl) rfl) rfl) rfl) 10 (pb 11 (put_in (t := 10) (put_size (put_size (put_size (put_size z)))) rfl) rfl) 11 (put_in (t := 11) (put_size (put_size (put_size (put_size (put_size z))))) rfl) fun fa fw z q ow s0 s6 s7 s8 s9 s10 s11 => ?_
    refine wt hK12 ?_; refine sq fun hK13 => ?_
    refine ro [yV _, yV _] 2 56 z q ow (
      mvS s11 rfl rfl rfl rfl <|
      aS (fun hk bs hd => xnot rfl (dp hd 0 rfl)) rfl <|
      arm0) fun fa fw bs hv ap z q ow => ?_
    obtain ⟨s0, s6, s7, s8, s9, s10⟩ := b6 bs s0 s6 s7 s8 s9 s10; have s48 := gv hv 1 rfl rfl; refine wt hK13 ?_; refine wp_cond_true (s48) ?_; refine sq fun hK14 => ?_
    refine ro [yV (aggV x)] 1 56 z q ow (
      aS (fun hk bs hd => xloadN 3 rfl (by kernel_rfl) (by kernel_rfl) (bg bs s10) ((ow.keep hk).box 0 rfl) (Nat.le_of_ble_eq_true rfl) rfl) rfl <|
      arm0) fun fa fw bs hv ap z q ow => ?_
    obtain ⟨s0, s6, s7, s8, s9⟩ := b5 bs s0 s6 s7 s8 s9; have s49 := gv hv 0 rfl rfl; refine ws ow 2 0 s6 s49 fun fw ow => ?_; refine wl_value (v := .int .i64 0) (want0 rfl) (xassign rfl rfl) ?_; refine gp4 z q ow s0 s6 s8 s9 fun fa fw z q ow s0 s6 s8 s9 s7 => ?_; refine wt hK14 ?_; refine wp_ret ?_; refine then_r ?_; refine resultsL (v := .tuple #[aggV x, .int .i64 0]) rfl (.cons (res_cell (n := 3) _ s6 (by kernel_rfl) (by kernel_rfl) (ow.box 2 rfl) (Nat.le_of_ble_eq_true rfl) rfl) (.cons (res_tmp s7) .nil)) rfl q ?_; exact ⟨ret_pair13 (b13_err (by omega) (by omega) hval hfst), ow.kept⟩
  have ow := how; clear how; have hn0 : isE (vNum a) = false := none_1 hfst; have hn1 : isE (vNum b) = false := none_2 hfst; have ra := num_range hn0 ha.1; have rb := num_range hn1 hb.1; have ia : i64 (vNum a).n := ⟨by omega, by omega⟩; have ib : i64 (vNum b).n := ⟨by omega, by omega⟩; refine wl_value (v := .tuple #[aggV x, .bool true]) (want0 rfl) (xmove rfl (put_in (t := 44) z rfl)) ?_; refine wl_value (v := aggV x) (want0 rfl) (xextract rfl (put_in (t := 39) (put_size z) rfl) rfl) ?_; refine wl_value (v := .bool true) (want0 rfl) (xextract rfl (pb 45 (put_in (t := 39) (put_size z) rfl) rfl) rfl) ?_; refine wl_newP ow (want0 rfl) (xalloc (b := .cells #[.int .u8 0, .int .i64 0, .string ⟨[].toArray⟩] 25 (0, 0)) rfl (by kernel_rfl)) fun gb9 fw ow => ?_; refine wl_store ow 0 0 (want0 rfl) rfl rfl (put_in (t := 10) (put_size (put_size (put_size (put_size z)))) rfl) (pb 10 (pb 46 (put_in (t := 45) (put_size (put_size z)) rfl) rfl) rfl) (by kernel_rfl) rfl rfl rfl fun fw ow => ?_; refine wl_value (v := .bool true) (want0 rfl) (xassign rfl (pb 10 (put_in (t := 46) (put_size (put_size (put_size z))) rfl) rfl)) ?_; refine gt7 (put_size (put_size (put_size (put_size (put_size (put_size z)))))) (put_def (put_def (put_def (put_def (put_def (put_def q)))))) ow 0 (pb 11 (pb 10 (pb 46 (pb 45 (pb 39 (pb 44 s0 rfl) rfl) rfl) rfl) rfl) rfl) 6 (pb 11 (pb 10 (pb 46 (pb 45 (pb 39 (pb 44 s6 rfl) rfl) rfl) rfl) rfl) rfl) 7 (pb 11 (pb 10 (pb 46 (pb 45 (pb 39 (pb 44 s7 rfl) rfl) rfl) rfl) rfl) rfl) 8 (pb 11 (pb 10 (pb 46 (pb 45 (pb 39 (pb 44 s8 rfl) rfl) rfl) rfl) rfl) rfl) 9 (pb 11 (pb 10 (pb 46 (pb 45 (pb 39 (pb 44 s9 rfl) rfl) rfl) rfl) rfl) rfl) 10 (pb 11 (put_in (t := 10) (put_size (put_size (put_size (put_size z)))) rfl) rfl) 11 (put_in (t := 11) (put_size (put_size (put_size (put_size (put_size z))))) rfl) fun fa fw z q ow s0 s6 s7 s8 s9 s10 s11 => ?_
  refine wt hK12 ?_; refine sq fun hK15 => ?_
  refine ro [yV _, yV _] 2 56 z q ow (
    mvS s11 rfl rfl rfl rfl <|
    aS (fun hk bs hd => xnot rfl (dp hd 0 rfl)) rfl <|
    arm0) fun fa fw bs hv ap z q ow => ?_
  obtain ⟨s0, s6, s7, s8, s9, s10⟩ := b6 bs s0 s6 s7 s8 s9 s10; have s48 := gv hv 1 rfl rfl; refine wt hK15 ?_; refine wp_cond_false (s48) ?_; refine wp_skip ?_; refine tn hK11 ?_; refine sq fun hK16 => ?_
  refine ro [yV (.agg #[.nilFunc, .func (.func 167) #[] #[], .func (.func 169) #[] #[], .func (.func 171) #[] #[], .func (.func 173) #[] #[], .func (.func 158) #[] #[]]), yV _, yV (.func (.func (opf13 op)) #[] #[]), yV _, yV _, yV (aggV (arith13 op (vNum a).n (vNum b).n))] 6 56 z q ow (
    aC (fun hk bs hd => xcall0 rfl (en_fnum_arithmetic _ _)) (fun hk bs hd => arithmetic13_any _) rfl <|
    mvS s0 rfl rfl rfl rfl <|
    aS (fun hk bs hd => xindex (u := .agg #[.nilFunc, .func (.func 167) #[] #[], .func (.func 169) #[] #[], .func (.func 171) #[] #[], .func (.func 173) #[] #[], .func (.func 158) #[] #[]]) (z := .int .i64 op) rfl (dp hd 0 rfl) (dp hd 1 rfl) (opf13_at op _ (by omega) (by omega))) rfl <|
    aS (fun hk bs hd => xloadB rfl (by kernel_rfl) (bg bs s8) ((ow.keep hk).box 2 rfl) rfl) rfl <|
    aS (fun hk bs hd => xloadB rfl (by kernel_rfl) (bg bs s9) ((ow.keep hk).box 1 rfl) rfl) rfl <|
    aC (fun hk bs hd => xcall2V (F := opf13 op) (u := .int .i64 ((vNum a).n)) (v := .int .i64 ((vNum b).n)) rfl (dp hd 2 rfl) (dp hd 3 rfl) (dp hd 4 rfl) (en_opf13 _ _ _)) (fun hk bs hd => opf13_any op (vNum a).n (vNum b).n _ (by omega) (by omega) ia ib) rfl <|
    arm0) fun fa fw bs hv ap z q ow => ?_
  obtain ⟨s6, s7⟩ := b2 bs s6 s7; have s55 := gv hv 5 rfl rfl; refine ws ow 4 0 s6 s55 fun fw ow => ?_; refine wl_value (v := .int .i64 0) (want0 rfl) (xassign rfl rfl) ?_; refine gp1 z q ow s6 fun fa fw z q ow s6 s7 => ?_; refine wt hK16 ?_; refine wp_ret ?_; refine resultsL (v := .tuple #[aggV (arith13 op (vNum a).n (vNum b).n), .int .i64 0]) rfl (.cons (res_cell (n := 3) _ s6 (by kernel_rfl) (by kernel_rfl) (ow.box 4 rfl) (Nat.le_of_ble_eq_true rfl) rfl) (.cons (res_tmp s7) .nil)) rfl q ?_; exact ⟨ret_pair13 (b13_val (by omega) (by omega) hval hfst), ow.kept⟩
set_option maxHeartbeats 4000000 in
theorem neg13_any (a : Vl) (w : World) (mx : Int) (HM : Mx w mx) (ha : Small a) :
    Calls Tryz.prog 32 #[aggV a] w fun e w' => e = .returned (aggV (vNeg13 a)) ∧ Kept w w' := by
  go_enter Tryz.func32, Tryz.ntmps32; refine sq fun hK1 => ?_
  refine ro [yNew w.heap.size (.cells #[.int .u8 a.k, .int .i64 a.n, .string ⟨a.t.toArray⟩] 25 (0, 0)), yNew w.heap.size (.cells #[.int .u8 0, .int .i64 0, .string ⟨[].toArray⟩] 25 (0, 0))] 2 16 rfl rfl (Own.start w) (
    aP (fun hk bs hd => xbox rfl (bs.get 0 rfl rfl) (by kernel_rfl)) rfl <|
    aP (fun hk bs hd => xalloc rfl (by kernel_rfl)) rfl <|
    arm0) fun fa fw bs hv ap z q ov => ?_
  obtain ⟨gb1, s1, bgb1, hgb1⟩ := gotP hv 0 rfl rfl rfl; have ov := ov.cons hgb1 (Nat.le_trans (Own.start w).kept.size bgb1) ((Own.start w).below bgb1); obtain ⟨gb2, s2, bgb2, hgb2⟩ := gotP hv 1 rfl rfl rfl; have ov := ov.cons hgb2 (Nat.le_trans (Own.start w).kept.size bgb2) (ne_cons (apartP ap 0 1 rfl rfl rfl s1 rfl s2 rfl) ((Own.start w).below bgb2)); have ow := ov; refine wt hK1 ?_; refine sq fun hK2 => ?_
  refine ro [yV (aggV a), yV (aggV (vNum a)), yNew fw.heap.size (.cells #[.int .u8 0, .int .i64 0, .string ⟨[].toArray⟩] 25 (0, 0))] 3 16 z q ow (
    aS (fun hk bs hd => xloadN 3 rfl (by kernel_rfl) (by kernel_rfl) (bg bs s1) ((ow.keep hk).box 1 rfl) (Nat.le_of_ble_eq_true rfl) rfl) rfl <|
    aC (fun hk bs hd => xcall1 rfl (dp hd 0 rfl) (en_val_ToNumber _ _)) (fun hk bs hd => tonum_any a _ mx (HM.kept (ow.keep hk).kept) ha.1 ha.2) rfl <|
    aP (fun hk bs hd => xalloc rfl (by kernel_rfl)) rfl <|
    arm0) fun fa fw bs hv ap z q ov => ?_
  have s2 := bg bs s2; have s5 := gv hv 1 rfl rfl; obtain ⟨gb3, s3, bgb3, hgb3⟩ := gotP hv 2 rfl rfl rfl; have ov := ov.cons hgb3 (Nat.le_trans ow.kept.size bgb3) (ow.below bgb3); have ow := ov; refine ws ow 0 0 s3 s5 fun fw ow => ?_; refine wt hK2 ?_; refine sq fun hK3 => ?_; refine sq fun hK4 => ?_
  refine ro [yV (.pointer (some ⟨gb3, 0, none⟩)), yV _, yV _] 3 16 z q ow (
    aS (fun hk bs hd => xfieldAddr rfl (bg bs s3) (by kernel_rfl)) rfl <|
    aS (fun hk bs hd => xloadB rfl (by kernel_rfl) (dp hd 0 rfl) ((ow.keep hk).box 0 rfl) rfl) rfl <|
    aS (fun hk bs hd => xeqi rfl (dp hd 1 rfl) rfl) rfl <|
    arm0) fun fa fw bs hv ap z q ow => ?_
  obtain ⟨s2, s3⟩ := b2 bs s2 s3; have s8 := gv hv 2 rfl rfl; refine wt hK4 ?_
  by_cases hc1 : ((vNum a).k : Int) = (4 : Int)
  · refine ct s8 ((decide_eq_true_iff).2 hc1) ?_
    have ea : isE (vNum a) = true := isE_yes hc1; refine sq fun hK5 => ?_
    refine ro [yV (aggV (vNum a))] 1 16 z q ow (
      aS (fun hk bs hd => xloadN 3 rfl (by kernel_rfl) (by kernel_rfl) (bg bs s3) ((ow.keep hk).box 0 rfl) (Nat.le_of_ble_eq_true rfl) rfl) rfl <|
      arm0) fun fa fw bs hv ap z q ow => ?_
    obtain ⟨s2, s3⟩ := b2 bs s2 s3; have s9 := gv hv 0 rfl rfl; refine ws ow 1 0 s2 s9 fun fw ow => ?_; refine wt hK5 ?_; refine wp_ret ?_; refine then_r ?_; refine rs3 s2 (ow.box 1 rfl) q ?_; exact ⟨congrArg (fun v => Ending.returned (aggV v)) (show _ = vNeg13 a by unfold vNeg13; rw [if_pos ea]), ow.kept⟩
  refine cf s8 (decide_eq_true_iff) hc1 ?_; have ea : isE (vNum a) = false := isE_no hc1; have ra := num_range ea ha.1; have ia : i64 (vNum a).n := ⟨by omega, by omega⟩; have im : i64 1000000 := ⟨by decide, by decide⟩; refine wp_skip ?_; refine tn hK3 ?_; refine sq fun hK6 => ?_
  refine ro [yV (.pointer (some ⟨gb3, 1, none⟩)), yV _, yV (.tuple #[.int .i64 ((dNeg ((vNum a).n)).1), .bool ((dNeg ((vNum a).n)).2)]), yV _, yV _, yV (aggV (vRes ((dNeg ((vNum a).n)).1, (dNeg ((vNum a).n)).2)))] 6 16 z q ow (
    aS (fun hk bs hd => xfieldAddr rfl (bg bs s3) (by kernel_rfl)) rfl <|
    aS (fun hk bs hd => xloadB rfl (by kernel_rfl) (dp hd 0 rfl) ((ow.keep hk).box 0 rfl) rfl) rfl <|
    aC (fun hk bs hd => xcall1 rfl (dp hd 1 rfl) (en_dec_Neg _ _)) (fun hk bs hd => drew_kept (neg_any ((vNum a).n) _ (by assumption))) rfl <|
    aS (fun hk bs hd => xextract rfl (dp hd 2 rfl) rfl) rfl <|
    aS (fun hk bs hd => xextract rfl (dp hd 2 rfl) rfl) rfl <|
    aC (fun hk bs hd => xcall2 rfl (dp hd 3 rfl) (dp hd 4 rfl) (en_fnum_result _ _)) (fun hk bs hd => result13_any ((dNeg ((vNum a).n)).1) ((dNeg ((vNum a).n)).2) _ (fun _ => by first | exact fit_i64 _ | exact dQuo_i64 _ _)) rfl <|
    arm0) fun fa fw bs hv ap z q ow => ?_
  have s2 := bg bs s2; have s15 := gv hv 5 rfl rfl; refine ws ow 1 0 s2 s15 fun fw ow => ?_; refine wt hK6 ?_; refine wp_ret ?_; refine rs3 s2 (ow.box 1 rfl) q ?_; exact ⟨congrArg (fun v => Ending.returned (aggV v)) (show _ = vNeg13 a by unfold vNeg13; rw [if_neg (by rw [ea]; decide)]), ow.kept⟩
set_option maxHeartbeats 4000000 in
theorem percent13_any (a : Vl) (w : World) (mx : Int) (HM : Mx w mx) (ha : Small a) :
    Calls Tryz.prog 34 #[aggV a] w fun e w' => e = .returned (aggV (vPct13 a)) ∧ Kept w w' := by
  go_enter Tryz.func34, Tryz.ntmps34; refine sq fun hK1 => ?_
  refine ro [yNew w.heap.size (.cells #[.int .u8 a.k, .int .i64 a.n, .string ⟨a.t.toArray⟩] 25 (0, 0)), yNew w.heap.size (.cells #[.int .u8 0, .int .i64 0, .string ⟨[].toArray⟩] 25 (0, 0))] 2 16 rfl rfl (Own.start w) (
    aP (fun hk bs hd => xbox rfl (bs.get 0 rfl rfl) (by kernel_rfl)) rfl <|
    aP (fun hk bs hd => xalloc rfl (by kernel_rfl)) rfl <|
    arm0) fun fa fw bs hv ap z q ov => ?_
  obtain ⟨gb1, s1, bgb1, hgb1⟩ := gotP hv 0 rfl rfl rfl; have ov := ov.cons hgb1 (Nat.le_trans (Own.start w).kept.size bgb1) ((Own.start w).below bgb1); obtain ⟨gb2, s2, bgb2, hgb2⟩ := gotP hv 1 rfl rfl rfl; have ov := ov.cons hgb2 (Nat.le_trans (Own.start w).kept.size bgb2) (ne_cons (apartP ap 0 1 rfl rfl rfl s1 rfl s2 rfl) ((Own.start w).below bgb2)); have ow := ov; refine wt hK1 ?_; refine sq fun hK2 => ?_
  refine ro [yV (aggV a), yV (aggV (vNum a)), yNew fw.heap.size (.cells #[.int .u8 0, .int .i64 0, .string ⟨[].toArray⟩] 25 (0, 0))] 3 16 z q ow (
    aS (fun hk bs hd => xloadN 3 rfl (by kernel_rfl) (by kernel_rfl) (bg bs s1) ((ow.keep hk).box 1 rfl) (Nat.le_of_ble_eq_true rfl) rfl) rfl <|
    aC (fun hk bs hd => xcall1 rfl (dp hd 0 rfl) (en_val_ToNumber _ _)) (fun hk bs hd => tonum_any a _ mx (HM.kept (ow.keep hk).kept) ha.1 ha.2) rfl <|
    aP (fun hk bs hd => xalloc rfl (by kernel_rfl)) rfl <|
    arm0) fun fa fw bs hv ap z q ov => ?_
  have s2 := bg bs s2; have s5 := gv hv 1 rfl rfl; obtain ⟨gb3, s3, bgb3, hgb3⟩ := gotP hv 2 rfl rfl rfl; have ov := ov.cons hgb3 (Nat.le_trans ow.kept.size bgb3) (ow.below bgb3); have ow := ov; refine ws ow 0 0 s3 s5 fun fw ow => ?_; refine wt hK2 ?_; refine sq fun hK3 => ?_; refine sq fun hK4 => ?_
  refine ro [yV (.pointer (some ⟨gb3, 0, none⟩)), yV _, yV _] 3 16 z q ow (
    aS (fun hk bs hd => xfieldAddr rfl (bg bs s3) (by kernel_rfl)) rfl <|
    aS (fun hk bs hd => xloadB rfl (by kernel_rfl) (dp hd 0 rfl) ((ow.keep hk).box 0 rfl) rfl) rfl <|
    aS (fun hk bs hd => xeqi rfl (dp hd 1 rfl) rfl) rfl <|
    arm0) fun fa fw bs hv ap z q ow => ?_
  obtain ⟨s2, s3⟩ := b2 bs s2 s3; have s8 := gv hv 2 rfl rfl; refine wt hK4 ?_
  by_cases hc1 : ((vNum a).k : Int) = (4 : Int)
  · refine ct s8 ((decide_eq_true_iff).2 hc1) ?_
    have ea : isE (vNum a) = true := isE_yes hc1; refine sq fun hK5 => ?_
    refine ro [yV (aggV (vNum a))] 1 16 z q ow (
      aS (fun hk bs hd => xloadN 3 rfl (by kernel_rfl) (by kernel_rfl) (bg bs s3) ((ow.keep hk).box 0 rfl) (Nat.le_of_ble_eq_true rfl) rfl) rfl <|
      arm0) fun fa fw bs hv ap z q ow => ?_
    obtain ⟨s2, s3⟩ := b2 bs s2 s3; have s9 := gv hv 0 rfl rfl; refine ws ow 1 0 s2 s9 fun fw ow => ?_; refine wt hK5 ?_; refine wp_ret ?_; refine then_r ?_; refine rs3 s2 (ow.box 1 rfl) q ?_; exact ⟨congrArg (fun v => Ending.returned (aggV v)) (show _ = vPct13 a by unfold vPct13; rw [if_pos ea]), ow.kept⟩
  refine cf s8 (decide_eq_true_iff) hc1 ?_; have ea : isE (vNum a) = false := isE_no hc1; have ra := num_range ea ha.1; have ia : i64 (vNum a).n := ⟨by omega, by omega⟩; have im : i64 1000000 := ⟨by decide, by decide⟩; refine wp_skip ?_; refine tn hK3 ?_; refine sq fun hK6 => ?_
  refine ro [yV (.pointer (some ⟨gb3, 1, none⟩)), yV _, yV (.tuple #[.int .i64 ((dQuo ((vNum a).n) 1000000).1), .bool ((dQuo ((vNum a).n) 1000000).2)]), yV _, yV _, yV (aggV (vRes ((dQuo ((vNum a).n) 1000000).1, (dQuo ((vNum a).n) 1000000).2)))] 6 16 z q ow (
    aS (fun hk bs hd => xfieldAddr rfl (bg bs s3) (by kernel_rfl)) rfl <|
    aS (fun hk bs hd => xloadB rfl (by kernel_rfl) (dp hd 0 rfl) ((ow.keep hk).box 0 rfl) rfl) rfl <|
    aC (fun hk bs hd => xcall2 rfl (dp hd 1 rfl) rfl (en_dec_Quo _ _)) (fun hk bs hd => drew_kept (quo_any ((vNum a).n) 1000000 _ (by assumption) (by assumption))) rfl <|
    aS (fun hk bs hd => xextract rfl (dp hd 2 rfl) rfl) rfl <|
    aS (fun hk bs hd => xextract rfl (dp hd 2 rfl) rfl) rfl <|
    aC (fun hk bs hd => xcall2 rfl (dp hd 3 rfl) (dp hd 4 rfl) (en_fnum_result _ _)) (fun hk bs hd => result13_any ((dQuo ((vNum a).n) 1000000).1) ((dQuo ((vNum a).n) 1000000).2) _ (fun _ => by first | exact fit_i64 _ | exact dQuo_i64 _ _)) rfl <|
    arm0) fun fa fw bs hv ap z q ow => ?_
  have s2 := bg bs s2; have s15 := gv hv 5 rfl rfl; refine ws ow 1 0 s2 s15 fun fw ow => ?_; refine wt hK6 ?_; refine wp_ret ?_; refine rs3 s2 (ow.box 1 rfl) q ?_; exact ⟨congrArg (fun v => Ending.returned (aggV v)) (show _ = vPct13 a by unfold vPct13; rw [if_neg (by rw [ea]; decide)]), ow.kept⟩
end Go.Proofs.YtbpkfnoenkoabaaGreatDoor
