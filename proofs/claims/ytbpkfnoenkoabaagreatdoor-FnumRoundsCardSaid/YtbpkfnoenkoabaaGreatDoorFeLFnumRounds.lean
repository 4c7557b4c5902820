/- The law FnumRounds, walked (printed by wip/mklaw13.py). -/
import Derived.Test.YtbpkfnoenkoabaaGreatDoorFeGAwake13
import Derived.Test.YtbpkfnoenkoabaaGreatDoorFeMixAT
namespace Go.Proofs.YtbpkfnoenkoabaaGreatDoor
set_option linter.unusedVariables false
set_option linter.unusedSimpArgs false
open Go.RowKit Lv
set_option maxRecDepth 100000
theorem call13_eq (x : Vl) (c : Int) (fn : Nat) (A : Option Addr) (cap : Nat) (l : List Vl) (w : World) (mx : Int) (HM : Mx w mx) (hr : RowV w A l) (hs : ∀ v ∈ l, Small v) (hl : l.length ≤ 1000000) (hc : l.length ≤ cap) (hx : vCall13 fn l = (x, c)) :
    Calls Tryz.prog 27 #[.int .u8 fn, .slice A l.length cap] w fun e w' => e = .returned (.tuple #[aggV x, .int .i64 c]) ∧ Kept w w' := by
  have h := call13_any fn A cap l w mx HM hr hs hl hc; rw [hx] at h; exact h
theorem pair_small {a b : Vl} (ha : Small a) (hb : Small b) : ∀ v ∈ [a, b], Small v := fun v hv => by
  simp only [List.mem_cons, List.not_mem_nil, or_false] at hv
  rcases hv with rfl | rfl
  · exact ha
  · exact hb
theorem one_small {a : Vl} (ha : Small a) : ∀ v ∈ [a], Small v := fun v hv => by rw [List.mem_singleton] at hv; subst hv; exact ha
theorem nm_small {n : Int} (h1 : -9223372036854775808 ≤ n) (h2 : n ≤ 9223372036854775807) : Small (⟨1, n, []⟩ : Vl) := ⟨⟨h1, h2⟩, by show ([] : List UInt8).length ≤ 2000; decide⟩
def cutV (x : Int) : Vl := Nm (dTrunc x)
theorem cut_in {x : Int} (hx : -9223372036854775807 ≤ x ∧ x ≤ 9223372036854775807) : -9223372036854775808 ≤ (cutV x).n ∧ (cutV x).n ≤ 9223372036854775807 := by
  have h : (0 ≤ x → 0 ≤ (cutV x).n ∧ (cutV x).n ≤ x) ∧ (x ≤ 0 → x ≤ (cutV x).n ∧ (cutV x).n ≤ 0) := (trunc_near x).2.2
  by_cases c : 0 ≤ x
  · have := h.1 c; omega
  · have := h.2 (by omega); omega
def wholeV (x : Int) : Vl := vRes (dFloor x)
def onceV (x t : Int) : Vl := vRes (dRound x (plq t))
theorem cut_laws (x : Int) : Int.tmod (cutV x).n 10000 = 0 ∧ (0 ≤ x → 0 ≤ (cutV x).n ∧ (cutV x).n ≤ x) ∧ (x < 0 → x ≤ (cutV x).n ∧ (cutV x).n ≤ 0) := ⟨(trunc_laws x).1, (trunc_near x).2.2.1, fun h => (trunc_near x).2.2.2 (by omega)⟩
theorem whole_ok {x : Int} (hx : -9223372036854775807 ≤ x ∧ x ≤ 9223372036854775807) (h : (!sameV (wholeV x) ⟨4, 3, []⟩) = true) : (wholeV x).k = 1 ∧ -9223372036854775808 ≤ (wholeV x).n ∧ (wholeV x).n ≤ x ∧ x - (wholeV x).n < 10000 ∧ Int.tmod (wholeV x).n 10000 = 0 :=
  int_ok hx (fun e => by rw [show wholeV x = _ from e, sameV_self] at h; exact absurd h (by simp))
theorem xconvU64 {a : Act} {w : World} {o : Oper} {x : Operand} (ho : o.op = .convert 2 45 x) {n : Int} (hx : a.eval x = .int .i64 n) : (execOp a.eval o).run Tryz.prog w = .ok (.value (.int .u64 (n % 18446744073709551616))) w := by
  unfold execOp; rw [ho]
  simp only [hx]
  go_simp
  try rfl
theorem xsubU64 {a : Act} {w : World} {o : Oper} {T2 : TypeId} {x y : Operand} (ho : o.op = .binOp .sub 45 x y T2) {n m : Int} (hx : a.eval x = .int .u64 (n % 18446744073709551616)) (hy : a.eval y = .int .u64 (m % 18446744073709551616)) (h1 : 0 ≤ n - m) (h2 : n - m < 10000) : (execOp a.eval o).run Tryz.prog w = .ok (.value (.int .u64 (n - m))) w := by
  have e : IntKind.u64.wrap (n % 18446744073709551616 - m % 18446744073709551616) = n - m := by
    unfold IntKind.wrap
    simp [IntKind.bits, IntKind.signed]
    omega
  unfold execOp; rw [ho]
  simp only [hx, hy]
  go_simp
  try exact e
theorem xgeU64 {a : Act} {w : World} {o : Oper} {T2 : TypeId} {x y : Operand} (ho : o.op = .binOp .geq 45 x y T2) {n m : Int} (hx : a.eval x = .int .u64 n) (hy : a.eval y = .int .u64 m) (h : n < m) : (execOp a.eval o).run Tryz.prog w = .ok (.value (.bool false)) w := by
  have e : decide (m ≤ n) = false := decide_eq_false (by omega); unfold execOp; rw [ho]
  simp only [hx, hy]
  go_simp
  try first | exact e | omega
theorem en_louvrelaw13_awake : En 29 := by intro args w; go_simp
set_option maxHeartbeats 8000000 in
theorem FnumRounds_walk (a0 a1 : Int) (w0 : (Lit.int .i64 a0).wf = true) (w1 : (Lit.int .i64 a1).wf = true) (w : World) (mx : Int) (HM : Mx w mx) :
    Calls Tryz.prog 12 #[.int .i64 a0, .int .i64 a1] w fun e w' => e = .returned (.bool true) ∧ Below w.heap.size w w' := by
  have r0 := Go.bounds_i64 w0; have r1 := Go.bounds_i64 w1; have t1 := tmod_rng a1 30 (by decide); go_enter Tryz.func12, Tryz.ntmps12; refine sq fun hK1 => ?_
  refine ro [yV _] 1 182 rfl rfl (Own.start w) (
    aS (fun hk bs hd => xassign rfl rfl) rfl <|
    arm0) fun fa fw bs hv ap z q ow => ?_
  have s0 := bs.get 0 rfl rfl; have s1 := bs.get 1 rfl rfl; have s4 := gv hv 0 rfl rfl; refine wt hK1 ?_; refine sq fun hK2 => ?_
  refine ro [yV _, yV _] 2 182 z q ow (
    mvS s0 rfl rfl rfl rfl <|
    aS (fun hk bs hd => xmaxI rfl (Or.inr rfl) (dp hd 0 rfl) rfl) rfl <|
    arm0) fun fa fw bs hv ap z q ow => ?_
  obtain ⟨s0, s1, s4⟩ := b3 bs s0 s1 s4; have s21 := gv hv 1 rfl rfl; refine wl_value (v := .int .i64 (max a0 (-9223372036854775807))) (want0 rfl) (xassign rfl s21) ?_; refine wl_nil (fun fr u => ∃ (x : Int), (-9223372036854775807 ≤ x ∧ x ≤ 9223372036854775807) ∧ fr.tmps.size = 182 ∧ fr.defers = [] ∧ Own w [] u ∧ fr.eval (.tmp 1) = .int .i64 a1 ∧ fr.eval (.tmp 4) = .bool false ∧ fr.eval (.tmp 0) = .int .i64 x) ⟨(max a0 (-9223372036854775807)), (by omega), put_size z, put_def q, ow, pb 0 s1 rfl, pb 0 s4 rfl, put_in (t := 0) z rfl⟩ ?_; rintro fa fw ⟨x, hx, z, q, ow, s1, s4, s0⟩; refine tn hK2 ?_; refine sq fun hK3 => ?_
  refine ro [yV _, yV _, yV _, yV (aggV (⟨1, (Int.tmod a1 30) * 10000, []⟩ : Vl)), yNew fw.heap.size (.cells #[.int .u8 0, .int .i64 0, .string ⟨[].toArray⟩] 25 (0, 0))] 5 182 z q ow (
    mvS s1 rfl rfl rfl rfl <|
    aS (fun hk bs hd => xrem (Or.inl rfl) rfl (dp hd 0 rfl) rfl (by omega) (by omega) (by omega)) rfl <|
    aS (fun hk bs hd => xmul (Or.inr rfl) rfl (dp hd 1 rfl) rfl (by omega) (by omega)) rfl <|
    aC (fun hk bs hd => xcall1 rfl (dp hd 2 rfl) (en_louvrelaw13_num _ _)) (fun hk bs hd => lnum13_any ((Int.tmod a1 30) * 10000) _) rfl <|
    aP (fun hk bs hd => xalloc rfl (by kernel_rfl)) rfl <|
    arm0) fun fa fw bs hv ap z q ov => ?_
  obtain ⟨s4, s0⟩ := b2 bs s4 s0; have s25 := gv hv 3 rfl rfl; obtain ⟨gb1, s5, bgb1, hgb1⟩ := gotP hv 4 rfl rfl rfl; have ov := ov.cons hgb1 (Nat.le_trans ow.kept.size bgb1) (ow.below bgb1); have ow := ov; refine ws ow 0 0 s5 s25 fun fw ow => ?_; refine wl_nil (fun fr u => ∃ (t : Int), (-30 < t ∧ t < 30) ∧ fr.tmps.size = 182 ∧ fr.defers = [] ∧ Own w [Th.obj gb1 (.cells #[.int .u8 ((⟨1, t * 10000, []⟩ : Vl).k), .int .i64 ((⟨1, t * 10000, []⟩ : Vl).n), .string ⟨((⟨1, t * 10000, []⟩ : Vl).t).toArray⟩] 25 (0, 0))] u ∧ fr.eval (.tmp 4) = .bool false ∧ fr.eval (.tmp 0) = .int .i64 x ∧ fr.eval (.tmp 5) = .pointer (some ⟨gb1, 0, none⟩)) ⟨(Int.tmod a1 30), (by omega), z, q, ow, s4, s0, s5⟩ ?_; rintro fa fw ⟨t, ht, z, q, ow, s4, s0, s5⟩; refine tn hK3 ?_; refine sq fun hK4 => ?_
  refine ro [yV _, yV (aggV (⟨1, x, []⟩ : Vl)), yV (aggV (⟨1, 40000, []⟩ : Vl)), ySlice fw.heap.size 2 (rowObj [(⟨1, x, []⟩ : Vl), (⟨1, 40000, []⟩ : Vl)]), yV (.tuple #[aggV (⟨1, x, []⟩ : Vl), .int .i64 0]), yV _, yV (aggV (⟨1, x, []⟩ : Vl)), yV _, yNew fw.heap.size (.cells #[.int .u8 0, .int .i64 0, .string ⟨[].toArray⟩] 25 (0, 0))] 9 182 z q ow (
    mvS s0 rfl rfl rfl rfl <|
    aC (fun hk bs hd => xcall1 rfl (dp hd 0 rfl) (en_louvrelaw13_num _ _)) (fun hk bs hd => lnum13_any x _) rfl <|
    aC (fun hk bs hd => xcall1 rfl rfl (en_louvrelaw13_num _ _)) (fun hk bs hd => lnum13_any 40000 _) rfl <|
    arm (fun aa ww hk bs hd => by
      have d1 := dp hd 1 rfl; have d2 := dp hd 2 rfl; exact stepX_new _ (want0 rfl) (xrow2 rfl (d1) (d2)) ⟨_, rfl, hk.size, Go.heap_alloc_new _ _⟩ ((Kept.refl _).alloc _) rfl (Nat.le_refl _)
      ) <|
    arm (fun aa ww hk bs hd => by
      have d3 := dL hd 3 rfl; obtain ⟨g3, e3, _, h3⟩ := d3; exact stepX_enter (want0 rfl) (xcall2 (u := .int .u8 5) (v := .slice (some ⟨g3, 0, none⟩) 2 2) rfl rfl e3 (en_fnum_Call _ _)) ((call13_eq ((⟨1, x, []⟩ : Vl)) 0 5 (some ⟨g3, 0, none⟩) 2 [(⟨1, x, []⟩ : Vl), (⟨1, 40000, []⟩ : Vl)] ww mx (HM.kept (ow.keep hk).kept) (rowObj_row h3) (pair_small (nm_small (by omega) (by omega)) (nm_small (by omega) (by omega))) (by simp) (Nat.le_of_ble_eq_true rfl) (call_same hx)).mono fun _ _ ⟨he, hk2⟩ => ⟨_, he, rfl, hk2⟩) rfl
      ) <|
    mvD 4 rfl rfl rfl rfl rfl rfl <|
    aS (fun hk bs hd => xextract rfl (dp hd 5 rfl) rfl) rfl <|
    aS (fun hk bs hd => xextract rfl (dp hd 5 rfl) rfl) rfl <|
    aP (fun hk bs hd => xalloc rfl (by kernel_rfl)) rfl <|
    arm0) fun fa fw bs hv ap z q ov => ?_
  obtain ⟨s4, s0, s5⟩ := b3 bs s4 s0 s5; have s32 := gv hv 6 rfl rfl; have s33 := gv hv 7 rfl rfl; obtain ⟨gb2, s6, bgb2, hgb2⟩ := gotP hv 8 rfl rfl rfl; have ov := ov.cons hgb2 (Nat.le_trans ow.kept.size bgb2) (ow.below bgb2); have ow := ov; refine ws ow 0 0 s6 s32 fun fw ow => ?_; refine wl_value (v := .int .i64 0) (want0 rfl) (xassign rfl s33) ?_; refine gt4 (put_size z) (put_def q) ow 4 (pb 7 s4 rfl) 0 (pb 7 s0 rfl) 5 (pb 7 s5 rfl) 6 (pb 7 s6 rfl) fun fa fw z q ow s4 s0 s5 s6 => ?_; refine wt hK4 ?_; refine wp_join (fun fr u => ∃ (gb3 : Nat), fr.tmps.size = 182 ∧ fr.defers = [] ∧ Own w [Th.obj gb3 (.cells #[.int .u8 ((onceV x t).k), .int .i64 ((onceV x t).n), .string ⟨((onceV x t).t).toArray⟩] 25 (0, 0)), Th.obj gb2 (.cells #[.int .u8 ((⟨1, x, []⟩ : Vl).k), .int .i64 ((⟨1, x, []⟩ : Vl).n), .string ⟨((⟨1, x, []⟩ : Vl).t).toArray⟩] 25 (0, 0)), Th.obj gb1 (.cells #[.int .u8 ((⟨1, t * 10000, []⟩ : Vl).k), .int .i64 ((⟨1, t * 10000, []⟩ : Vl).n), .string ⟨((⟨1, t * 10000, []⟩ : Vl).t).toArray⟩] 25 (0, 0))] u ∧ fr.eval (.tmp 4) = .bool false ∧ fr.eval (.tmp 0) = .int .i64 x ∧ fr.eval (.tmp 5) = .pointer (some ⟨gb1, 0, none⟩) ∧ fr.eval (.tmp 6) = .pointer (some ⟨gb2, 0, none⟩) ∧ fr.eval (.tmp 8) = .pointer (some ⟨gb3, 0, none⟩)) ?_ ?_
  ·skip
   refine rgn_late [yV _, yV (aggV (⟨1, x, []⟩ : Vl)), yV (aggV (⟨1, t * 10000, []⟩ : Vl)), ySlice fw.heap.size 2 (rowObj [(⟨1, x, []⟩ : Vl), (⟨1, t * 10000, []⟩ : Vl)]), yV (.tuple #[aggV (onceV x t), .int .i64 0]), yV _, yV (aggV (onceV x t)), yV _, yNew fw.heap.size (.cells #[.int .u8 0, .int .i64 0, .string ⟨[].toArray⟩] 25 (0, 0))] 9 7 182 z (by kernel_rfl) (by kernel_rfl) (
     mvS s0 rfl rfl rfl rfl <|
     aC (fun hk bs hd => xcall1 rfl (dp hd 0 rfl) (en_louvrelaw13_num _ _)) (fun hk bs hd => lnum13_any x _) rfl <|
     aS (fun hk bs hd => xloadN 3 rfl (by kernel_rfl) (by kernel_rfl) (bg bs s5) ((ow.keep hk).box 1 rfl) (Nat.le_of_ble_eq_true rfl) rfl) rfl <|
     arm (fun aa ww hk bs hd => by
       have d1 := dp hd 1 rfl; have d2 := dp hd 2 rfl; exact stepX_new _ (want0 rfl) (xrow2 rfl (d1) (d2)) ⟨_, rfl, hk.size, Go.heap_alloc_new _ _⟩ ((Kept.refl _).alloc _) rfl (Nat.le_refl _)
       ) <|
     arm (fun aa ww hk bs hd => by
       have d3 := dL hd 3 rfl; obtain ⟨g3, e3, _, h3⟩ := d3; exact stepX_enter (want0 rfl) (xcall2 (u := .int .u8 5) (v := .slice (some ⟨g3, 0, none⟩) 2 2) rfl rfl e3 (en_fnum_Call _ _)) ((call13_eq (onceV x t) 0 5 (some ⟨g3, 0, none⟩) 2 [(⟨1, x, []⟩ : Vl), (⟨1, t * 10000, []⟩ : Vl)] ww mx (HM.kept (ow.keep hk).kept) (rowObj_row h3) (pair_small (nm_small (by omega) (by omega)) (nm_small (by omega) (by omega))) (by simp) (Nat.le_of_ble_eq_true rfl) (call_once hx ht)).mono fun _ _ ⟨he, hk2⟩ => ⟨_, he, rfl, hk2⟩) rfl
       ) <|
     mvD 4 rfl rfl rfl rfl rfl rfl <|
     aS (fun hk bs hd => xextract rfl (dp hd 5 rfl) rfl) rfl <|
     aS (fun hk bs hd => xextract rfl (dp hd 5 rfl) rfl) rfl <|
     aP (fun hk bs hd => xalloc rfl (by kernel_rfl)) rfl <|
     arm0) (fun fa fw hk bs hv ap => ?_) (fun fa fw hk bs hv ap => ?_)
   ·skip
    obtain ⟨z, q, ov⟩ := aft hk bs z q ow; obtain ⟨s4, s0, s5, s6⟩ := b4 bs s4 s0 s5 s6; have s40 := gv hv 6 rfl rfl; have s41 := gv hv 7 rfl rfl; obtain ⟨gb3, s8, bgb3, hgb3⟩ := gotP hv 8 rfl rfl rfl; have ov := ov.cons hgb3 (Nat.le_trans ow.kept.size bgb3) (ow.below bgb3); have ow := ov; refine ws ow 0 0 s8 s40 fun fw ow => ?_; refine wl_value (v := .int .i64 0) (want0 rfl) (xassign rfl s41) ?_; refine gt5 (put_size z) (put_def q) ow 4 (pb 9 s4 rfl) 0 (pb 9 s0 rfl) 5 (pb 9 s5 rfl) 6 (pb 9 s6 rfl) 8 (pb 9 s8 rfl) fun fa fw z q ow s4 s0 s5 s6 s8 => ?_; refine wl_end ?_; refine then_n ?_; exact ⟨gb3, z, q, ow, s4, s0, s5, s6, s8⟩
   ·skip
    obtain ⟨z, q, ov⟩ := aft hk bs z q ow; obtain ⟨s4, s0, s5, s6⟩ := b4 bs s4 s0 s5 s6; have s34 := lgot hv 5 rfl rfl rfl rfl; have s40 := lgot hv 6 rfl rfl rfl rfl; obtain ⟨gb4, s8, bgb4, hgb4⟩ := lgotP hv 8 rfl rfl rfl rfl; have ov := ov.cons hgb4 (Nat.le_trans ow.kept.size bgb4) (ow.below bgb4); have ow := ov; refine ws ow 0 0 s8 s40 fun fw ow => ?_; refine wl_value (v := .int .i64 0) (want0 rfl) (xextract rfl s34 rfl) ?_; refine wl_value (v := .int .i64 0) (want0 rfl) (xassign rfl (put_in (t := 41) z rfl)) ?_; refine gt5 (put_size (put_size z)) (put_def (put_def q)) ow 4 (pb 9 (pb 41 s4 rfl) rfl) 0 (pb 9 (pb 41 s0 rfl) rfl) 5 (pb 9 (pb 41 s5 rfl) rfl) 6 (pb 9 (pb 41 s6 rfl) rfl) 8 (pb 9 (pb 41 s8 rfl) rfl) fun fa fw z q ow s4 s0 s5 s6 s8 => ?_; refine wl_end ?_; refine then_n ?_; exact ⟨gb4, z, q, ow, s4, s0, s5, s6, s8⟩
  rintro fa fw ⟨gb3, z, q, ow, s4, s0, s5, s6, s8⟩; refine sq fun hK5 => ?_; refine sq fun hK6 => ?_
  refine ro [yV (aggV (⟨1, x, []⟩ : Vl)), yV _, yV (aggV (⟨1, x, []⟩ : Vl)), yV (.bool false)] 4 182 z q ow (
    aS (fun hk bs hd => xloadN 3 rfl (by kernel_rfl) (by kernel_rfl) (bg bs s6) ((ow.keep hk).box 1 rfl) (Nat.le_of_ble_eq_true rfl) rfl) rfl <|
    mvS s0 rfl rfl rfl rfl <|
    aC (fun hk bs hd => xcall1 rfl (dp hd 1 rfl) (en_louvrelaw13_num _ _)) (fun hk bs hd => lnum13_any x _) rfl <|
    aE (fun hk bs hd => xnev rfl (dp hd 0 rfl) (dp hd 2 rfl)) (congrArg Value.bool (by rw [sameV_self]; rfl)) rfl <|
    arm0) fun fa fw bs hv ap z q ow => ?_
  obtain ⟨s4, s0, s5, s8⟩ := b4 bs s4 s0 s5 s8; have s45 := gv hv 3 rfl rfl; refine wt hK6 ?_; refine wp_cond_false (s45) ?_; refine wp_skip ?_; refine tn hK5 ?_; refine wp_join (fun fr u => fr.tmps.size = 182 ∧ fr.defers = [] ∧ Own w [] u ∧ fr.eval (.tmp 0) = .int .i64 x) ?_ ?_
  ·skip
   refine sq fun hK7 => ?_
   refine ro [yV (.pointer (some ⟨gb3, 0, none⟩)), yV _, yV _] 3 182 z q ow (
     aS (fun hk bs hd => xfieldAddr rfl (bg bs s8) (by kernel_rfl)) rfl <|
     aS (fun hk bs hd => xloadB rfl (by kernel_rfl) (dp hd 0 rfl) ((ow.keep hk).box 0 rfl) rfl) rfl <|
     aS (fun hk bs hd => xeqi rfl (dp hd 1 rfl) rfl) rfl <|
     arm0) fun fa fw bs hv ap z q ow => ?_
   obtain ⟨s4, s0, s5, s8⟩ := b4 bs s4 s0 s5 s8; have s48 := gv hv 2 rfl rfl; refine wt hK7 ?_
   by_cases hc1 : ((onceV x t).k : Int) = (1 : Int)
   ·refine ct s48 ((decide_eq_true_iff).2 hc1) ?_
    refine sq fun hK8 => ?_
    refine ro [yV (aggV (onceV x t)), yV (aggV (⟨1, t * 10000, []⟩ : Vl)), ySlice fw.heap.size 2 (rowObj [onceV x t, (⟨1, t * 10000, []⟩ : Vl)]), yV (.tuple #[aggV (onceV x t), .int .i64 0]), yV _, yV (aggV (onceV x t)), yV _, yNew fw.heap.size (.cells #[.int .u8 0, .int .i64 0, .string ⟨[].toArray⟩] 25 (0, 0))] 8 182 z q ow (
      aS (fun hk bs hd => xloadN 3 rfl (by kernel_rfl) (by kernel_rfl) (bg bs s8) ((ow.keep hk).box 0 rfl) (Nat.le_of_ble_eq_true rfl) rfl) rfl <|
      aS (fun hk bs hd => xloadN 3 rfl (by kernel_rfl) (by kernel_rfl) (bg bs s5) ((ow.keep hk).box 2 rfl) (Nat.le_of_ble_eq_true rfl) rfl) rfl <|
      arm (fun aa ww hk bs hd => by
        have d0 := dp hd 0 rfl; have d1 := dp hd 1 rfl; exact stepX_new _ (want0 rfl) (xrow2 rfl (d0) (d1)) ⟨_, rfl, hk.size, Go.heap_alloc_new _ _⟩ ((Kept.refl _).alloc _) rfl (Nat.le_refl _)
        ) <|
      arm (fun aa ww hk bs hd => by
        have d2 := dL hd 2 rfl; obtain ⟨g2, e2, _, h2⟩ := d2; exact stepX_enter (want0 rfl) (xcall2 (u := .int .u8 5) (v := .slice (some ⟨g2, 0, none⟩) 2 2) rfl rfl e2 (en_fnum_Call _ _)) ((call13_eq (onceV x t) 0 5 (some ⟨g2, 0, none⟩) 2 [onceV x t, (⟨1, t * 10000, []⟩ : Vl)] ww mx (HM.kept (ow.keep hk).kept) (rowObj_row h2) (pair_small (once_small x t) (nm_small (by omega) (by omega))) (by simp) (Nat.le_of_ble_eq_true rfl) (call_twice ht hc1)).mono fun _ _ ⟨he, hk2⟩ => ⟨_, he, rfl, hk2⟩) rfl
        ) <|
      mvD 3 rfl rfl rfl rfl rfl rfl <|
      aS (fun hk bs hd => xextract rfl (dp hd 4 rfl) rfl) rfl <|
      aS (fun hk bs hd => xextract rfl (dp hd 4 rfl) rfl) rfl <|
      aP (fun hk bs hd => xalloc rfl (by kernel_rfl)) rfl <|
      arm0) fun fa fw bs hv ap z q ov => ?_
    obtain ⟨s4, s0, s8⟩ := b3 bs s4 s0 s8; have s54 := gv hv 5 rfl rfl; have s55 := gv hv 6 rfl rfl; obtain ⟨gb5, s10, bgb5, hgb5⟩ := gotP hv 7 rfl rfl rfl; have ov := ov.cons hgb5 (Nat.le_trans ow.kept.size bgb5) (ow.below bgb5); have ow := ov; refine ws ow 0 0 s10 s54 fun fw ow => ?_; refine wl_value (v := .int .i64 0) (want0 rfl) (xassign rfl s55) ?_; refine gt4 (put_size z) (put_def q) ow 4 (pb 11 s4 rfl) 0 (pb 11 s0 rfl) 8 (pb 11 s8 rfl) 10 (pb 11 s10 rfl) fun fa fw z q ow s4 s0 s8 s10 => ?_; refine wt hK8 ?_; refine sq fun hK9 => ?_
    refine ro [yV (aggV (onceV x t)), yV (aggV (onceV x t)), yV (.bool false)] 3 182 z q ow (
      aS (fun hk bs hd => xloadN 3 rfl (by kernel_rfl) (by kernel_rfl) (bg bs s10) ((ow.keep hk).box 0 rfl) (Nat.le_of_ble_eq_true rfl) rfl) rfl <|
      aS (fun hk bs hd => xloadN 3 rfl (by kernel_rfl) (by kernel_rfl) (bg bs s8) ((ow.keep hk).box 1 rfl) (Nat.le_of_ble_eq_true rfl) rfl) rfl <|
      aE (fun hk bs hd => xnev rfl (dp hd 0 rfl) (dp hd 1 rfl)) (congrArg Value.bool (by rw [sameV_self]; rfl)) rfl <|
      arm0) fun fa fw bs hv ap z q ow => ?_
    obtain ⟨s4, s0⟩ := b2 bs s4 s0; have s58 := gv hv 2 rfl rfl; refine wt hK9 ?_; refine wp_cond_false (s58) ?_; refine wp_skip ?_; refine then_n ?_; exact ⟨z, q, ow.drop, s0⟩
   refine cf s48 (decide_eq_true_iff) hc1 ?_; refine sq fun hK10 => ?_
   refine ro [yV (aggV (onceV x t)), yV (aggV (⟨4, 3, []⟩ : Vl)), yV (.bool false)] 3 182 z q ow (
     aS (fun hk bs hd => xloadN 3 rfl (by kernel_rfl) (by kernel_rfl) (bg bs s8) ((ow.keep hk).box 0 rfl) (Nat.le_of_ble_eq_true rfl) rfl) rfl <|
     aC (fun hk bs hd => xcall1 rfl rfl (en_louvrelaw13_fail _ _)) (fun hk bs hd => lfail13_any 3 _) rfl <|
     aE (fun hk bs hd => xnev rfl (dp hd 0 rfl) (dp hd 1 rfl)) (congrArg Value.bool (by rw [show onceV x t = _ from once_bad (by assumption), sameV_self]; rfl)) rfl <|
     arm0) fun fa fw bs hv ap z q ow => ?_
   obtain ⟨s4, s0⟩ := b2 bs s4 s0; have s61 := gv hv 2 rfl rfl; refine wt hK10 ?_; refine wp_cond_false (s61) ?_; refine wp_skip ?_; refine then_n ?_; exact ⟨z, q, ow.drop, s0⟩
  rintro fa fw ⟨z, q, ow, s0⟩; refine sq fun hK11 => ?_
  refine ro [yV _, yV (aggV (⟨1, x, []⟩ : Vl)), ySlice fw.heap.size 1 (rowObj [(⟨1, x, []⟩ : Vl)]), yV (.tuple #[aggV (wholeV x), .int .i64 0]), yV _, yV (aggV (wholeV x)), yV _, yNew fw.heap.size (.cells #[.int .u8 0, .int .i64 0, .string ⟨[].toArray⟩] 25 (0, 0))] 8 182 z q ow (
    mvS s0 rfl rfl rfl rfl <|
    aC (fun hk bs hd => xcall1 rfl (dp hd 0 rfl) (en_louvrelaw13_num _ _)) (fun hk bs hd => lnum13_any x _) rfl <|
    arm (fun aa ww hk bs hd => by
      have d1 := dp hd 1 rfl; exact stepX_new _ (want0 rfl) (xrow1 rfl (d1)) ⟨_, rfl, hk.size, Go.heap_alloc_new _ _⟩ ((Kept.refl _).alloc _) rfl (Nat.le_refl _)
      ) <|
    arm (fun aa ww hk bs hd => by
      have d2 := dL hd 2 rfl; obtain ⟨g2, e2, _, h2⟩ := d2; exact stepX_enter (want0 rfl) (xcall2 (u := .int .u8 3) (v := .slice (some ⟨g2, 0, none⟩) 1 1) rfl rfl e2 (en_fnum_Call _ _)) ((call13_eq (wholeV x) 0 3 (some ⟨g2, 0, none⟩) 1 [(⟨1, x, []⟩ : Vl)] ww mx (HM.kept (ow.keep hk).kept) (rowObj_row h2) (one_small (nm_small (by omega) (by omega))) (by simp) (Nat.le_of_ble_eq_true rfl) (call_int hx)).mono fun _ _ ⟨he, hk2⟩ => ⟨_, he, rfl, hk2⟩) rfl
      ) <|
    mvD 3 rfl rfl rfl rfl rfl rfl <|
    aS (fun hk bs hd => xextract rfl (dp hd 4 rfl) rfl) rfl <|
    aS (fun hk bs hd => xextract rfl (dp hd 4 rfl) rfl) rfl <|
    aP (fun hk bs hd => xalloc rfl (by kernel_rfl)) rfl <|
    arm0) fun fa fw bs hv ap z q ov => ?_
  have s0 := bg bs s0; have s67 := gv hv 5 rfl rfl; have s68 := gv hv 6 rfl rfl; obtain ⟨gb6, s12, bgb6, hgb6⟩ := gotP hv 7 rfl rfl rfl; have ov := ov.cons hgb6 (Nat.le_trans ow.kept.size bgb6) (ow.below bgb6); have ow := ov; refine ws ow 0 0 s12 s67 fun fw ow => ?_; refine wl_value (v := .int .i64 0) (want0 rfl) (xassign rfl s68) ?_; refine gt2 (put_size z) (put_def q) ow 0 (pb 13 s0 rfl) 12 (pb 13 s12 rfl) fun fa fw z q ow s0 s12 => ?_; refine wt hK11 ?_; refine sq fun hK12 => ?_; refine sq fun hK13 => ?_
  refine ro [yV (aggV (wholeV x)), yV (aggV (⟨4, 3, []⟩ : Vl)), yV _, yV _, yIf (((!sameV (wholeV x) (⟨4, 3, []⟩ : Vl)) = true)) (yV (.pointer (some ⟨gb6, 0, none⟩))), yIf (((!sameV (wholeV x) (⟨4, 3, []⟩ : Vl)) = true)) (yV (.int .u8 ((wholeV x).k))), yIf (((!sameV (wholeV x) (⟨4, 3, []⟩ : Vl)) = true)) (yV (.bool false)), yIf (((!sameV (wholeV x) (⟨4, 3, []⟩ : Vl)) = true)) (yV (.bool false)), yIf (((!sameV (wholeV x) (⟨4, 3, []⟩ : Vl)) = true)) (yV (.pointer (some ⟨gb6, 1, none⟩))), yIf (((!sameV (wholeV x) (⟨4, 3, []⟩ : Vl)) = true)) (yV (.int .i64 ((wholeV x).n))), yIf (((!sameV (wholeV x) (⟨4, 3, []⟩ : Vl)) = true)) (yV (.int .i64 x)), yIf (((!sameV (wholeV x) (⟨4, 3, []⟩ : Vl)) = true)) (yV (.bool false)), yIf (((!sameV (wholeV x) (⟨4, 3, []⟩ : Vl)) = true)) (yV (.bool false)), yIf (((!sameV (wholeV x) (⟨4, 3, []⟩ : Vl)) = true)) (yV (.bool false)), yIf (((!sameV (wholeV x) (⟨4, 3, []⟩ : Vl)) = true)) (yV (.int .i64 x)), yIf (((!sameV (wholeV x) (⟨4, 3, []⟩ : Vl)) = true)) (yV (.int .u64 (x % 18446744073709551616))), yIf (((!sameV (wholeV x) (⟨4, 3, []⟩ : Vl)) = true)) (yV (.pointer (some ⟨gb6, 1, none⟩))), yIf (((!sameV (wholeV x) (⟨4, 3, []⟩ : Vl)) = true)) (yV (.int .i64 ((wholeV x).n))), yIf (((!sameV (wholeV x) (⟨4, 3, []⟩ : Vl)) = true)) (yV (.int .u64 (((wholeV x).n) % 18446744073709551616))), yIf (((!sameV (wholeV x) (⟨4, 3, []⟩ : Vl)) = true)) (yV (.int .u64 (x - ((wholeV x).n)))), yIf (((!sameV (wholeV x) (⟨4, 3, []⟩ : Vl)) = true)) (yV (.bool false)), yIf (((!sameV (wholeV x) (⟨4, 3, []⟩ : Vl)) = true)) (yV (.bool false)), yIf (((!sameV (wholeV x) (⟨4, 3, []⟩ : Vl)) = true)) (yV (.bool false)), yIf (((!sameV (wholeV x) (⟨4, 3, []⟩ : Vl)) = true)) (yV (.pointer (some ⟨gb6, 1, none⟩))), yIf (((!sameV (wholeV x) (⟨4, 3, []⟩ : Vl)) = true)) (yV (.int .i64 ((wholeV x).n))), yIf (((!sameV (wholeV x) (⟨4, 3, []⟩ : Vl)) = true)) (yV (.int .i64 (Int.tmod ((wholeV x).n) 10000))), yIf (((!sameV (wholeV x) (⟨4, 3, []⟩ : Vl)) = true)) (yV (.bool false)), yIf (((!sameV (wholeV x) (⟨4, 3, []⟩ : Vl)) = true)) (yV (.bool false)), yV (.bool false)] 29 182 z q ow (
    aS (fun hk bs hd => xloadN 3 rfl (by kernel_rfl) (by kernel_rfl) (bg bs s12) ((ow.keep hk).box 0 rfl) (Nat.le_of_ble_eq_true rfl) rfl) rfl <|
    aC (fun hk bs hd => xcall1 rfl rfl (en_louvrelaw13_fail _ _)) (fun hk bs hd => lfail13_any 3 _) rfl <|
    aS (fun hk bs hd => xnev rfl (dp hd 0 rfl) (dp hd 1 rfl)) rfl <|
    mvD 2 rfl rfl rfl rfl rfl rfl <|
    arm (fun aa ww hk bs hd => by
      have d3 := dp hd 3 rfl
      by_cases hz : ((!sameV (wholeV x) (⟨4, 3, []⟩ : Vl)) = true)
      · exact stepX_same (v := .pointer (some ⟨gb6, 0, none⟩)) (want1 (j := 3) (b := true) rfl (d3.trans (congrArg Value.bool hz))) (xfieldAddr rfl (bg bs s12) (by kernel_rfl)) ⟨fun _ => rfl, fun c => absurd hz c⟩ rfl
      · exact stepX_skip (wantN (j := 3) (b := true) (b' := false) rfl (d3.trans (congrArg Value.bool (Bool.eq_false_iff.2 hz))) rfl) ⟨fun c => absurd c hz, fun _ => rfl⟩ rfl
      ) <|
    arm (fun aa ww hk bs hd => by
      have d3 := dp hd 3 rfl; have d4 := dI hd 4 rfl
      by_cases hz : ((!sameV (wholeV x) (⟨4, 3, []⟩ : Vl)) = true)
      · exact stepX_same (v := .int .u8 ((wholeV x).k)) (want1 (j := 3) (b := true) rfl (d3.trans (congrArg Value.bool hz))) (xloadB rfl (by kernel_rfl) (d4.1 hz) ((ow.keep hk).box 0 rfl) rfl) ⟨fun _ => rfl, fun c => absurd hz c⟩ rfl
      · exact stepX_skip (wantN (j := 3) (b := true) (b' := false) rfl (d3.trans (congrArg Value.bool (Bool.eq_false_iff.2 hz))) rfl) ⟨fun c => absurd c hz, fun _ => rfl⟩ rfl
      ) <|
    arm (fun aa ww hk bs hd => by
      have d3 := dp hd 3 rfl; have d5 := dI hd 5 rfl
      by_cases hz : ((!sameV (wholeV x) (⟨4, 3, []⟩ : Vl)) = true)
      · exact stepX_same (v := .bool (decide (((wholeV x).k : Int) ≠ (1 : Int)))) (want1 (j := 3) (b := true) rfl (d3.trans (congrArg Value.bool hz))) (xnei rfl (d5.1 hz) rfl) ⟨fun _ => congrArg Value.bool (decide_eq_false (by have := (whole_ok hx hz).1; omega)), fun c => absurd hz c⟩ rfl
      · exact stepX_skip (wantN (j := 3) (b := true) (b' := false) rfl (d3.trans (congrArg Value.bool (Bool.eq_false_iff.2 hz))) rfl) ⟨fun c => absurd c hz, fun _ => rfl⟩ rfl
      ) <|
    arm (fun aa ww hk bs hd => by
      have d3 := dp hd 3 rfl; have d6 := dI hd 6 rfl
      by_cases hz : ((!sameV (wholeV x) (⟨4, 3, []⟩ : Vl)) = true)
      · exact stepX_same (v := .bool false) (want1 (j := 3) (b := true) rfl (d3.trans (congrArg Value.bool hz))) (xmove rfl (d6.1 hz)) ⟨fun _ => rfl, fun c => absurd hz c⟩ rfl
      · exact stepX_skip (wantN (j := 3) (b := true) (b' := false) rfl (d3.trans (congrArg Value.bool (Bool.eq_false_iff.2 hz))) rfl) ⟨fun c => absurd c hz, fun _ => rfl⟩ rfl
      ) <|
    arm (fun aa ww hk bs hd => by
      have d7 := dI hd 7 rfl
      by_cases hz : ((!sameV (wholeV x) (⟨4, 3, []⟩ : Vl)) = true)
      · exact stepX_same (v := .pointer (some ⟨gb6, 1, none⟩)) (want1 (j := 7) (b := false) rfl (d7.1 hz)) (xfieldAddr rfl (bg bs s12) (by kernel_rfl)) ⟨fun _ => rfl, fun c => absurd hz c⟩ rfl
      · exact stepX_skip (wantU (j := 7) (b := false) rfl (d7.2 hz)) ⟨fun c => absurd c hz, fun _ => rfl⟩ rfl
      ) <|
    arm (fun aa ww hk bs hd => by
      have d7 := dI hd 7 rfl; have d8 := dI hd 8 rfl
      by_cases hz : ((!sameV (wholeV x) (⟨4, 3, []⟩ : Vl)) = true)
      · exact stepX_same (v := .int .i64 ((wholeV x).n)) (want1 (j := 7) (b := false) rfl (d7.1 hz)) (xloadB rfl (by kernel_rfl) (d8.1 hz) ((ow.keep hk).box 0 rfl) rfl) ⟨fun _ => rfl, fun c => absurd hz c⟩ rfl
      · exact stepX_skip (wantU (j := 7) (b := false) rfl (d7.2 hz)) ⟨fun c => absurd c hz, fun _ => rfl⟩ rfl
      ) <|
    arm (fun aa ww hk bs hd => by
      have d7 := dI hd 7 rfl
      by_cases hz : ((!sameV (wholeV x) (⟨4, 3, []⟩ : Vl)) = true)
      · exact stepX_same (v := .int .i64 x) (want1 (j := 7) (b := false) rfl (d7.1 hz)) (xmove rfl (bg bs s0)) ⟨fun _ => rfl, fun c => absurd hz c⟩ rfl
      · exact stepX_skip (wantU (j := 7) (b := false) rfl (d7.2 hz)) ⟨fun c => absurd c hz, fun _ => rfl⟩ rfl
      ) <|
    arm (fun aa ww hk bs hd => by
      have d7 := dI hd 7 rfl; have d9 := dI hd 9 rfl; have d10 := dI hd 10 rfl
      by_cases hz : ((!sameV (wholeV x) (⟨4, 3, []⟩ : Vl)) = true)
      · exact stepX_same (v := .bool (decide ((x : Int) < ((wholeV x).n : Int)))) (want1 (j := 7) (b := false) rfl (d7.1 hz)) (xgtr rfl (d9.1 hz) (d10.1 hz)) ⟨fun _ => congrArg Value.bool (decide_eq_false (by have := whole_ok hx hz; omega)), fun c => absurd hz c⟩ rfl
      · exact stepX_skip (wantU (j := 7) (b := false) rfl (d7.2 hz)) ⟨fun c => absurd c hz, fun _ => rfl⟩ rfl
      ) <|
    arm (fun aa ww hk bs hd => by
      have d3 := dp hd 3 rfl; have d7 := dI hd 7 rfl; have d11 := dI hd 11 rfl
      by_cases hz : ((!sameV (wholeV x) (⟨4, 3, []⟩ : Vl)) = true)
      · exact stepX_same (v := .bool false) (want1 (j := 3) (b := true) rfl (d3.trans (congrArg Value.bool hz))) (xpickF rfl (d7.1 hz) (d11.1 hz)) ⟨fun _ => rfl, fun c => absurd hz c⟩ rfl
      · exact stepX_skip (wantN (j := 3) (b := true) (b' := false) rfl (d3.trans (congrArg Value.bool (Bool.eq_false_iff.2 hz))) rfl) ⟨fun c => absurd c hz, fun _ => rfl⟩ rfl
      ) <|
    arm (fun aa ww hk bs hd => by
      have d3 := dp hd 3 rfl; have d12 := dI hd 12 rfl
      by_cases hz : ((!sameV (wholeV x) (⟨4, 3, []⟩ : Vl)) = true)
      · exact stepX_same (v := .bool false) (want1 (j := 3) (b := true) rfl (d3.trans (congrArg Value.bool hz))) (xmove rfl (d12.1 hz)) ⟨fun _ => rfl, fun c => absurd hz c⟩ rfl
      · exact stepX_skip (wantN (j := 3) (b := true) (b' := false) rfl (d3.trans (congrArg Value.bool (Bool.eq_false_iff.2 hz))) rfl) ⟨fun c => absurd c hz, fun _ => rfl⟩ rfl
      ) <|
    arm (fun aa ww hk bs hd => by
      have d13 := dI hd 13 rfl
      by_cases hz : ((!sameV (wholeV x) (⟨4, 3, []⟩ : Vl)) = true)
      · exact stepX_same (v := .int .i64 x) (want1 (j := 13) (b := false) rfl (d13.1 hz)) (xmove rfl (bg bs s0)) ⟨fun _ => rfl, fun c => absurd hz c⟩ rfl
      · exact stepX_skip (wantU (j := 13) (b := false) rfl (d13.2 hz)) ⟨fun c => absurd c hz, fun _ => rfl⟩ rfl
      ) <|
    arm (fun aa ww hk bs hd => by
      have d13 := dI hd 13 rfl; have d14 := dI hd 14 rfl
      by_cases hz : ((!sameV (wholeV x) (⟨4, 3, []⟩ : Vl)) = true)
      · exact stepX_same (v := .int .u64 (x % 18446744073709551616)) (want1 (j := 13) (b := false) rfl (d13.1 hz)) (xconvU64 (n := x) rfl (d14.1 hz)) ⟨fun _ => rfl, fun c => absurd hz c⟩ rfl
      · exact stepX_skip (wantU (j := 13) (b := false) rfl (d13.2 hz)) ⟨fun c => absurd c hz, fun _ => rfl⟩ rfl
      ) <|
    arm (fun aa ww hk bs hd => by
      have d13 := dI hd 13 rfl
      by_cases hz : ((!sameV (wholeV x) (⟨4, 3, []⟩ : Vl)) = true)
      · exact stepX_same (v := .pointer (some ⟨gb6, 1, none⟩)) (want1 (j := 13) (b := false) rfl (d13.1 hz)) (xfieldAddr rfl (bg bs s12) (by kernel_rfl)) ⟨fun _ => rfl, fun c => absurd hz c⟩ rfl
      · exact stepX_skip (wantU (j := 13) (b := false) rfl (d13.2 hz)) ⟨fun c => absurd c hz, fun _ => rfl⟩ rfl
      ) <|
    arm (fun aa ww hk bs hd => by
      have d13 := dI hd 13 rfl; have d16 := dI hd 16 rfl
      by_cases hz : ((!sameV (wholeV x) (⟨4, 3, []⟩ : Vl)) = true)
      · exact stepX_same (v := .int .i64 ((wholeV x).n)) (want1 (j := 13) (b := false) rfl (d13.1 hz)) (xloadB rfl (by kernel_rfl) (d16.1 hz) ((ow.keep hk).box 0 rfl) rfl) ⟨fun _ => rfl, fun c => absurd hz c⟩ rfl
      · exact stepX_skip (wantU (j := 13) (b := false) rfl (d13.2 hz)) ⟨fun c => absurd c hz, fun _ => rfl⟩ rfl
      ) <|
    arm (fun aa ww hk bs hd => by
      have d13 := dI hd 13 rfl; have d17 := dI hd 17 rfl
      by_cases hz : ((!sameV (wholeV x) (⟨4, 3, []⟩ : Vl)) = true)
      · exact stepX_same (v := .int .u64 (((wholeV x).n) % 18446744073709551616)) (want1 (j := 13) (b := false) rfl (d13.1 hz)) (xconvU64 (n := (wholeV x).n) rfl (d17.1 hz)) ⟨fun _ => rfl, fun c => absurd hz c⟩ rfl
      · exact stepX_skip (wantU (j := 13) (b := false) rfl (d13.2 hz)) ⟨fun c => absurd c hz, fun _ => rfl⟩ rfl
      ) <|
    arm (fun aa ww hk bs hd => by
      have d13 := dI hd 13 rfl; have d15 := dI hd 15 rfl; have d18 := dI hd 18 rfl
      by_cases hz : ((!sameV (wholeV x) (⟨4, 3, []⟩ : Vl)) = true)
      · exact stepX_same (v := .int .u64 (x - ((wholeV x).n))) (want1 (j := 13) (b := false) rfl (d13.1 hz)) (xsubU64 (n := x) (m := (wholeV x).n) rfl (d15.1 hz) (d18.1 hz) (by have := whole_ok hx hz; omega) (by have := whole_ok hx hz; omega)) ⟨fun _ => rfl, fun c => absurd hz c⟩ rfl
      · exact stepX_skip (wantU (j := 13) (b := false) rfl (d13.2 hz)) ⟨fun c => absurd c hz, fun _ => rfl⟩ rfl
      ) <|
    arm (fun aa ww hk bs hd => by
      have d13 := dI hd 13 rfl; have d19 := dI hd 19 rfl
      by_cases hz : ((!sameV (wholeV x) (⟨4, 3, []⟩ : Vl)) = true)
      · exact stepX_same (v := .bool false) (want1 (j := 13) (b := false) rfl (d13.1 hz)) (xgeU64 (n := x - ((wholeV x).n)) (m := 10000) rfl (d19.1 hz) rfl (by have := whole_ok hx hz; omega)) ⟨fun _ => rfl, fun c => absurd hz c⟩ rfl
      · exact stepX_skip (wantU (j := 13) (b := false) rfl (d13.2 hz)) ⟨fun c => absurd c hz, fun _ => rfl⟩ rfl
      ) <|
    arm (fun aa ww hk bs hd => by
      have d3 := dp hd 3 rfl; have d13 := dI hd 13 rfl; have d20 := dI hd 20 rfl
      by_cases hz : ((!sameV (wholeV x) (⟨4, 3, []⟩ : Vl)) = true)
      · exact stepX_same (v := .bool false) (want1 (j := 3) (b := true) rfl (d3.trans (congrArg Value.bool hz))) (xpickF rfl (d13.1 hz) (d20.1 hz)) ⟨fun _ => rfl, fun c => absurd hz c⟩ rfl
      · exact stepX_skip (wantN (j := 3) (b := true) (b' := false) rfl (d3.trans (congrArg Value.bool (Bool.eq_false_iff.2 hz))) rfl) ⟨fun c => absurd c hz, fun _ => rfl⟩ rfl
      ) <|
    arm (fun aa ww hk bs hd => by
      have d3 := dp hd 3 rfl; have d21 := dI hd 21 rfl
      by_cases hz : ((!sameV (wholeV x) (⟨4, 3, []⟩ : Vl)) = true)
      · exact stepX_same (v := .bool false) (want1 (j := 3) (b := true) rfl (d3.trans (congrArg Value.bool hz))) (xmove rfl (d21.1 hz)) ⟨fun _ => rfl, fun c => absurd hz c⟩ rfl
      · exact stepX_skip (wantN (j := 3) (b := true) (b' := false) rfl (d3.trans (congrArg Value.bool (Bool.eq_false_iff.2 hz))) rfl) ⟨fun c => absurd c hz, fun _ => rfl⟩ rfl
      ) <|
    arm (fun aa ww hk bs hd => by
      have d22 := dI hd 22 rfl
      by_cases hz : ((!sameV (wholeV x) (⟨4, 3, []⟩ : Vl)) = true)
      · exact stepX_same (v := .pointer (some ⟨gb6, 1, none⟩)) (want1 (j := 22) (b := false) rfl (d22.1 hz)) (xfieldAddr rfl (bg bs s12) (by kernel_rfl)) ⟨fun _ => rfl, fun c => absurd hz c⟩ rfl
      · exact stepX_skip (wantU (j := 22) (b := false) rfl (d22.2 hz)) ⟨fun c => absurd c hz, fun _ => rfl⟩ rfl
      ) <|
    arm (fun aa ww hk bs hd => by
      have d22 := dI hd 22 rfl; have d23 := dI hd 23 rfl
      by_cases hz : ((!sameV (wholeV x) (⟨4, 3, []⟩ : Vl)) = true)
      · exact stepX_same (v := .int .i64 ((wholeV x).n)) (want1 (j := 22) (b := false) rfl (d22.1 hz)) (xloadB rfl (by kernel_rfl) (d23.1 hz) ((ow.keep hk).box 0 rfl) rfl) ⟨fun _ => rfl, fun c => absurd hz c⟩ rfl
      · exact stepX_skip (wantU (j := 22) (b := false) rfl (d22.2 hz)) ⟨fun c => absurd c hz, fun _ => rfl⟩ rfl
      ) <|
    arm (fun aa ww hk bs hd => by
      have d22 := dI hd 22 rfl; have d24 := dI hd 24 rfl
      by_cases hz : ((!sameV (wholeV x) (⟨4, 3, []⟩ : Vl)) = true)
      · exact stepX_same (v := .int .i64 (Int.tmod ((wholeV x).n) 10000)) (want1 (j := 22) (b := false) rfl (d22.1 hz)) (xrem (Or.inr rfl) rfl (n := (wholeV x).n) (m := 10000) (d24.1 hz) rfl (by omega) (by have := whole_ok hx hz; omega) (by have := whole_ok hx hz; omega)) ⟨fun _ => rfl, fun c => absurd hz c⟩ rfl
      · exact stepX_skip (wantU (j := 22) (b := false) rfl (d22.2 hz)) ⟨fun c => absurd c hz, fun _ => rfl⟩ rfl
      ) <|
    arm (fun aa ww hk bs hd => by
      have d22 := dI hd 22 rfl; have d25 := dI hd 25 rfl
      by_cases hz : ((!sameV (wholeV x) (⟨4, 3, []⟩ : Vl)) = true)
      · exact stepX_same (v := .bool (decide ((Int.tmod ((wholeV x).n) 10000 : Int) ≠ (0 : Int)))) (want1 (j := 22) (b := false) rfl (d22.1 hz)) (xnei rfl (d25.1 hz) rfl) ⟨fun _ => congrArg Value.bool (decide_eq_false (by have := whole_ok hx hz; omega)), fun c => absurd hz c⟩ rfl
      · exact stepX_skip (wantU (j := 22) (b := false) rfl (d22.2 hz)) ⟨fun c => absurd c hz, fun _ => rfl⟩ rfl
      ) <|
    arm (fun aa ww hk bs hd => by
      have d3 := dp hd 3 rfl; have d22 := dI hd 22 rfl; have d26 := dI hd 26 rfl
      by_cases hz : ((!sameV (wholeV x) (⟨4, 3, []⟩ : Vl)) = true)
      · exact stepX_same (v := .bool false) (want1 (j := 3) (b := true) rfl (d3.trans (congrArg Value.bool hz))) (xpickF rfl (d22.1 hz) (d26.1 hz)) ⟨fun _ => rfl, fun c => absurd hz c⟩ rfl
      · exact stepX_skip (wantN (j := 3) (b := true) (b' := false) rfl (d3.trans (congrArg Value.bool (Bool.eq_false_iff.2 hz))) rfl) ⟨fun c => absurd c hz, fun _ => rfl⟩ rfl
      ) <|
    arm (fun aa ww hk bs hd => by
      have d3 := dp hd 3 rfl; have d27 := dI hd 27 rfl; exact stepX_same (v := .bool ((!sameV (wholeV x) (⟨4, 3, []⟩ : Vl)) && false)) (want0 rfl) (xand rfl (d3) (fun hb => d27.1 hb) rfl) (congrArg Value.bool (by simp)) rfl
      ) <|
    arm0) fun fa fw bs hv ap z q ow => ?_
  have s0 := bg bs s0; have s97 := gv hv 28 rfl rfl; refine wt hK13 ?_; refine wp_cond_false (s97) ?_; refine wp_skip ?_; refine tn hK12 ?_; refine sq fun hK14 => ?_
  refine ro [yV _, yV (aggV (⟨1, x, []⟩ : Vl)), ySlice fw.heap.size 1 (rowObj [(⟨1, x, []⟩ : Vl)]), yV (.tuple #[aggV (cutV x), .int .i64 0]), yV _, yV (aggV (cutV x)), yV _, yNew fw.heap.size (.cells #[.int .u8 0, .int .i64 0, .string ⟨[].toArray⟩] 25 (0, 0))] 8 182 z q ow (
    mvS s0 rfl rfl rfl rfl <|
    aC (fun hk bs hd => xcall1 rfl (dp hd 0 rfl) (en_louvrelaw13_num _ _)) (fun hk bs hd => lnum13_any x _) rfl <|
    arm (fun aa ww hk bs hd => by
      have d1 := dp hd 1 rfl; exact stepX_new _ (want0 rfl) (xrow1 rfl (d1)) ⟨_, rfl, hk.size, Go.heap_alloc_new _ _⟩ ((Kept.refl _).alloc _) rfl (Nat.le_refl _)
      ) <|
    arm (fun aa ww hk bs hd => by
      have d2 := dL hd 2 rfl; obtain ⟨g2, e2, _, h2⟩ := d2; exact stepX_enter (want0 rfl) (xcall2 (u := .int .u8 4) (v := .slice (some ⟨g2, 0, none⟩) 1 1) rfl rfl e2 (en_fnum_Call _ _)) ((call13_eq (cutV x) 0 4 (some ⟨g2, 0, none⟩) 1 [(⟨1, x, []⟩ : Vl)] ww mx (HM.kept (ow.keep hk).kept) (rowObj_row h2) (one_small (nm_small (by omega) (by omega))) (by simp) (Nat.le_of_ble_eq_true rfl) (call_trunc hx)).mono fun _ _ ⟨he, hk2⟩ => ⟨_, he, rfl, hk2⟩) rfl
      ) <|
    mvD 3 rfl rfl rfl rfl rfl rfl <|
    aS (fun hk bs hd => xextract rfl (dp hd 4 rfl) rfl) rfl <|
    aS (fun hk bs hd => xextract rfl (dp hd 4 rfl) rfl) rfl <|
    aP (fun hk bs hd => xalloc rfl (by kernel_rfl)) rfl <|
    arm0) fun fa fw bs hv ap z q ov => ?_
  have s0 := bg bs s0; have s103 := gv hv 5 rfl rfl; have s104 := gv hv 6 rfl rfl; obtain ⟨gb7, s14, bgb7, hgb7⟩ := gotP hv 7 rfl rfl rfl; have ov := ov.cons hgb7 (Nat.le_trans ow.kept.size bgb7) (ow.below bgb7); have ow := ov; refine ws ow 0 0 s14 s103 fun fw ow => ?_; refine wl_value (v := .int .i64 0) (want0 rfl) (xassign rfl s104) ?_; refine gt2 (put_size z) (put_def q) ow 0 (pb 15 s0 rfl) 14 (pb 15 s14 rfl) fun fa fw z q ow s0 s14 => ?_; refine wt hK14 ?_; refine sq fun hK15 => ?_; refine sq fun hK16 => ?_
  refine ro [yV (.pointer (some ⟨gb7, 1, none⟩)), yV _, yV _, yV (.bool false), yV _, yV _, yV _, yV _, yIf (((decide ((0 : Int) ≤ (x : Int))) = true)) (yV (.pointer (some ⟨gb7, 1, none⟩))), yIf (((decide ((0 : Int) ≤ (x : Int))) = true)) (yV (.int .i64 ((cutV x).n))), yIf (((decide ((0 : Int) ≤ (x : Int))) = true)) (yV (.bool false)), yIf (((decide ((0 : Int) ≤ (x : Int))) = true)) (yV (.bool false)), yIf (((decide ((0 : Int) ≤ (x : Int))) = true)) (yV (.pointer (some ⟨gb7, 1, none⟩))), yIf (((decide ((0 : Int) ≤ (x : Int))) = true)) (yV (.int .i64 ((cutV x).n))), yIf (((decide ((0 : Int) ≤ (x : Int))) = true)) (yV (.int .i64 x)), yIf (((decide ((0 : Int) ≤ (x : Int))) = true)) (yV (.bool false)), yIf (((decide ((0 : Int) ≤ (x : Int))) = true)) (yV (.bool false)), yV (.bool false), yV _, yV _, yV _, yV _, yV _, yIf (((decide ((x : Int) < (0 : Int))) = true)) (yV (.pointer (some ⟨gb7, 1, none⟩))), yIf (((decide ((x : Int) < (0 : Int))) = true)) (yV (.int .i64 ((cutV x).n))), yIf (((decide ((x : Int) < (0 : Int))) = true)) (yV (.bool false)), yIf (((decide ((x : Int) < (0 : Int))) = true)) (yV (.bool false)), yIf (((decide ((x : Int) < (0 : Int))) = true)) (yV (.pointer (some ⟨gb7, 1, none⟩))), yIf (((decide ((x : Int) < (0 : Int))) = true)) (yV (.int .i64 ((cutV x).n))), yIf (((decide ((x : Int) < (0 : Int))) = true)) (yV (.int .i64 x)), yIf (((decide ((x : Int) < (0 : Int))) = true)) (yV (.bool false)), yIf (((decide ((x : Int) < (0 : Int))) = true)) (yV (.bool false)), yV (.bool false), yV _] 34 182 z q ow (
    aS (fun hk bs hd => xfieldAddr rfl (bg bs s14) (by kernel_rfl)) rfl <|
    aS (fun hk bs hd => xloadB rfl (by kernel_rfl) (dp hd 0 rfl) ((ow.keep hk).box 0 rfl) rfl) rfl <|
    aS (fun hk bs hd => xrem (Or.inr rfl) rfl (dp hd 1 rfl) rfl (by omega) (by have := cut_in hx; omega) (by have := cut_in hx; omega)) rfl <|
    aE (fun hk bs hd => xnei rfl (dp hd 2 rfl) rfl) (congrArg Value.bool (decide_eq_false (by have := (cut_laws x).1; omega))) rfl <|
    mvD 3 rfl rfl rfl rfl rfl rfl <|
    armS (wg (j := 4) (b := false) rfl rfl rfl) (fun aa ww hk bs hd => xmove rfl (bg bs s0)) rfl <|
    armS (wg (j := 4) (b := false) rfl rfl rfl) (fun aa ww hk bs hd => xgeq rfl (dp hd 5 rfl) rfl) rfl <|
    armS (wg (j := 4) (b := false) rfl rfl rfl) (fun aa ww hk bs hd => xmove rfl (dp hd 6 rfl)) rfl <|
    arm (fun aa ww hk bs hd => by
      have d7 := dp hd 7 rfl
      by_cases hz : ((decide ((0 : Int) ≤ (x : Int))) = true)
      · exact stepX_same (v := .pointer (some ⟨gb7, 1, none⟩)) (want1 (j := 7) (b := true) rfl (d7.trans (congrArg Value.bool hz))) (xfieldAddr rfl (bg bs s14) (by kernel_rfl)) ⟨fun _ => rfl, fun c => absurd hz c⟩ rfl
      · exact stepX_skip (wantN (j := 7) (b := true) (b' := false) rfl (d7.trans (congrArg Value.bool (Bool.eq_false_iff.2 hz))) rfl) ⟨fun c => absurd c hz, fun _ => rfl⟩ rfl
      ) <|
    arm (fun aa ww hk bs hd => by
      have d7 := dp hd 7 rfl; have d8 := dI hd 8 rfl
      by_cases hz : ((decide ((0 : Int) ≤ (x : Int))) = true)
      · exact stepX_same (v := .int .i64 ((cutV x).n)) (want1 (j := 7) (b := true) rfl (d7.trans (congrArg Value.bool hz))) (xloadB rfl (by kernel_rfl) (d8.1 hz) ((ow.keep hk).box 0 rfl) rfl) ⟨fun _ => rfl, fun c => absurd hz c⟩ rfl
      · exact stepX_skip (wantN (j := 7) (b := true) (b' := false) rfl (d7.trans (congrArg Value.bool (Bool.eq_false_iff.2 hz))) rfl) ⟨fun c => absurd c hz, fun _ => rfl⟩ rfl
      ) <|
    arm (fun aa ww hk bs hd => by
      have d7 := dp hd 7 rfl; have d9 := dI hd 9 rfl
      by_cases hz : ((decide ((0 : Int) ≤ (x : Int))) = true)
      · exact stepX_same (v := .bool (decide (((cutV x).n : Int) < (0 : Int)))) (want1 (j := 7) (b := true) rfl (d7.trans (congrArg Value.bool hz))) (xlss rfl (d9.1 hz) rfl) ⟨fun _ => congrArg Value.bool (decide_eq_false (by have := of_decide_eq_true hz; have := (cut_laws x).2; omega)), fun c => absurd hz c⟩ rfl
      · exact stepX_skip (wantN (j := 7) (b := true) (b' := false) rfl (d7.trans (congrArg Value.bool (Bool.eq_false_iff.2 hz))) rfl) ⟨fun c => absurd c hz, fun _ => rfl⟩ rfl
      ) <|
    arm (fun aa ww hk bs hd => by
      have d7 := dp hd 7 rfl; have d10 := dI hd 10 rfl
      by_cases hz : ((decide ((0 : Int) ≤ (x : Int))) = true)
      · exact stepX_same (v := .bool false) (want1 (j := 7) (b := true) rfl (d7.trans (congrArg Value.bool hz))) (xmove rfl (d10.1 hz)) ⟨fun _ => rfl, fun c => absurd hz c⟩ rfl
      · exact stepX_skip (wantN (j := 7) (b := true) (b' := false) rfl (d7.trans (congrArg Value.bool (Bool.eq_false_iff.2 hz))) rfl) ⟨fun c => absurd c hz, fun _ => rfl⟩ rfl
      ) <|
    arm (fun aa ww hk bs hd => by
      have d11 := dI hd 11 rfl
      by_cases hz : ((decide ((0 : Int) ≤ (x : Int))) = true)
      · exact stepX_same (v := .pointer (some ⟨gb7, 1, none⟩)) (want1 (j := 11) (b := false) rfl (d11.1 hz)) (xfieldAddr rfl (bg bs s14) (by kernel_rfl)) ⟨fun _ => rfl, fun c => absurd hz c⟩ rfl
      · exact stepX_skip (wantU (j := 11) (b := false) rfl (d11.2 hz)) ⟨fun c => absurd c hz, fun _ => rfl⟩ rfl
      ) <|
    arm (fun aa ww hk bs hd => by
      have d11 := dI hd 11 rfl; have d12 := dI hd 12 rfl
      by_cases hz : ((decide ((0 : Int) ≤ (x : Int))) = true)
      · exact stepX_same (v := .int .i64 ((cutV x).n)) (want1 (j := 11) (b := false) rfl (d11.1 hz)) (xloadB rfl (by kernel_rfl) (d12.1 hz) ((ow.keep hk).box 0 rfl) rfl) ⟨fun _ => rfl, fun c => absurd hz c⟩ rfl
      · exact stepX_skip (wantU (j := 11) (b := false) rfl (d11.2 hz)) ⟨fun c => absurd c hz, fun _ => rfl⟩ rfl
      ) <|
    arm (fun aa ww hk bs hd => by
      have d11 := dI hd 11 rfl
      by_cases hz : ((decide ((0 : Int) ≤ (x : Int))) = true)
      · exact stepX_same (v := .int .i64 x) (want1 (j := 11) (b := false) rfl (d11.1 hz)) (xmove rfl (bg bs s0)) ⟨fun _ => rfl, fun c => absurd hz c⟩ rfl
      · exact stepX_skip (wantU (j := 11) (b := false) rfl (d11.2 hz)) ⟨fun c => absurd c hz, fun _ => rfl⟩ rfl
      ) <|
    arm (fun aa ww hk bs hd => by
      have d11 := dI hd 11 rfl; have d13 := dI hd 13 rfl; have d14 := dI hd 14 rfl
      by_cases hz : ((decide ((0 : Int) ≤ (x : Int))) = true)
      · exact stepX_same (v := .bool (decide ((x : Int) < ((cutV x).n : Int)))) (want1 (j := 11) (b := false) rfl (d11.1 hz)) (xgtr rfl (d13.1 hz) (d14.1 hz)) ⟨fun _ => congrArg Value.bool (decide_eq_false (by have := of_decide_eq_true hz; have := (cut_laws x).2; omega)), fun c => absurd hz c⟩ rfl
      · exact stepX_skip (wantU (j := 11) (b := false) rfl (d11.2 hz)) ⟨fun c => absurd c hz, fun _ => rfl⟩ rfl
      ) <|
    arm (fun aa ww hk bs hd => by
      have d7 := dp hd 7 rfl; have d11 := dI hd 11 rfl; have d15 := dI hd 15 rfl
      by_cases hz : ((decide ((0 : Int) ≤ (x : Int))) = true)
      · exact stepX_same (v := .bool false) (want1 (j := 7) (b := true) rfl (d7.trans (congrArg Value.bool hz))) (xpickF rfl (d11.1 hz) (d15.1 hz)) ⟨fun _ => rfl, fun c => absurd hz c⟩ rfl
      · exact stepX_skip (wantN (j := 7) (b := true) (b' := false) rfl (d7.trans (congrArg Value.bool (Bool.eq_false_iff.2 hz))) rfl) ⟨fun c => absurd c hz, fun _ => rfl⟩ rfl
      ) <|
    arm (fun aa ww hk bs hd => by
      have d4 := dp hd 4 rfl; have d7 := dp hd 7 rfl; have d16 := dI hd 16 rfl; exact stepX_same (v := .bool ((decide ((0 : Int) ≤ (x : Int))) && false)) (want1 (j := 4) (b := false) rfl d4) (xand rfl (d7) (fun hb => d16.1 hb) rfl) (congrArg Value.bool (by simp)) rfl
      ) <|
    aS (fun hk bs hd => xpickF rfl (dp hd 4 rfl) (dp hd 17 rfl)) rfl <|
    mvD 18 rfl rfl rfl rfl rfl rfl <|
    armS (wg (j := 19) (b := false) rfl rfl rfl) (fun aa ww hk bs hd => xmove rfl (bg bs s0)) rfl <|
    armS (wg (j := 19) (b := false) rfl rfl rfl) (fun aa ww hk bs hd => xlss rfl (dp hd 20 rfl) rfl) rfl <|
    armS (wg (j := 19) (b := false) rfl rfl rfl) (fun aa ww hk bs hd => xmove rfl (dp hd 21 rfl)) rfl <|
    arm (fun aa ww hk bs hd => by
      have d22 := dp hd 22 rfl
      by_cases hz : ((decide ((x : Int) < (0 : Int))) = true)
      · exact stepX_same (v := .pointer (some ⟨gb7, 1, none⟩)) (want1 (j := 22) (b := true) rfl (d22.trans (congrArg Value.bool hz))) (xfieldAddr rfl (bg bs s14) (by kernel_rfl)) ⟨fun _ => rfl, fun c => absurd hz c⟩ rfl
      · exact stepX_skip (wantN (j := 22) (b := true) (b' := false) rfl (d22.trans (congrArg Value.bool (Bool.eq_false_iff.2 hz))) rfl) ⟨fun c => absurd c hz, fun _ => rfl⟩ rfl
      ) <|
    arm (fun aa ww hk bs hd => by
      have d22 := dp hd 22 rfl; have d23 := dI hd 23 rfl
      by_cases hz : ((decide ((x : Int) < (0 : Int))) = true)
      · exact stepX_same (v := .int .i64 ((cutV x).n)) (want1 (j := 22) (b := true) rfl (d22.trans (congrArg Value.bool hz))) (xloadB rfl (by kernel_rfl) (d23.1 hz) ((ow.keep hk).box 0 rfl) rfl) ⟨fun _ => rfl, fun c => absurd hz c⟩ rfl
      · exact stepX_skip (wantN (j := 22) (b := true) (b' := false) rfl (d22.trans (congrArg Value.bool (Bool.eq_false_iff.2 hz))) rfl) ⟨fun c => absurd c hz, fun _ => rfl⟩ rfl
      ) <|
    arm (fun aa ww hk bs hd => by
      have d22 := dp hd 22 rfl; have d24 := dI hd 24 rfl
      by_cases hz : ((decide ((x : Int) < (0 : Int))) = true)
      · exact stepX_same (v := .bool (decide ((0 : Int) < ((cutV x).n : Int)))) (want1 (j := 22) (b := true) rfl (d22.trans (congrArg Value.bool hz))) (xgtr rfl (d24.1 hz) rfl) ⟨fun _ => congrArg Value.bool (decide_eq_false (by have := of_decide_eq_true hz; have := (cut_laws x).2; omega)), fun c => absurd hz c⟩ rfl
      · exact stepX_skip (wantN (j := 22) (b := true) (b' := false) rfl (d22.trans (congrArg Value.bool (Bool.eq_false_iff.2 hz))) rfl) ⟨fun c => absurd c hz, fun _ => rfl⟩ rfl
      ) <|
    arm (fun aa ww hk bs hd => by
      have d22 := dp hd 22 rfl; have d25 := dI hd 25 rfl
      by_cases hz : ((decide ((x : Int) < (0 : Int))) = true)
      · exact stepX_same (v := .bool false) (want1 (j := 22) (b := true) rfl (d22.trans (congrArg Value.bool hz))) (xmove rfl (d25.1 hz)) ⟨fun _ => rfl, fun c => absurd hz c⟩ rfl
      · exact stepX_skip (wantN (j := 22) (b := true) (b' := false) rfl (d22.trans (congrArg Value.bool (Bool.eq_false_iff.2 hz))) rfl) ⟨fun c => absurd c hz, fun _ => rfl⟩ rfl
      ) <|
    arm (fun aa ww hk bs hd => by
      have d26 := dI hd 26 rfl
      by_cases hz : ((decide ((x : Int) < (0 : Int))) = true)
      · exact stepX_same (v := .pointer (some ⟨gb7, 1, none⟩)) (want1 (j := 26) (b := false) rfl (d26.1 hz)) (xfieldAddr rfl (bg bs s14) (by kernel_rfl)) ⟨fun _ => rfl, fun c => absurd hz c⟩ rfl
      · exact stepX_skip (wantU (j := 26) (b := false) rfl (d26.2 hz)) ⟨fun c => absurd c hz, fun _ => rfl⟩ rfl
      ) <|
    arm (fun aa ww hk bs hd => by
      have d26 := dI hd 26 rfl; have d27 := dI hd 27 rfl
      by_cases hz : ((decide ((x : Int) < (0 : Int))) = true)
      · exact stepX_same (v := .int .i64 ((cutV x).n)) (want1 (j := 26) (b := false) rfl (d26.1 hz)) (xloadB rfl (by kernel_rfl) (d27.1 hz) ((ow.keep hk).box 0 rfl) rfl) ⟨fun _ => rfl, fun c => absurd hz c⟩ rfl
      · exact stepX_skip (wantU (j := 26) (b := false) rfl (d26.2 hz)) ⟨fun c => absurd c hz, fun _ => rfl⟩ rfl
      ) <|
    arm (fun aa ww hk bs hd => by
      have d26 := dI hd 26 rfl
      by_cases hz : ((decide ((x : Int) < (0 : Int))) = true)
      · exact stepX_same (v := .int .i64 x) (want1 (j := 26) (b := false) rfl (d26.1 hz)) (xmove rfl (bg bs s0)) ⟨fun _ => rfl, fun c => absurd hz c⟩ rfl
      · exact stepX_skip (wantU (j := 26) (b := false) rfl (d26.2 hz)) ⟨fun c => absurd c hz, fun _ => rfl⟩ rfl
      ) <|
    arm (fun aa ww hk bs hd => by
      have d26 := dI hd 26 rfl; have d28 := dI hd 28 rfl; have d29 := dI hd 29 rfl
      by_cases hz : ((decide ((x : Int) < (0 : Int))) = true)
      · exact stepX_same (v := .bool (decide (((cutV x).n : Int) < (x : Int)))) (want1 (j := 26) (b := false) rfl (d26.1 hz)) (xlss rfl (d28.1 hz) (d29.1 hz)) ⟨fun _ => congrArg Value.bool (decide_eq_false (by have := of_decide_eq_true hz; have := (cut_laws x).2; omega)), fun c => absurd hz c⟩ rfl
      · exact stepX_skip (wantU (j := 26) (b := false) rfl (d26.2 hz)) ⟨fun c => absurd c hz, fun _ => rfl⟩ rfl
      ) <|
    arm (fun aa ww hk bs hd => by
      have d22 := dp hd 22 rfl; have d26 := dI hd 26 rfl; have d30 := dI hd 30 rfl
      by_cases hz : ((decide ((x : Int) < (0 : Int))) = true)
      · exact stepX_same (v := .bool false) (want1 (j := 22) (b := true) rfl (d22.trans (congrArg Value.bool hz))) (xpickF rfl (d26.1 hz) (d30.1 hz)) ⟨fun _ => rfl, fun c => absurd hz c⟩ rfl
      · exact stepX_skip (wantN (j := 22) (b := true) (b' := false) rfl (d22.trans (congrArg Value.bool (Bool.eq_false_iff.2 hz))) rfl) ⟨fun c => absurd c hz, fun _ => rfl⟩ rfl
      ) <|
    arm (fun aa ww hk bs hd => by
      have d19 := dp hd 19 rfl; have d22 := dp hd 22 rfl; have d31 := dI hd 31 rfl; exact stepX_same (v := .bool ((decide ((x : Int) < (0 : Int))) && false)) (want1 (j := 19) (b := false) rfl d19) (xand rfl (d22) (fun hb => d31.1 hb) rfl) (congrArg Value.bool (by simp)) rfl
      ) <|
    aS (fun hk bs hd => xpickF rfl (dp hd 19 rfl) (dp hd 32 rfl)) rfl <|
    arm0) fun fa fw bs hv ap z q ow => ?_
  have s0 := bg bs s0; have s138 := gv hv 33 rfl rfl; refine wt hK16 ?_; refine wp_cond_false (s138) ?_; refine wp_skip ?_; refine tn hK15 ?_; refine sq fun hK17 => ?_
  refine ro [yV _, yV (aggV (⟨1, x, []⟩ : Vl)), ySlice fw.heap.size 1 (rowObj [(⟨1, x, []⟩ : Vl)]), yV (.tuple #[aggV (rootV x), .int .i64 0]), yV _, yV (aggV (rootV x)), yV _, yNew fw.heap.size (.cells #[.int .u8 0, .int .i64 0, .string ⟨[].toArray⟩] 25 (0, 0))] 8 182 z q ow (
    mvS s0 rfl rfl rfl rfl <|
    aC (fun hk bs hd => xcall1 rfl (dp hd 0 rfl) (en_louvrelaw13_num _ _)) (fun hk bs hd => lnum13_any x _) rfl <|
    arm (fun aa ww hk bs hd => by
      have d1 := dp hd 1 rfl; exact stepX_new _ (want0 rfl) (xrow1 rfl (d1)) ⟨_, rfl, hk.size, Go.heap_alloc_new _ _⟩ ((Kept.refl _).alloc _) rfl (Nat.le_refl _)
      ) <|
    arm (fun aa ww hk bs hd => by
      have d2 := dL hd 2 rfl; obtain ⟨g2, e2, _, h2⟩ := d2; exact stepX_enter (want0 rfl) (xcall2 (u := .int .u8 8) (v := .slice (some ⟨g2, 0, none⟩) 1 1) rfl rfl e2 (en_fnum_Call _ _)) ((call13_eq (rootV x) 0 8 (some ⟨g2, 0, none⟩) 1 [(⟨1, x, []⟩ : Vl)] ww mx (HM.kept (ow.keep hk).kept) (rowObj_row h2) (one_small (nm_small (by omega) (by omega))) (by simp) (Nat.le_of_ble_eq_true rfl) (call_root hx)).mono fun _ _ ⟨he, hk2⟩ => ⟨_, he, rfl, hk2⟩) rfl
      ) <|
    mvD 3 rfl rfl rfl rfl rfl rfl <|
    aS (fun hk bs hd => xextract rfl (dp hd 4 rfl) rfl) rfl <|
    aS (fun hk bs hd => xextract rfl (dp hd 4 rfl) rfl) rfl <|
    aP (fun hk bs hd => xalloc rfl (by kernel_rfl)) rfl <|
    arm0) fun fa fw bs hv ap z q ov => ?_
  have s0 := bg bs s0; have s144 := gv hv 5 rfl rfl; have s145 := gv hv 6 rfl rfl; obtain ⟨gb8, s16, bgb8, hgb8⟩ := gotP hv 7 rfl rfl rfl; have ov := ov.cons hgb8 (Nat.le_trans ow.kept.size bgb8) (ow.below bgb8); have ow := ov; refine ws ow 0 0 s16 s144 fun fw ow => ?_; refine wl_value (v := .int .i64 0) (want0 rfl) (xassign rfl s145) ?_; refine gt2 (put_size z) (put_def q) ow 0 (pb 17 s0 rfl) 16 (pb 17 s16 rfl) fun fa fw z q ow s0 s16 => ?_; refine wt hK17 ?_; refine sq fun hK18 => ?_; refine sq fun hK19 => ?_
  refine ro [yV _, yV _] 2 182 z q ow (
    mvS s0 rfl rfl rfl rfl <|
    aS (fun hk bs hd => xlss rfl (dp hd 0 rfl) rfl) rfl <|
    arm0) fun fa fw bs hv ap z q ow => ?_
  obtain ⟨s0, s16⟩ := b2 bs s0 s16; have s147 := gv hv 1 rfl rfl; refine wt hK19 ?_
  by_cases hc2 : (x : Int) < (0 : Int)
  ·refine ct s147 ((decide_eq_true_iff).2 hc2) ?_
   refine sq fun hK20 => ?_
   refine ro [yV (aggV (rootV x)), yV (aggV (⟨4, 3, []⟩ : Vl)), yV (.bool true), yV _, yV (.bool true), yV _, yV _] 7 182 z q ow (
     aS (fun hk bs hd => xloadN 3 rfl (by kernel_rfl) (by kernel_rfl) (bg bs s16) ((ow.keep hk).box 0 rfl) (Nat.le_of_ble_eq_true rfl) rfl) rfl <|
     aC (fun hk bs hd => xcall1 rfl rfl (en_louvrelaw13_fail _ _)) (fun hk bs hd => lfail13_any 3 _) rfl <|
     aE (fun hk bs hd => xeqv rfl (dp hd 0 rfl) (dp hd 1 rfl)) (congrArg Value.bool (sameV_of (root_neg (by omega)))) rfl <|
     mvD 2 rfl rfl rfl rfl rfl rfl <|
     armC (wg (j := 3) (b := true) rfl rfl rfl) (fun aa ww hk bs hd => xcall0 rfl (en_louvrelaw13_awake _ _)) (fun aa ww hk bs hd => awake13_any ww mx (HM.kept (ow.keep hk).kept)) rfl <|
     aS (fun hk bs hd => xpickT rfl (dp hd 3 rfl) (dp hd 4 rfl)) rfl <|
     asD 5 rfl rfl rfl rfl rfl rfl <|
     arm0) fun fa fw bs hv ap z q ow => ?_
   obtain ⟨s0, s16⟩ := b2 bs s0 s16; have s4 := gv hv 6 rfl rfl; refine wt hK20 ?_; refine wp_ret ?_; refine then_r ?_; refine results_one rfl (res_tmp s4) q ?_; exact ⟨(by simp), ow.kept⟩
  refine cf s147 (decide_eq_true_iff) hc2 ?_; refine wp_skip ?_; refine tn hK18 ?_; refine sq fun hK21 => ?_
  refine ro [yV (aggV (rootV x)), yV (aggV (rootV x)), yV (.tuple #[aggV ((vBin13 3 (rootV x) (rootV x)).1), .int .i64 ((vBin13 3 (rootV x) (rootV x)).2)]), yV _, yV (aggV ((vBin13 3 (rootV x) (rootV x)).1)), yV _, yNew fw.heap.size (.cells #[.int .u8 0, .int .i64 0, .string ⟨[].toArray⟩] 25 (0, 0))] 7 182 z q ow (
    aS (fun hk bs hd => xloadN 3 rfl (by kernel_rfl) (by kernel_rfl) (bg bs s16) ((ow.keep hk).box 0 rfl) (Nat.le_of_ble_eq_true rfl) rfl) rfl <|
    aS (fun hk bs hd => xloadN 3 rfl (by kernel_rfl) (by kernel_rfl) (bg bs s16) ((ow.keep hk).box 0 rfl) (Nat.le_of_ble_eq_true rfl) rfl) rfl <|
    aC (fun hk bs hd => xcall3 rfl rfl (dp hd 0 rfl) (dp hd 1 rfl) (en_fnum_Binary _ _)) (fun hk bs hd => binary13_any 3 (rootV x) (rootV x) _ mx (HM.kept (ow.keep hk).kept) (root_small x hx) (root_small x hx)) rfl <|
    mvD 2 rfl rfl rfl rfl rfl rfl <|
    aS (fun hk bs hd => xextract rfl (dp hd 3 rfl) rfl) rfl <|
    aS (fun hk bs hd => xextract rfl (dp hd 3 rfl) rfl) rfl <|
    aP (fun hk bs hd => xalloc rfl (by kernel_rfl)) rfl <|
    arm0) fun fa fw bs hv ap z q ov => ?_
  obtain ⟨s0, s16⟩ := b2 bs s0 s16; have s158 := gv hv 4 rfl rfl; have s159 := gv hv 5 rfl rfl; obtain ⟨gb9, s18, bgb9, hgb9⟩ := gotP hv 6 rfl rfl rfl; have ov := ov.cons hgb9 (Nat.le_trans ow.kept.size bgb9) (ow.below bgb9); have ow := ov; refine ws ow 0 0 s18 s158 fun fw ow => ?_; refine wl_value (v := .int .i64 ((vBin13 3 (rootV x) (rootV x)).2)) (want0 rfl) (xassign rfl s159) ?_; refine gt3 (put_size z) (put_def q) ow 0 (pb 19 s0 rfl) 16 (pb 19 s16 rfl) 18 (pb 19 s18 rfl) fun fa fw z q ow s0 s16 s18 => ?_; refine wt hK21 ?_; refine sq fun hK22 => ?_
  refine ro [yV (.pointer (some ⟨gb8, 0, none⟩)), yV _, yV (.bool true), yV _, yV (.pointer (some ⟨gb8, 1, none⟩)), yV _, yV (.bool true), yV _, yV _, yV (.pointer (some ⟨gb9, 0, none⟩)), yV _, yV _, yV _, yIf (((decide ((((vBin13 3 (rootV x) (rootV x)).1).k : Int) ≠ (1 : Int))) = false)) (yV (.pointer (some ⟨gb9, 1, none⟩))), yIf (((decide ((((vBin13 3 (rootV x) (rootV x)).1).k : Int) ≠ (1 : Int))) = false)) (yV (.int .i64 (((vBin13 3 (rootV x) (rootV x)).1).n))), yIf (((decide ((((vBin13 3 (rootV x) (rootV x)).1).k : Int) ≠ (1 : Int))) = false)) (yV (.int .i64 x)), yIf (((decide ((((vBin13 3 (rootV x) (rootV x)).1).k : Int) ≠ (1 : Int))) = false)) (yV (.bool true)), yV (.bool true), yV _, yV _, yV (.bool true), yV _, yV _] 23 182 z q ow (
    aS (fun hk bs hd => xfieldAddr rfl (bg bs s16) (by kernel_rfl)) rfl <|
    aS (fun hk bs hd => xloadB rfl (by kernel_rfl) (dp hd 0 rfl) ((ow.keep hk).box 1 rfl) rfl) rfl <|
    aE (fun hk bs hd => xeqi rfl (dp hd 1 rfl) rfl) (congrArg Value.bool (decide_eq_true (by rw [root_nm hx.2 (by omega)]; first | rfl | (show (0 : Int) ≤ (root x : Int); omega) | omega))) rfl <|
    mvD 2 rfl rfl rfl rfl rfl rfl <|
    armS (wg (j := 3) (b := true) rfl rfl rfl) (fun aa ww hk bs hd => xfieldAddr rfl (bg bs s16) (by kernel_rfl)) rfl <|
    armS (wg (j := 3) (b := true) rfl rfl rfl) (fun aa ww hk bs hd => xloadB rfl (by kernel_rfl) (dp hd 4 rfl) ((ow.keep hk).box 1 rfl) rfl) rfl <|
    armE (wg (j := 3) (b := true) rfl rfl rfl) (fun aa ww hk bs hd => xgeq rfl (dp hd 5 rfl) rfl) (congrArg Value.bool (decide_eq_true (by rw [root_nm hx.2 (by omega)]; first | rfl | (show (0 : Int) ≤ (root x : Int); omega) | omega))) rfl <|
    aS (fun hk bs hd => xpickT rfl (dp hd 3 rfl) (dp hd 6 rfl)) rfl <|
    mvD 7 rfl rfl rfl rfl rfl rfl <|
    armS (wg (j := 8) (b := true) rfl rfl rfl) (fun aa ww hk bs hd => xfieldAddr rfl (bg bs s18) (by kernel_rfl)) rfl <|
    armS (wg (j := 8) (b := true) rfl rfl rfl) (fun aa ww hk bs hd => xloadB rfl (by kernel_rfl) (dp hd 9 rfl) ((ow.keep hk).box 0 rfl) rfl) rfl <|
    armS (wg (j := 8) (b := true) rfl rfl rfl) (fun aa ww hk bs hd => xnei rfl (dp hd 10 rfl) rfl) rfl <|
    armS (wg (j := 8) (b := true) rfl rfl rfl) (fun aa ww hk bs hd => xmove rfl (dp hd 11 rfl)) rfl <|
    arm (fun aa ww hk bs hd => by
      have d12 := dp hd 12 rfl
      by_cases hz : ((decide ((((vBin13 3 (rootV x) (rootV x)).1).k : Int) ≠ (1 : Int))) = false)
      · exact stepX_same (v := .pointer (some ⟨gb9, 1, none⟩)) (want1 (j := 12) (b := false) rfl (d12.trans (congrArg Value.bool hz))) (xfieldAddr rfl (bg bs s18) (by kernel_rfl)) ⟨fun _ => rfl, fun c => absurd hz c⟩ rfl
      · exact stepX_skip (wantN (j := 12) (b := false) (b' := true) rfl (d12.trans (congrArg Value.bool ((Bool.not_eq_false _).mp hz))) rfl) ⟨fun c => absurd c hz, fun _ => rfl⟩ rfl
      ) <|
    arm (fun aa ww hk bs hd => by
      have d12 := dp hd 12 rfl; have d13 := dI hd 13 rfl
      by_cases hz : ((decide ((((vBin13 3 (rootV x) (rootV x)).1).k : Int) ≠ (1 : Int))) = false)
      · exact stepX_same (v := .int .i64 (((vBin13 3 (rootV x) (rootV x)).1).n)) (want1 (j := 12) (b := false) rfl (d12.trans (congrArg Value.bool hz))) (xloadB rfl (by kernel_rfl) (d13.1 hz) ((ow.keep hk).box 0 rfl) rfl) ⟨fun _ => rfl, fun c => absurd hz c⟩ rfl
      · exact stepX_skip (wantN (j := 12) (b := false) (b' := true) rfl (d12.trans (congrArg Value.bool ((Bool.not_eq_false _).mp hz))) rfl) ⟨fun c => absurd c hz, fun _ => rfl⟩ rfl
      ) <|
    arm (fun aa ww hk bs hd => by
      have d12 := dp hd 12 rfl
      by_cases hz : ((decide ((((vBin13 3 (rootV x) (rootV x)).1).k : Int) ≠ (1 : Int))) = false)
      · exact stepX_same (v := .int .i64 x) (want1 (j := 12) (b := false) rfl (d12.trans (congrArg Value.bool hz))) (xmove rfl (bg bs s0)) ⟨fun _ => rfl, fun c => absurd hz c⟩ rfl
      · exact stepX_skip (wantN (j := 12) (b := false) (b' := true) rfl (d12.trans (congrArg Value.bool ((Bool.not_eq_false _).mp hz))) rfl) ⟨fun c => absurd c hz, fun _ => rfl⟩ rfl
      ) <|
    arm (fun aa ww hk bs hd => by
      have d12 := dp hd 12 rfl; have d14 := dI hd 14 rfl; have d15 := dI hd 15 rfl
      by_cases hz : ((decide ((((vBin13 3 (rootV x) (rootV x)).1).k : Int) ≠ (1 : Int))) = false)
      · exact stepX_same (v := .bool (decide ((((vBin13 3 (rootV x) (rootV x)).1).n : Int) ≤ (x : Int)))) (want1 (j := 12) (b := false) rfl (d12.trans (congrArg Value.bool hz))) (xleq rfl (d14.1 hz) (d15.1 hz)) ⟨fun _ => congrArg Value.bool (decide_eq_true (square_le hx.2 (by omega) (by have := of_decide_eq_false hz; omega))), fun c => absurd hz c⟩ rfl
      · exact stepX_skip (wantN (j := 12) (b := false) (b' := true) rfl (d12.trans (congrArg Value.bool ((Bool.not_eq_false _).mp hz))) rfl) ⟨fun c => absurd c hz, fun _ => rfl⟩ rfl
      ) <|
    arm (fun aa ww hk bs hd => by
      have d8 := dp hd 8 rfl; have d12 := dp hd 12 rfl; have d16 := dI hd 16 rfl; exact stepX_same (v := .bool ((decide ((((vBin13 3 (rootV x) (rootV x)).1).k : Int) ≠ (1 : Int))) || true)) (want1 (j := 8) (b := true) rfl d8) (xor_ rfl (d12) rfl (fun hb => d16.1 hb)) (congrArg Value.bool (by simp)) rfl
      ) <|
    aS (fun hk bs hd => xpickT rfl (dp hd 8 rfl) (dp hd 17 rfl)) rfl <|
    mvD 18 rfl rfl rfl rfl rfl rfl <|
    armC (wg (j := 19) (b := true) rfl rfl rfl) (fun aa ww hk bs hd => xcall0 rfl (en_louvrelaw13_awake _ _)) (fun aa ww hk bs hd => awake13_any ww mx (HM.kept (ow.keep hk).kept)) rfl <|
    aS (fun hk bs hd => xpickT rfl (dp hd 19 rfl) (dp hd 20 rfl)) rfl <|
    asD 21 rfl rfl rfl rfl rfl rfl <|
    arm0) fun fa fw bs hv ap z q ow => ?_
  have s4 := gv hv 22 rfl rfl; refine wt hK22 ?_; refine wp_ret ?_; refine results_one rfl (res_tmp s4) q ?_; exact ⟨(by simp), ow.kept⟩
end Go.Proofs.YtbpkfnoenkoabaaGreatDoor
