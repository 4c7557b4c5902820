/- Layer 16: the iterator over the numbers of arguments (printed by wip/mkagg5.py). -/
import Derived.Test.YtbkjdcpfkepheaaGreatDoorUMixAR
namespace Go.Proofs.YtbkjdcpfkepheaaGreatDoor
set_option linter.unusedVariables false
set_option linter.unusedSimpArgs false
open Go.RowKit Lv
set_option maxRecDepth 100000
theorem xmakeFuncC {a : Act} {w : World} {o : Oper} {f : FuncId} {x : Operand} {u : Value} (ho : o.op = .makeFunc (.func f) #[] #[x]) (hx : a.eval x = u) : (execOp a.eval o).run Tryz.prog w = .ok (.value (.func (.func f) #[] #[u])) w := by
  unfold execOp; rw [ho]
  simp only [List.map_toArray, List.map_cons, List.map_nil, hx]
  go_simp
theorem gy7 {ops : Array Oper} {Q : Exit → Act → World → Prop} {rest : List Oper} {a : Act} {w : World} {n N : Nat} {w0 : World} {H : List Th} (z : a.tmps.size = N) (q : a.defers = []) (o : Own w0 H w) (t0 : Nat) {v0 : Value} (s0 : a.eval (.tmp t0) = v0) (t1 : Nat) {v1 : Value} (s1 : a.eval (.tmp t1) = v1) (t2 : Nat) {v2 : Value} (s2 : a.eval (.tmp t2) = v2) (t3 : Nat) {v3 : Value} (s3 : a.eval (.tmp t3) = v3) (t4 : Nat) {v4 : Value} (s4 : a.eval (.tmp t4) = v4) (t5 : Nat) {v5 : Value} (s5 : a.eval (.tmp t5) = v5) (t6 : Nat) {v6 : Value} (s6 : a.eval (.tmp t6) = v6) (h : ∀ (a : Act) (w : World), a.tmps.size = N → a.defers = [] → Own w0 H w → a.eval (.tmp t0) = v0 → a.eval (.tmp t1) = v1 → a.eval (.tmp t2) = v2 → a.eval (.tmp t3) = v3 → a.eval (.tmp t4) = v4 → a.eval (.tmp t5) = v5 → a.eval (.tmp t6) = v6 → wpListIn Fence.wide n Tryz.prog ops Q rest a w) : wpListIn Fence.wide n Tryz.prog ops Q rest a w := h a w z q o s0 s1 s2 s3 s4 s5 s6
theorem gy9 {ops : Array Oper} {Q : Exit → Act → World → Prop} {rest : List Oper} {a : Act} {w : World} {n N : Nat} {w0 : World} {H : List Th} (z : a.tmps.size = N) (q : a.defers = []) (o : Own w0 H w) (t0 : Nat) {v0 : Value} (s0 : a.eval (.tmp t0) = v0) (t1 : Nat) {v1 : Value} (s1 : a.eval (.tmp t1) = v1) (t2 : Nat) {v2 : Value} (s2 : a.eval (.tmp t2) = v2) (t3 : Nat) {v3 : Value} (s3 : a.eval (.tmp t3) = v3) (t4 : Nat) {v4 : Value} (s4 : a.eval (.tmp t4) = v4) (t5 : Nat) {v5 : Value} (s5 : a.eval (.tmp t5) = v5) (t6 : Nat) {v6 : Value} (s6 : a.eval (.tmp t6) = v6) (t7 : Nat) {v7 : Value} (s7 : a.eval (.tmp t7) = v7) (t8 : Nat) {v8 : Value} (s8 : a.eval (.tmp t8) = v8) (h : ∀ (a : Act) (w : World), a.tmps.size = N → a.defers = [] → Own w0 H w → a.eval (.tmp t0) = v0 → a.eval (.tmp t1) = v1 → a.eval (.tmp t2) = v2 → a.eval (.tmp t3) = v3 → a.eval (.tmp t4) = v4 → a.eval (.tmp t5) = v5 → a.eval (.tmp t6) = v6 → a.eval (.tmp t7) = v7 → a.eval (.tmp t8) = v8 → wpListIn Fence.wide n Tryz.prog ops Q rest a w) : wpListIn Fence.wide n Tryz.prog ops Q rest a w := h a w z q o s0 s1 s2 s3 s4 s5 s6 s7 s8
theorem en_val_ToNumber : En 122 := by intro args w; go_simp
set_option maxHeartbeats 4000000 in
theorem anumbers_any (A : Option Addr) (cap : Nat) (l : List Ar) (w : World) :
    Calls Tryz.prog 89 #[.slice A l.length cap] w fun e w' => ∃ g, e = .returned (.func (.func 121) #[] #[.pointer (some ⟨g, 0, none⟩)]) ∧ Box w' g 22 #[.slice A l.length cap] ∧ w.heap.size ≤ g ∧ Kept w w' := by
  go_enter Tryz.func89, Tryz.ntmps89; refine sq fun hK1 => ?_
  refine ro [yNew w.heap.size (.cells #[.slice A l.length cap] 22 (0, 0)), yV _] 2 4 rfl rfl (Own.start w) (
    aP (fun hk bs hd => xbox rfl (bs.get 0 rfl rfl) (by kernel_rfl)) rfl <|
    aS (fun hk bs hd => xassign rfl rfl) rfl <|
    arm0) fun fa fw bs hv ap z q ov => ?_
  obtain ⟨gb1, s1, bgb1, hgb1⟩ := gotP hv 0 rfl rfl rfl; have ov := ov.cons hgb1 (Nat.le_trans (Own.start w).kept.size bgb1) ((Own.start w).below bgb1); have s2 := gv hv 1 rfl rfl; have ow := ov; refine wt hK1 ?_; refine sq fun hK2 => ?_
  refine ro [yV _, yV _] 2 4 z q ow (
    aS (fun hk bs hd => xmakeFuncC rfl (bg bs s1)) rfl <|
    asD 0 rfl rfl rfl rfl rfl rfl <|
    arm0) fun fa fw bs hv ap z q ow => ?_
  have s2 := gv hv 1 rfl rfl; refine wt hK2 ?_; refine wp_ret ?_; refine results_one rfl (res_tmp s2) q ?_; exact ⟨_, rfl, (ow.box 0 rfl), ow.old _ List.mem_cons_self _ rfl, ow.kept⟩
set_option maxHeartbeats 4000000 in
theorem aiter_any (A : Option Addr) (cap : Nat) (l : List Ar) (w w1 : World) (mx : Int) (HM : Mx w mx) (hr : ArgsAt w A l) (hs : ∀ a ∈ l, SmallAr a) (hl : l.length ≤ 1000000) (hla : ∀ a ∈ l, a.l.length ≤ 1000000) (hB : Kept w w1) (bb : Nat) (hbx : Box w1 bb 22 #[.slice A l.length cap]) (n lp : Nat) (J Jx : List Vl → World → Prop) (hJ : AbidesFrom w1.heap.size J) (hJx : AbidesFrom w1.heap.size Jx) (hY : ∀ pre x u, J pre u → pre.length < (seq16 l).length → YieldAt Fence.wide n Tryz.prog lp #[aggV x] u fun e u' => (e = .returned (.bool true) ∧ J (pre ++ [x]) u' ∧ KeepsC w.heap.size u u') ∨ (e = .returned (.bool false) ∧ Jx (pre ++ [x]) u')) (h0 : J [] w1) :
    Calls Tryz.prog 121 #[.func (.yield lp) #[] #[], .pointer (some ⟨bb, 0, none⟩)] w1 fun e w' => (∃ v, e = .returned v) ∧ ((∃ xs, xs = upE (seq16 l) ∧ J xs w') ∨ (∃ pre, pre <+: seq16 l ∧ Jx pre w')) := by
  go_enter Tryz.func121, Tryz.ntmps121; refine sq fun hK1 => ?_
  refine rg [yV _, yV _, yV _] 3 60 rfl (
    aS (fun hk bs hd => xloadB rfl (by kernel_rfl) (bs.get 1 rfl rfl) (Box.kept16 hbx ((Own.start w1).keep hk).kept) rfl) rfl <|
    aS (fun hk bs hd => xlen Tryz.underlying22 rfl (dp hd 0 rfl)) rfl <|
    aS (fun hk bs hd => xmove rfl rfl) rfl <|
    arm0) fun fa fw hk bs hv ap => ?_
  obtain ⟨z, q, ow⟩ := aft hk bs rfl rfl (Own.start w1); have s0 := bs.get 0 rfl rfl; have s8 := gv hv 0 rfl rfl; have s9 := gv hv 1 rfl rfl; have s10 := gv hv 2 rfl rfl; refine wt hK1 ?_; refine wp_block ?_; refine wp_loop_g (fun (k : Nat) fr u => ∃ (pre : List Vl), ∃ (wb : World), (k ≤ l.length) ∧ (Kept w wb) ∧ (J pre wb) ∧ (pre ++ seq16 (l.drop k) = seq16 l) ∧ (firstE pre = none) ∧ fr.tmps.size = 60 ∧ fr.defers = [] ∧ Own wb [] u ∧ fr.eval (.tmp 0) = .func (.yield lp) #[] #[] ∧ fr.eval (.tmp 8) = .slice A l.length cap ∧ fr.eval (.tmp 9) = .int .i64 ((l.length : Nat) : Int) ∧ fr.eval (.tmp 10) = .int .i64 (k : Int)) (fun k => l.length - k) 0 ⟨[], w1, (Nat.zero_le _), hB, h0, rfl, rfl, z, q, ow, s0, s8, s9, s10⟩ (fun k b_ u_ hI => ?_)
  revert b_ u_; intro fa fw hI
  obtain ⟨pre, wb, hk0, hB, hj, hpre, hfe, z, q, ow, s0, s8, s9, s10⟩ := hI; refine sq fun hK2 => ?_
  refine ro [yV _] 1 60 z q ow (
    aS (fun hk bs hd => xlss rfl (bg bs s10) (bg bs s9)) rfl <|
    arm0) fun fa fw bs hv ap z q ow => ?_
  obtain ⟨s0, s8, s9, s10⟩ := b4 bs s0 s8 s9 s10; have s11 := gv hv 0 rfl rfl; refine wt hK2 ?_; refine sq fun hK3 => ?_
  by_cases hc1 : (k : Int) < ((l.length : Nat) : Int)
  ·refine ct s11 ((decide_eq_true_iff).2 hc1) ?_
   refine wp_skip ?_; refine tn hK3 ?_; refine sq fun hK4 => ?_; refine wp_block ?_; refine sq fun hK5 => ?_; have hltk : k < l.length := by omega
   obtain ⟨a, ha⟩ := at_some hltk; obtain ⟨ba, oa, A1, c1, Aa, ea, r1, l1⟩ := hr.elem ha; have hva := (hs a (List.mem_of_getElem? ha)).1; have hca := (hs a (List.mem_of_getElem? ha)).2; have hal := hla a (List.mem_of_getElem? ha)
   refine ro [yV _, yV (.agg #[.bool a.w, .int .u8 a.v.k, .int .i64 a.v.n, .string ⟨a.v.t.toArray⟩, .int .i64 a.x.c1, .int .i64 a.x.r1, .int .i64 a.x.c2, .int .i64 a.x.r2, .slice A1 a.l.length c1]), yNew fw.heap.size (.cells #[.bool false, .int .u8 0, .int .i64 0, .string ⟨[].toArray⟩, .int .i64 0, .int .i64 0, .int .i64 0, .int .i64 0, .slice none 0 0] 39 (0, 0))] 3 60 z q ow (
     aS (fun hk bs hd => xplaceK 9 Tryz.underlying22 (by kernel_rfl) rfl Aa (bg bs s8) (bg bs s10) hltk) rfl <|
     aS (fun hk bs hd => xpartK (n := 9) 0 rfl (by kernel_rfl) (by kernel_rfl) (dp hd 0 rfl) rfl (ea.kept (hB.trans (ow.keep hk).kept))) rfl <|
     aP (fun hk bs hd => xalloc rfl (by kernel_rfl)) rfl <|
     arm0) fun fa fw bs hv ap z q ov => ?_
   obtain ⟨s0, s8, s9, s10⟩ := b4 bs s0 s8 s9 s10; have s13 := gv hv 1 rfl rfl; obtain ⟨gb1, s4, bgb1, hgb1⟩ := gotP hv 2 rfl rfl rfl; have ov := ov.cons hgb1 (Nat.le_trans ow.kept.size bgb1) (ow.below bgb1); have ow := ov; refine ws ow 0 0 s4 s13 fun fw ow => ?_; refine wt hK5 ?_; refine sq fun hK6 => ?_; refine sq fun hK7 => ?_
   refine ro [yV (.pointer (some ⟨gb1, 0, none⟩)), yV _, yV _] 3 60 z q ow (
     aS (fun hk bs hd => xfieldAddr rfl (bg bs s4) (by kernel_rfl)) rfl <|
     aS (fun hk bs hd => xloadB rfl (by kernel_rfl) (dp hd 0 rfl) ((ow.keep hk).box 0 rfl) rfl) rfl <|
     aS (fun hk bs hd => xnot rfl (dp hd 1 rfl)) rfl <|
     arm0) fun fa fw bs hv ap z q ow => ?_
   obtain ⟨s0, s8, s9, s10, s4⟩ := b5 bs s0 s8 s9 s10 s4; have s16 := gv hv 2 rfl rfl; refine wt hK7 ?_
   by_cases hc2 : ¬ (a.w = true)
   ·refine ct s16 ((bnot (Iff.rfl)).2 hc2) ?_
    have hw : a.w = false := by simpa using hc2
    refine sq fun hK8 => ?_; refine sq fun hK9 => ?_
    refine ro [yV (.pointer (some ⟨gb1, 1, none⟩)), yV (aggV a.v), yV (aggV (vNum a.v)), yNew fw.heap.size (.cells #[.int .u8 0, .int .i64 0, .string ⟨[].toArray⟩] 25 (0, 0))] 4 60 z q ow (
      aS (fun hk bs hd => xfieldAddr rfl (bg bs s4) (by kernel_rfl)) rfl <|
      aS (fun hk bs hd => xloadN 3 rfl (by kernel_rfl) (by kernel_rfl) (dp hd 0 rfl) ((ow.keep hk).box 0 rfl) (Nat.le_of_ble_eq_true rfl) rfl) rfl <|
      aC (fun hk bs hd => xcall1 rfl (dp hd 1 rfl) (en_val_ToNumber _ _)) (fun hk bs hd => tonum_any a.v _ mx (HM.kept (hB.trans (ow.keep hk).kept)) hva.1 hva.2) rfl <|
      aP (fun hk bs hd => xalloc rfl (by kernel_rfl)) rfl <|
      arm0) fun fa fw bs hv ap z q ov => ?_
    obtain ⟨s0, s8, s9, s10, s4⟩ := b5 bs s0 s8 s9 s10 s4; have s19 := gv hv 2 rfl rfl; obtain ⟨gb2, s5, bgb2, hgb2⟩ := gotP hv 3 rfl rfl rfl; have ov := ov.cons hgb2 (Nat.le_trans ow.kept.size bgb2) (ow.below bgb2); have ow := ov; refine ws ow 0 0 s5 s19 fun fw ow => ?_; refine wt hK9 ?_; refine sq fun hK10 => ?_; have hs5 : pre ++ (vNum a.v :: seq16 (l.drop (k + 1))) = seq16 l := by rw [← hpre, seq_at ha, seq1_no hw]; rfl
    have hy := hY pre (vNum a.v) _ (abides_kept hJ hj ow.kept) (lt_of_split hs5); refine (wpIn_wide (n := n + 1)).1 (wpIn_region_lit ?_); refine yl_value (v := .func (.yield lp) #[] #[]) (want0 rfl) (xmove rfl s0) ?_; refine yl_value (v := aggV (vNum a.v)) (want0 rfl) (xloadN 3 (vs := [.int .u8 ((vNum a.v).k), .int .i64 ((vNum a.v).n), .string ⟨((vNum a.v).t).toArray⟩]) rfl (by kernel_rfl) (by kernel_rfl) (pb 20 s5 rfl) (ow.box 0 rfl) (Nat.le_of_ble_eq_true rfl) rfl) ?_; refine yl_round (want0 rfl) (xyield rfl (pb 21 (put_in (t := 20) z rfl) rfl) (put_in (t := 21) (put_size z) rfl)) hy ?_; have hbb := ow.box 0 rfl; have hB2 := hB.trans ow.kept; rintro e wd (⟨rfl, hj, hk⟩ | ⟨rfl, hjx⟩)
    ·skip
     refine ⟨_, rfl, ?_⟩; have hB := Below.trans hB2 hk.1; have hbb := hk.box hbb (by decide) (by decide); have ow := Own.start wd; refine gy7 (put_size (put_size (put_size z))) (put_def (put_def (put_def q))) ow 0 (pb 22 (pb 21 (pb 20 s0 rfl) rfl) rfl) 8 (pb 22 (pb 21 (pb 20 s8 rfl) rfl) rfl) 9 (pb 22 (pb 21 (pb 20 s9 rfl) rfl) rfl) 10 (pb 22 (pb 21 (pb 20 s10 rfl) rfl) rfl) 4 (pb 22 (pb 21 (pb 20 s4 rfl) rfl) rfl) 5 (pb 22 (pb 21 (pb 20 s5 rfl) rfl) rfl) 22 (put_in (t := 22) (put_size (put_size z)) rfl) fun fa fw z q ow s0 s8 s9 s10 s4 s5 s22 => ?_; refine yl_value (v := .bool false) (want0 rfl) (xnot rfl s22) ?_; refine yl_value (v := .bool false) (want0 rfl) (xmove rfl (put_in (t := 23) z rfl)) ?_; refine yl_value (v := .pointer (some ⟨gb2, 0, none⟩)) (want1 (j := 4) (b := false) rfl (put_in (t := 24) (put_size z) rfl)) (xfieldAddr rfl (pb 24 (pb 23 s5 rfl) rfl) (by kernel_rfl)) ?_; refine gy7 (put_size (put_size (put_size z))) (put_def (put_def (put_def q))) ow 0 (pb 25 (pb 24 (pb 23 s0 rfl) rfl) rfl) 8 (pb 25 (pb 24 (pb 23 s8 rfl) rfl) rfl) 9 (pb 25 (pb 24 (pb 23 s9 rfl) rfl) rfl) 10 (pb 25 (pb 24 (pb 23 s10 rfl) rfl) rfl) 4 (pb 25 (pb 24 (pb 23 s4 rfl) rfl) rfl) 24 (pb 25 (put_in (t := 24) (put_size z) rfl) rfl) 25 (put_in (t := 25) (put_size (put_size z)) rfl) fun fa fw z q ow s0 s8 s9 s10 s4 s24 s25 => ?_; refine yl_value (v := .int .u8 ((vNum a.v).k)) (want1 (j := 4) (b := false) rfl (s24)) (xloadB rfl (by kernel_rfl) s25 (Box.kept16 hbb ow.kept) rfl) ?_; refine yl_value (v := .bool (decide (((vNum a.v).k : Int) = (4 : Int)))) (want1 (j := 4) (b := false) rfl (pb 26 s24 rfl)) (xeqi rfl (put_in (t := 26) z rfl) rfl) ?_
     refine yl_value (v := .bool (decide (((vNum a.v).k : Int) = (4 : Int)))) (want0 rfl) (xpickF rfl (pb 27 (pb 26 s24 rfl) rfl) (put_in (t := 27) (put_size z) rfl)) ?_
     change wpList Tryz.prog #[] _ [] _ _
     refine gt6 (put_size (put_size (put_size z))) (put_def (put_def (put_def q))) ow 0 (pb 28 (pb 27 (pb 26 s0 rfl) rfl) rfl) 8 (pb 28 (pb 27 (pb 26 s8 rfl) rfl) rfl) 9 (pb 28 (pb 27 (pb 26 s9 rfl) rfl) rfl) 10 (pb 28 (pb 27 (pb 26 s10 rfl) rfl) rfl) 4 (pb 28 (pb 27 (pb 26 s4 rfl) rfl) rfl) 28 (put_in (t := 28) (put_size (put_size z)) rfl) fun fa fw z q ow s0 s8 s9 s10 s4 s28 => ?_; refine wt hK10 ?_
     by_cases hc3 : ((vNum a.v).k : Int) = (4 : Int)
     ·refine ct s28 ((decide_eq_true_iff).2 hc3) ?_
      refine wp_ret ?_; refine then_r ?_; refine then_r ?_; refine block_r ?_; refine then_r ?_; refine then_r ?_; refine block_r ?_; refine bodyPost_ret (results_none rfl _ _ _) q ?_; exact ⟨⟨_, rfl⟩, Or.inl ⟨_, (hs5 ▸ (upE_at hfe (ise_of hc3))).symm, abides_kept hJ hj ow.kept⟩⟩
     refine cf s28 (decide_eq_true_iff) hc3 ?_; refine wp_skip ?_; refine tn hK8 ?_; refine wp_exit ?_; refine then_e ?_; refine block_hit ?_; refine tn hK4 ?_
     refine ro [yV (.int .i64 ((k + 1 : Nat) : Int))] 1 60 z q ow (
       aS (fun hk bs hd => xadd (Or.inl rfl) rfl (bg bs s10) rfl (by omega) (by omega)) rfl <|
       arm0) fun fa fw bs hv ap z q ow => ?_
     obtain ⟨s0, s8, s9, s10⟩ := b4 bs s0 s8 s9 s10; have s59 := gv hv 0 rfl rfl; refine wl_value (v := .int .i64 ((k + 1 : Nat) : Int)) (want0 rfl) (xmove rfl s59) ?_; refine gp3 z q ow s0 s8 s9 fun fa fw z q ow s0 s8 s9 s10 => ?_; refine wl_end ?_; exact then_n ⟨(k + 1), ⟨_, wd, hltk, hB, hj, ((List.append_assoc _ _ _).trans hs5), (fE_snoc hfe (ise_not hc3)), z, q, ow, s0, s8, s9, s10⟩, (show l.length - (k + 1) < l.length - k by omega)⟩
    refine ⟨_, rfl, ?_⟩; have ow := Own.start wd; refine gy7 (put_size (put_size (put_size z))) (put_def (put_def (put_def q))) ow 0 (pb 22 (pb 21 (pb 20 s0 rfl) rfl) rfl) 8 (pb 22 (pb 21 (pb 20 s8 rfl) rfl) rfl) 9 (pb 22 (pb 21 (pb 20 s9 rfl) rfl) rfl) 10 (pb 22 (pb 21 (pb 20 s10 rfl) rfl) rfl) 4 (pb 22 (pb 21 (pb 20 s4 rfl) rfl) rfl) 5 (pb 22 (pb 21 (pb 20 s5 rfl) rfl) rfl) 22 (put_in (t := 22) (put_size (put_size z)) rfl) fun fa fw z q ow s0 s8 s9 s10 s4 s5 s22 => ?_; refine yl_value (v := .bool true) (want0 rfl) (xnot rfl s22) ?_; refine yl_value (v := .bool true) (want0 rfl) (xmove rfl (put_in (t := 23) z rfl)) ?_; refine yl_skip (wantN (j := 4) (b := false) (b' := true) rfl (put_in (t := 24) (put_size z) rfl) rfl) ?_; refine gy7 (put_size (put_size (put_size z))) (put_def (put_def (put_def q))) ow 0 (pb 25 (pb 24 (pb 23 s0 rfl) rfl) rfl) 8 (pb 25 (pb 24 (pb 23 s8 rfl) rfl) rfl) 9 (pb 25 (pb 24 (pb 23 s9 rfl) rfl) rfl) 10 (pb 25 (pb 24 (pb 23 s10 rfl) rfl) rfl) 4 (pb 25 (pb 24 (pb 23 s4 rfl) rfl) rfl) 24 (pb 25 (put_in (t := 24) (put_size z) rfl) rfl) 25 (put_in (t := 25) (put_size (put_size z)) rfl) fun fa fw z q ow s0 s8 s9 s10 s4 s24 s25 => ?_; refine yl_skip (wantN (j := 4) (b := false) (b' := true) rfl (s24) rfl) ?_; refine yl_skip (wantN (j := 4) (b := false) (b' := true) rfl (pb 26 s24 rfl) rfl) ?_; refine yl_value (v := .bool true) (want0 rfl) (xpickT rfl (pb 27 (pb 26 s24 rfl) rfl) rfl) ?_
    change wpList Tryz.prog #[] _ [] _ _
    refine gt6 (put_size (put_size (put_size z))) (put_def (put_def (put_def q))) ow 0 (pb 28 (pb 27 (pb 26 s0 rfl) rfl) rfl) 8 (pb 28 (pb 27 (pb 26 s8 rfl) rfl) rfl) 9 (pb 28 (pb 27 (pb 26 s9 rfl) rfl) rfl) 10 (pb 28 (pb 27 (pb 26 s10 rfl) rfl) rfl) 4 (pb 28 (pb 27 (pb 26 s4 rfl) rfl) rfl) 28 (put_in (t := 28) (put_size (put_size z)) rfl) fun fa fw z q ow s0 s8 s9 s10 s4 s28 => ?_; refine wt hK10 ?_; refine wp_cond_true (s28) ?_; refine wp_ret ?_; refine then_r ?_; refine then_r ?_; refine block_r ?_; refine then_r ?_; refine then_r ?_; refine block_r ?_; refine bodyPost_ret (results_none rfl _ _ _) q ?_; exact ⟨⟨_, rfl⟩, Or.inr ⟨_, pre_of_split hs5, abides_kept hJx hjx ow.kept⟩⟩
   refine cf s16 (bnot (Iff.rfl)) hc2 ?_; have hw : a.w = true := by simpa using hc2
   refine wp_skip ?_; refine tn hK6 ?_; refine sq fun hK11 => ?_
   refine ro [yV (.pointer (some ⟨gb1, 4, none⟩)), yV (.pointer (some ⟨gb1, 8, none⟩)), yV _, yV _, yV _] 5 60 z q ow (
     aS (fun hk bs hd => xfieldAddr rfl (bg bs s4) (by kernel_rfl)) rfl <|
     aS (fun hk bs hd => xfieldAddr rfl (dp hd 0 rfl) (by kernel_rfl)) rfl <|
     aS (fun hk bs hd => xloadB rfl (by kernel_rfl) (dp hd 1 rfl) ((ow.keep hk).box 0 rfl) rfl) rfl <|
     aS (fun hk bs hd => xlen Tryz.underlying35 rfl (dp hd 2 rfl)) rfl <|
     aS (fun hk bs hd => xmove rfl rfl) rfl <|
     arm0) fun fa fw bs hv ap z q ow => ?_
   obtain ⟨s0, s8, s9, s10⟩ := b4 bs s0 s8 s9 s10; have s31 := gv hv 2 rfl rfl; have s32 := gv hv 3 rfl rfl; have s33 := gv hv 4 rfl rfl; refine wt hK11 ?_; refine wp_block ?_; refine wp_loop_g (fun (j : Nat) fr u => ∃ (qre : List Vl), ∃ (wc : World), (j ≤ a.l.length) ∧ (Kept w wc) ∧ (J qre wc) ∧ (qre ++ (numE (a.l.drop j) ++ seq16 (l.drop (k + 1))) = seq16 l) ∧ (firstE qre = none) ∧ fr.tmps.size = 60 ∧ fr.defers = [] ∧ Own wc [] u ∧ fr.eval (.tmp 0) = .func (.yield lp) #[] #[] ∧ fr.eval (.tmp 8) = .slice A l.length cap ∧ fr.eval (.tmp 9) = .int .i64 ((l.length : Nat) : Int) ∧ fr.eval (.tmp 10) = .int .i64 (k : Int) ∧ fr.eval (.tmp 31) = .slice A1 a.l.length c1 ∧ fr.eval (.tmp 32) = .int .i64 ((a.l.length : Nat) : Int) ∧ fr.eval (.tmp 33) = .int .i64 (j : Int)) (fun j => a.l.length - j) 0 ⟨pre, wb, (Nat.zero_le _), hB, hj, (by rw [List.drop_zero, ← seq1_yes hw, ← hpre, seq_at ha]), hfe, z, q, ow.tail, s0, s8, s9, s10, s31, s32, s33⟩ (fun j b_ u_ hI => ?_)
   revert b_ u_; intro fa fw hI
   obtain ⟨qre, wc, hj0, hB, hj, hqr, hqf, z, q, ow, s0, s8, s9, s10, s31, s32, s33⟩ := hI; refine sq fun hK12 => ?_
   refine ro [yV _] 1 60 z q ow (
     aS (fun hk bs hd => xlss rfl (bg bs s33) (bg bs s32)) rfl <|
     arm0) fun fa fw bs hv ap z q ow => ?_
   obtain ⟨s0, s8, s9, s10, s31, s32, s33⟩ := b7 bs s0 s8 s9 s10 s31 s32 s33; have s34 := gv hv 0 rfl rfl; refine wt hK12 ?_; refine sq fun hK13 => ?_
   by_cases hc4 : (j : Int) < ((a.l.length : Nat) : Int)
   ·refine ct s34 ((decide_eq_true_iff).2 hc4) ?_
    refine wp_skip ?_; refine tn hK13 ?_; refine sq fun hK14 => ?_; refine wp_block ?_; refine sq fun hK15 => ?_; have hltj : j < a.l.length := by omega
    obtain ⟨cl, hcl⟩ := at_some hltj; obtain ⟨bcl, ocl, Acl, ecl⟩ := r1.elem hcl
    refine ro [yV _, yV (.agg #[.int .i64 cl.c, .int .i64 cl.r, .int .u8 cl.v.k, .int .i64 cl.v.n, .string ⟨cl.v.t.toArray⟩]), yNew fw.heap.size (.cells #[.int .i64 0, .int .i64 0, .int .u8 0, .int .i64 0, .string ⟨[].toArray⟩] 46 (0, 0))] 3 60 z q ow (
      aS (fun hk bs hd => xplaceK 5 Tryz.underlying35 (by kernel_rfl) rfl Acl (bg bs s31) (bg bs s33) hltj) rfl <|
      aS (fun hk bs hd => xpartK (n := 5) 0 rfl (by kernel_rfl) (by kernel_rfl) (dp hd 0 rfl) rfl (ecl.kept (hB.trans (ow.keep hk).kept))) rfl <|
      aP (fun hk bs hd => xalloc rfl (by kernel_rfl)) rfl <|
      arm0) fun fa fw bs hv ap z q ov => ?_
    obtain ⟨s0, s8, s9, s10, s31, s32, s33⟩ := b7 bs s0 s8 s9 s10 s31 s32 s33; have s36 := gv hv 1 rfl rfl; obtain ⟨gb3, s7, bgb3, hgb3⟩ := gotP hv 2 rfl rfl rfl; have ov := ov.cons hgb3 (Nat.le_trans ow.kept.size bgb3) (ow.below bgb3); have ow := ov; refine ws ow 0 0 s7 s36 fun fw ow => ?_; refine wt hK15 ?_; refine sq fun hK16 => ?_; refine sq fun hK17 => ?_
    refine ro [yV (.pointer (some ⟨gb3, 2, none⟩)), yV (.pointer (some ⟨gb3, 2, none⟩)), yV _, yV _, yV _, yIf _ (yV (.pointer (some ⟨gb3, 2, none⟩))), yIf _ (yV (.pointer (some ⟨gb3, 2, none⟩))), yIf _ (yV _), yIf _ (yV _), yV _] 10 60 z q ow (
      aS (fun hk bs hd => xfieldAddr rfl (bg bs s7) (by kernel_rfl)) rfl <|
      aS (fun hk bs hd => xfieldAddr rfl (dp hd 0 rfl) (by kernel_rfl)) rfl <|
      aS (fun hk bs hd => xloadB rfl (by kernel_rfl) (dp hd 1 rfl) ((ow.keep hk).box 0 rfl) rfl) rfl <|
      aS (fun hk bs hd => xnei rfl (dp hd 2 rfl) rfl) rfl <|
      mvD 3 rfl rfl rfl rfl rfl rfl <|
      ai (g1 4 rfl rfl) (fun hk bs hd hz => xfieldAddr rfl (bg bs s7) (by kernel_rfl)) rfl <|
      ai (g1 4 rfl rfl) (fun hk bs hd hz => xfieldAddr rfl (di hd 5 rfl hz) (by kernel_rfl)) rfl <|
      ai (g1 4 rfl rfl) (fun hk bs hd hz => xloadB rfl (by kernel_rfl) (di hd 6 rfl hz) ((ow.keep hk).box 0 rfl) rfl) rfl <|
      ai (g1 4 rfl rfl) (fun hk bs hd hz => xnei rfl (di hd 7 rfl hz) rfl) rfl <|
      aS (fun hk bs hd => xand rfl (dp hd 4 rfl) (fun hb => di hd 8 rfl hb) rfl) rfl <|
      arm0) fun fa fw bs hv ap z q ow => ?_
    obtain ⟨s0, s8, s9, s10, s31, s32, s33, s7⟩ := b8 bs s0 s8 s9 s10 s31 s32 s33 s7; have s46 := gv hv 9 rfl rfl; refine wt hK17 ?_
    by_cases hc5 : ((cl.v.k : Int) ≠ (1 : Int)) ∧ ((cl.v.k : Int) ≠ (4 : Int))
    ·refine ct s46 ((band (decide_eq_true_iff) (decide_eq_true_iff)).2 hc5) ?_
     have hkn : ¬ (cl.v.k = 1 ∨ cl.v.k = 4) := by have := hc5; omega
     refine wp_exit ?_; refine then_e ?_; refine block_hit ?_; refine tn hK14 ?_
     refine ro [yV (.int .i64 ((j + 1 : Nat) : Int))] 1 60 z q ow (
       aS (fun hk bs hd => xadd (Or.inl rfl) rfl (bg bs s33) rfl (by omega) (by omega)) rfl <|
       arm0) fun fa fw bs hv ap z q ow => ?_
     obtain ⟨s0, s8, s9, s10, s31, s32, s33⟩ := b7 bs s0 s8 s9 s10 s31 s32 s33; have s58 := gv hv 0 rfl rfl; refine wl_value (v := .int .i64 ((j + 1 : Nat) : Int)) (want0 rfl) (xmove rfl s58) ?_; refine gp6 z q ow s0 s8 s9 s10 s31 s32 fun fa fw z q ow s0 s8 s9 s10 s31 s32 s33 => ?_; refine wl_end ?_; exact then_n ⟨(j + 1), ⟨qre, wc, hltj, hB, hj, (by rw [← hqr, numE_miss hcl hkn]), hqf, z, q, ow.tail, s0, s8, s9, s10, s31, s32, s33⟩, (show a.l.length - (j + 1) < a.l.length - j by omega)⟩
    refine cf s46 (band (decide_eq_true_iff) (decide_eq_true_iff)) hc5 ?_; have hkk : cl.v.k = 1 ∨ cl.v.k = 4 := by have := hc5; omega
    refine wp_skip ?_; refine tn hK16 ?_; refine sq fun hK18 => ?_; have hs10 : qre ++ (cl.v :: (numE (a.l.drop (j + 1)) ++ seq16 (l.drop (k + 1)))) = seq16 l := by rw [← hqr, numE_hit hcl hkk]; rfl
    have hy := hY qre (cl.v) _ (abides_kept hJ hj ow.kept) (lt_of_split hs10); refine (wpIn_wide (n := n + 1)).1 (wpIn_region_lit ?_); refine yl_value (v := .func (.yield lp) #[] #[]) (want0 rfl) (xmove rfl s0) ?_; refine yl_value (v := .pointer (some ⟨gb3, 2, none⟩)) (want0 rfl) (xfieldAddr rfl (pb 47 s7 rfl) (by kernel_rfl)) ?_; refine yl_value (v := aggV cl.v) (want0 rfl) (xloadN 3 (vs := [.int .u8 cl.v.k, .int .i64 cl.v.n, .string ⟨cl.v.t.toArray⟩]) rfl (by kernel_rfl) (by kernel_rfl) (put_in (t := 48) (put_size z) rfl) (ow.box 0 rfl) (Nat.le_of_ble_eq_true rfl) rfl) ?_; refine yl_round (want0 rfl) (xyield rfl (pb 49 (pb 48 (put_in (t := 47) z rfl) rfl) rfl) (put_in (t := 49) (put_size (put_size z)) rfl)) hy ?_; have hbb := ow.box 0 rfl; have hB2 := hB.trans ow.kept; rintro e wd (⟨rfl, hj, hk⟩ | ⟨rfl, hjx⟩)
    ·skip
     refine ⟨_, rfl, ?_⟩; have hB := Below.trans hB2 hk.1; have hbb := hk.box hbb (by decide) (by decide); have ow := Own.start wd; refine gy9 (put_size (put_size (put_size (put_size z)))) (put_def (put_def (put_def (put_def q)))) ow 0 (pb 50 (pb 49 (pb 48 (pb 47 s0 rfl) rfl) rfl) rfl) 8 (pb 50 (pb 49 (pb 48 (pb 47 s8 rfl) rfl) rfl) rfl) 9 (pb 50 (pb 49 (pb 48 (pb 47 s9 rfl) rfl) rfl) rfl) 10 (pb 50 (pb 49 (pb 48 (pb 47 s10 rfl) rfl) rfl) rfl) 31 (pb 50 (pb 49 (pb 48 (pb 47 s31 rfl) rfl) rfl) rfl) 32 (pb 50 (pb 49 (pb 48 (pb 47 s32 rfl) rfl) rfl) rfl) 33 (pb 50 (pb 49 (pb 48 (pb 47 s33 rfl) rfl) rfl) rfl) 7 (pb 50 (pb 49 (pb 48 (pb 47 s7 rfl) rfl) rfl) rfl) 50 (put_in (t := 50) (put_size (put_size (put_size z))) rfl) fun fa fw z q ow s0 s8 s9 s10 s31 s32 s33 s7 s50 => ?_; refine yl_value (v := .bool false) (want0 rfl) (xnot rfl s50) ?_; refine yl_value (v := .bool false) (want0 rfl) (xmove rfl (put_in (t := 51) z rfl)) ?_; refine yl_value (v := .pointer (some ⟨gb3, 2, none⟩)) (want1 (j := 5) (b := false) rfl (put_in (t := 52) (put_size z) rfl)) (xfieldAddr rfl (pb 52 (pb 51 s7 rfl) rfl) (by kernel_rfl)) ?_; refine gy9 (put_size (put_size (put_size z))) (put_def (put_def (put_def q))) ow 0 (pb 53 (pb 52 (pb 51 s0 rfl) rfl) rfl) 8 (pb 53 (pb 52 (pb 51 s8 rfl) rfl) rfl) 9 (pb 53 (pb 52 (pb 51 s9 rfl) rfl) rfl) 10 (pb 53 (pb 52 (pb 51 s10 rfl) rfl) rfl) 31 (pb 53 (pb 52 (pb 51 s31 rfl) rfl) rfl) 32 (pb 53 (pb 52 (pb 51 s32 rfl) rfl) rfl) 33 (pb 53 (pb 52 (pb 51 s33 rfl) rfl) rfl) 52 (pb 53 (put_in (t := 52) (put_size z) rfl) rfl) 53 (put_in (t := 53) (put_size (put_size z)) rfl) fun fa fw z q ow s0 s8 s9 s10 s31 s32 s33 s52 s53 => ?_
     refine yl_value (v := .pointer (some ⟨gb3, 2, none⟩)) (want1 (j := 5) (b := false) rfl (s52)) (xfieldAddr rfl s53 (by kernel_rfl)) ?_; refine yl_value (v := .int .u8 cl.v.k) (want1 (j := 5) (b := false) rfl (pb 54 s52 rfl)) (xloadB rfl (by kernel_rfl) (put_in (t := 54) z rfl) (Box.kept16 hbb ow.kept) rfl) ?_; refine yl_value (v := .bool (decide ((cl.v.k : Int) = (4 : Int)))) (want1 (j := 5) (b := false) rfl (pb 55 (pb 54 s52 rfl) rfl)) (xeqi rfl (put_in (t := 55) (put_size z) rfl) rfl) ?_; refine gy9 (put_size (put_size (put_size z))) (put_def (put_def (put_def q))) ow 0 (pb 56 (pb 55 (pb 54 s0 rfl) rfl) rfl) 8 (pb 56 (pb 55 (pb 54 s8 rfl) rfl) rfl) 9 (pb 56 (pb 55 (pb 54 s9 rfl) rfl) rfl) 10 (pb 56 (pb 55 (pb 54 s10 rfl) rfl) rfl) 31 (pb 56 (pb 55 (pb 54 s31 rfl) rfl) rfl) 32 (pb 56 (pb 55 (pb 54 s32 rfl) rfl) rfl) 33 (pb 56 (pb 55 (pb 54 s33 rfl) rfl) rfl) 52 (pb 56 (pb 55 (pb 54 s52 rfl) rfl) rfl) 56 (put_in (t := 56) (put_size (put_size z)) rfl) fun fa fw z q ow s0 s8 s9 s10 s31 s32 s33 s52 s56 => ?_; refine yl_value (v := .bool (decide ((cl.v.k : Int) = (4 : Int)))) (want0 rfl) (xpickF rfl s52 s56) ?_
     change wpList Tryz.prog #[] _ [] _ _
     refine gp7 z q ow s0 s8 s9 s10 s31 s32 s33 fun fa fw z q ow s0 s8 s9 s10 s31 s32 s33 s57 => ?_; refine wt hK18 ?_
     by_cases hc6 : (cl.v.k : Int) = (4 : Int)
     ·refine ct s57 ((decide_eq_true_iff).2 hc6) ?_
      refine wp_ret ?_; refine block_r ?_; refine then_r ?_; refine then_r ?_; refine block_r ?_; refine block_r ?_; refine then_r ?_; refine then_r ?_; refine block_r ?_; refine bodyPost_ret (results_none rfl _ _ _) q ?_; exact ⟨⟨_, rfl⟩, Or.inl ⟨_, (hs10 ▸ (upE_at hqf (ise_of hc6))).symm, abides_kept hJ hj ow.kept⟩⟩
     refine cf s57 (decide_eq_true_iff) hc6 ?_; refine wp_skip ?_; refine block_n ?_; refine tn hK14 ?_
     refine ro [yV (.int .i64 ((j + 1 : Nat) : Int))] 1 60 z q ow (
       aS (fun hk bs hd => xadd (Or.inl rfl) rfl (bg bs s33) rfl (by omega) (by omega)) rfl <|
       arm0) fun fa fw bs hv ap z q ow => ?_
     obtain ⟨s0, s8, s9, s10, s31, s32, s33⟩ := b7 bs s0 s8 s9 s10 s31 s32 s33; have s58 := gv hv 0 rfl rfl; refine wl_value (v := .int .i64 ((j + 1 : Nat) : Int)) (want0 rfl) (xmove rfl s58) ?_; refine gp6 z q ow s0 s8 s9 s10 s31 s32 fun fa fw z q ow s0 s8 s9 s10 s31 s32 s33 => ?_; refine wl_end ?_; exact then_n ⟨(j + 1), ⟨_, wd, hltj, hB, hj, ((List.append_assoc _ _ _).trans hs10), (fE_snoc hqf (ise_not hc6)), z, q, ow, s0, s8, s9, s10, s31, s32, s33⟩, (show a.l.length - (j + 1) < a.l.length - j by omega)⟩
    refine ⟨_, rfl, ?_⟩; have ow := Own.start wd; refine gy9 (put_size (put_size (put_size (put_size z)))) (put_def (put_def (put_def (put_def q)))) ow 0 (pb 50 (pb 49 (pb 48 (pb 47 s0 rfl) rfl) rfl) rfl) 8 (pb 50 (pb 49 (pb 48 (pb 47 s8 rfl) rfl) rfl) rfl) 9 (pb 50 (pb 49 (pb 48 (pb 47 s9 rfl) rfl) rfl) rfl) 10 (pb 50 (pb 49 (pb 48 (pb 47 s10 rfl) rfl) rfl) rfl) 31 (pb 50 (pb 49 (pb 48 (pb 47 s31 rfl) rfl) rfl) rfl) 32 (pb 50 (pb 49 (pb 48 (pb 47 s32 rfl) rfl) rfl) rfl) 33 (pb 50 (pb 49 (pb 48 (pb 47 s33 rfl) rfl) rfl) rfl) 7 (pb 50 (pb 49 (pb 48 (pb 47 s7 rfl) rfl) rfl) rfl) 50 (put_in (t := 50) (put_size (put_size (put_size z))) rfl) fun fa fw z q ow s0 s8 s9 s10 s31 s32 s33 s7 s50 => ?_; refine yl_value (v := .bool true) (want0 rfl) (xnot rfl s50) ?_; refine yl_value (v := .bool true) (want0 rfl) (xmove rfl (put_in (t := 51) z rfl)) ?_; refine yl_skip (wantN (j := 5) (b := false) (b' := true) rfl (put_in (t := 52) (put_size z) rfl) rfl) ?_; refine gy9 (put_size (put_size (put_size z))) (put_def (put_def (put_def q))) ow 0 (pb 53 (pb 52 (pb 51 s0 rfl) rfl) rfl) 8 (pb 53 (pb 52 (pb 51 s8 rfl) rfl) rfl) 9 (pb 53 (pb 52 (pb 51 s9 rfl) rfl) rfl) 10 (pb 53 (pb 52 (pb 51 s10 rfl) rfl) rfl) 31 (pb 53 (pb 52 (pb 51 s31 rfl) rfl) rfl) 32 (pb 53 (pb 52 (pb 51 s32 rfl) rfl) rfl) 33 (pb 53 (pb 52 (pb 51 s33 rfl) rfl) rfl) 52 (pb 53 (put_in (t := 52) (put_size z) rfl) rfl) 53 (put_in (t := 53) (put_size (put_size z)) rfl) fun fa fw z q ow s0 s8 s9 s10 s31 s32 s33 s52 s53 => ?_; refine yl_skip (wantN (j := 5) (b := false) (b' := true) rfl (s52) rfl) ?_
    refine yl_skip (wantN (j := 5) (b := false) (b' := true) rfl (pb 54 s52 rfl) rfl) ?_; refine yl_skip (wantN (j := 5) (b := false) (b' := true) rfl (pb 55 (pb 54 s52 rfl) rfl) rfl) ?_; refine gy9 (put_size (put_size (put_size z))) (put_def (put_def (put_def q))) ow 0 (pb 56 (pb 55 (pb 54 s0 rfl) rfl) rfl) 8 (pb 56 (pb 55 (pb 54 s8 rfl) rfl) rfl) 9 (pb 56 (pb 55 (pb 54 s9 rfl) rfl) rfl) 10 (pb 56 (pb 55 (pb 54 s10 rfl) rfl) rfl) 31 (pb 56 (pb 55 (pb 54 s31 rfl) rfl) rfl) 32 (pb 56 (pb 55 (pb 54 s32 rfl) rfl) rfl) 33 (pb 56 (pb 55 (pb 54 s33 rfl) rfl) rfl) 52 (pb 56 (pb 55 (pb 54 s52 rfl) rfl) rfl) 56 (put_in (t := 56) (put_size (put_size z)) rfl) fun fa fw z q ow s0 s8 s9 s10 s31 s32 s33 s52 s56 => ?_; refine yl_value (v := .bool true) (want0 rfl) (xpickT rfl s52 rfl) ?_
    change wpList Tryz.prog #[] _ [] _ _
    refine gp7 z q ow s0 s8 s9 s10 s31 s32 s33 fun fa fw z q ow s0 s8 s9 s10 s31 s32 s33 s57 => ?_; refine wt hK18 ?_; refine wp_cond_true (s57) ?_; refine wp_ret ?_; refine block_r ?_; refine then_r ?_; refine then_r ?_; refine block_r ?_; refine block_r ?_; refine then_r ?_; refine then_r ?_; refine block_r ?_; refine bodyPost_ret (results_none rfl _ _ _) q ?_; exact ⟨⟨_, rfl⟩, Or.inr ⟨_, pre_of_split hs10, abides_kept hJx hjx ow.kept⟩⟩
   refine cf s34 (decide_eq_true_iff) hc4 ?_; refine wp_exit ?_; refine then_e ?_; refine then_e ?_; refine block_hit ?_; refine block_n ?_; refine tn hK4 ?_
   refine ro [yV (.int .i64 ((k + 1 : Nat) : Int))] 1 60 z q ow (
     aS (fun hk bs hd => xadd (Or.inl rfl) rfl (bg bs s10) rfl (by omega) (by omega)) rfl <|
     arm0) fun fa fw bs hv ap z q ow => ?_
   obtain ⟨s0, s8, s9, s10⟩ := b4 bs s0 s8 s9 s10; have s59 := gv hv 0 rfl rfl; refine wl_value (v := .int .i64 ((k + 1 : Nat) : Int)) (want0 rfl) (xmove rfl s59) ?_; refine gp3 z q ow s0 s8 s9 fun fa fw z q ow s0 s8 s9 s10 => ?_; refine wl_end ?_; exact then_n ⟨(k + 1), ⟨qre, wc, hltk, hB, hj, (by rw [← hqr, numE_end (by omega)]; rfl), hqf, z, q, ow, s0, s8, s9, s10⟩, (show l.length - (k + 1) < l.length - k by omega)⟩
  refine cf s11 (decide_eq_true_iff) hc1 ?_; refine wp_exit ?_; refine then_e ?_; refine then_e ?_; refine block_hit ?_; refine bodyPost_end (results_none rfl _ _ _) q ?_; have hpn : pre = seq16 l := by rw [← hpre, List.drop_eq_nil_of_le (by omega)]; exact (List.append_nil _).symm
  exact ⟨⟨_, rfl⟩, Or.inl ⟨pre, by rw [hpn] at hfe ⊢; exact (upE_none hfe).symm, abides_kept hJ hj ow.kept⟩⟩
end Go.Proofs.YtbkjdcpfkepheaaGreatDoor
