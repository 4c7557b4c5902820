/- Layer 16: the iterator over the numbers of arguments (printed by wip/mkagg5.py). -/
import Derived.Test.YtbkjdcpfkepheaaGreatDoorVMixAS
set_option maxHeartbeats 4000000
namespace Go.Proofs.YtbkjdcpfkepheaaGreatDoor
section
set_option linter.unusedVariables false
set_option linter.unusedSimpArgs false
open Go.RowKit Lv
set_option maxRecDepth 100000
theorem tr {a : Act} {w : World} {o : Oper} {f : FuncId} {x : Operand} {u : Value} (ho : o.op = .makeFunc (.func f) #[] #[x]) (hx : a.eval x = u) : (execOp a.eval o).run Tryz.prog w = .ok (.value (.func (.func f) #[] #[u])) w := by
  unfold execOp; rw [ho]
  simp only [List.map_toArray, List.map_cons, List.map_nil, hx]
  go_simp
theorem gy7 {ops : Array Oper} {Q : Exit → Act → World → Prop} {rest : List Oper} {a : Act} {w : World} {n N : Nat} {w0 : World} {H : List Th} (z : a.tmps.size = N) (q : a.defers = []) (o : Own w0 H w) (t0 : Nat) {v0 : Value} (s0 : a.eval (.tmp t0) = v0) (t1 : Nat) {v1 : Value} (s1 : a.eval (.tmp t1) = v1) (t2 : Nat) {v2 : Value} (s2 : a.eval (.tmp t2) = v2) (t3 : Nat) {v3 : Value} (s3 : a.eval (.tmp t3) = v3) (t4 : Nat) {v4 : Value} (s4 : a.eval (.tmp t4) = v4) (t5 : Nat) {v5 : Value} (s5 : a.eval (.tmp t5) = v5) (t6 : Nat) {v6 : Value} (s6 : a.eval (.tmp t6) = v6) (h : ∀ (a : Act) (w : World), a.tmps.size = N → a.defers = [] → Own w0 H w → a.eval (.tmp t0) = v0 → a.eval (.tmp t1) = v1 → a.eval (.tmp t2) = v2 → a.eval (.tmp t3) = v3 → a.eval (.tmp t4) = v4 → a.eval (.tmp t5) = v5 → a.eval (.tmp t6) = v6 → wpListIn Fence.wide n Tryz.prog ops Q rest a w) : wpListIn Fence.wide n Tryz.prog ops Q rest a w := h a w z q o s0 s1 s2 s3 s4 s5 s6
theorem gy9 {ops : Array Oper} {Q : Exit → Act → World → Prop} {rest : List Oper} {a : Act} {w : World} {n N : Nat} {w0 : World} {H : List Th} (z : a.tmps.size = N) (q : a.defers = []) (o : Own w0 H w) (t0 : Nat) {v0 : Value} (s0 : a.eval (.tmp t0) = v0) (t1 : Nat) {v1 : Value} (s1 : a.eval (.tmp t1) = v1) (t2 : Nat) {v2 : Value} (s2 : a.eval (.tmp t2) = v2) (t3 : Nat) {v3 : Value} (s3 : a.eval (.tmp t3) = v3) (t4 : Nat) {v4 : Value} (s4 : a.eval (.tmp t4) = v4) (t5 : Nat) {v5 : Value} (s5 : a.eval (.tmp t5) = v5) (t6 : Nat) {v6 : Value} (s6 : a.eval (.tmp t6) = v6) (t7 : Nat) {v7 : Value} (s7 : a.eval (.tmp t7) = v7) (t8 : Nat) {v8 : Value} (s8 : a.eval (.tmp t8) = v8) (h : ∀ (a : Act) (w : World), a.tmps.size = N → a.defers = [] → Own w0 H w → a.eval (.tmp t0) = v0 → a.eval (.tmp t1) = v1 → a.eval (.tmp t2) = v2 → a.eval (.tmp t3) = v3 → a.eval (.tmp t4) = v4 → a.eval (.tmp t5) = v5 → a.eval (.tmp t6) = v6 → a.eval (.tmp t7) = v7 → a.eval (.tmp t8) = v8 → wpListIn Fence.wide n Tryz.prog ops Q rest a w) : wpListIn Fence.wide n Tryz.prog ops Q rest a w := h a w z q o s0 s1 s2 s3 s4 s5 s6 s7 s8
theorem en_val_ToNumber : En 122 := by intro args w; go_simp
theorem pg (A : Option Addr) (cap : Nat) (l : List Ar) (w : World) :
    Calls Tryz.prog 89 #[.slice A l.length cap] w fun e w' => ∃ g, e = .returned (.func (.func 121) #[] #[.pointer (some ⟨g, 0, none⟩)]) ∧ Box w' g 22 #[.slice A l.length cap] ∧ w.heap.size ≤ g ∧ Kept w w' := by
  go_enter Tryz.func89, Tryz.ntmps89
  refine rgx [bJ w.heap.size (.cells #[.slice A l.length cap] 22 (0, 0)), yV _] 2 4 rfl rfl (Own.start w) (
    ux (t := 0) rfl <|
    uq1 rfl rfl rfl <|
    ah) fun fa fw bs hv ap z q ov => ?_
  obtain ⟨gb1, s1, bgb1, hgb1⟩ := zn hv 0; have ov := ov.hc (Own.start w) bgb1 hgb1; have s2 := zh hv 1; have ow := ov
  refine rgx [yV _, yV _] 2 4 z q ow (
    aS (fun hk bs hd => tr rfl (bg bs s1)) rfl <|
    uq3 0 rfl rfl <|
    ah) fun fa fw bs hv ap z q ow => ?_
  have s2 := zh hv 1; refine wp_ret ?_; refine am rfl (ak s2) q ?_; exact ⟨_, rfl, (ow.box 0 rfl), ow.old _ List.mem_cons_self _ rfl, ow.kept⟩
theorem wm (A : Option Addr) (cap : Nat) (l : List Ar) (w w1 : World) (mx : Int) (HM : Mx w mx) (hr : ArgsAt w A l) (hs : ∀ a ∈ l, bI a) (hl : l.length ≤ 1000000) (hla : ∀ a ∈ l, a.l.length ≤ 1000000) (hB : Kept w w1) (bb : Nat) (hbx : Box w1 bb 22 #[.slice A l.length cap]) (n lp : Nat) (J Jx : List Vl → World → Prop) (hJ : AbidesFrom w1.heap.size J) (hJx : AbidesFrom w1.heap.size Jx) (hY : ∀ pre x u, J pre u → pre.length < (aF l).length → YieldAt Fence.wide n Tryz.prog lp #[al x] u fun e u' => (e = .returned (.bool true) ∧ J (pre ++ [x]) u' ∧ KeepsC w.heap.size u u') ∨ (e = .returned (.bool false) ∧ Jx (pre ++ [x]) u')) (h0 : J [] w1) :
    Calls Tryz.prog 121 #[.func (.yield lp) #[] #[], .pointer (some ⟨bb, 0, none⟩)] w1 fun e w' => (∃ v, e = .returned v) ∧ ((∃ xs, xs = upE (aF l) ∧ J xs w') ∨ (∃ pre, pre <+: aF l ∧ Jx pre w')) := by
  go_enter Tryz.func121, Tryz.ntmps121; refine sq fun hK1 => ?_
  refine rg [yV _, yV _, yV _] 3 60 rfl (
    aS (fun hk bs hd => iO rfl (by kernel_rfl) (bs.get 1 rfl rfl) (Box.kept16 hbx ((Own.start w1).keep hk).kept) rfl) rfl <|
    ua (rle Tryz.underlying22 (zd 0)) rfl <|
    ua (rmo zc) rfl <|
    ah) fun fa fw hk bs hv ap => ?_
  obtain ⟨z, q, ow⟩ := aft hk bs rfl rfl (Own.start w1); have s0 := bs.get 0 rfl rfl; have s8 := zh hv 0; have s9 := zh hv 1; have s10 := zh hv 2; refine wt hK1 ?_; refine wp_block ?_; refine bc (fun (k : Nat) fr u => ∃ (pre : List Vl), ∃ (wb : World), (k ≤ l.length) ∧ (Kept w wb) ∧ (J pre wb) ∧ (pre ++ aF (l.drop k) = aF l) ∧ (aN pre = none) ∧ fr.tmps.size = 60 ∧ fr.defers = [] ∧ Own wb [] u ∧ fr.eval (.tmp 0) = .func (.yield lp) #[] #[] ∧ fr.eval (.tmp 8) = .slice A l.length cap ∧ fr.eval (.tmp 9) = .int .i64 ((l.length : Nat) : Int) ∧ fr.eval (.tmp 10) = .int .i64 (k : Int)) (fun k => l.length - k) 0 ⟨[], w1, (Nat.zero_le _), hB, h0, rfl, rfl, z, q, ow, s0, s8, s9, s10⟩ (fun k b_ u_ hI => ?_)
  revert b_ u_; intro fa fw hI
  obtain ⟨pre, wb, hk0, hB, hj, hpre, hfe, z, q, ow, s0, s8, s9, s10⟩ := hI
  refine rgx [yV _] 1 60 z q ow (
    ua (rlt (zt s10) (zt s9)) rfl <|
    ah) fun fa fw bs hv ap z q ow => ?_
  obtain ⟨s0, s8, s9, s10⟩ := b4 bs s0 s8 s9 s10; have s11 := zh hv 0; refine sq fun hK3 => ?_
  by_cases hc1 : (k : Int) < ((l.length : Nat) : Int)
  ·refine ct s11 ((decide_eq_true_iff).2 hc1) ?_
   refine wp_skip ?_; refine tn hK3 ?_; refine sq fun hK4 => ?_; refine wp_block ?_; refine sq fun hK5 => ?_; have hltk : k < l.length := by omega
   obtain ⟨a, ha⟩ := bQ hltk; obtain ⟨ba, oa, A1, c1, Aa, ea, r1, l1⟩ := hr.elem ha; have hva := (hs a (List.mem_of_getElem? ha)).1; have hca := (hs a (List.mem_of_getElem? ha)).2; have hal := hla a (List.mem_of_getElem? ha)
   refine ro [yV _, yV (.agg #[.bool a.w, .int .u8 a.v.k, .int .i64 a.v.n, .string ⟨a.v.t.toArray⟩, .int .i64 a.x.c1, .int .i64 a.x.r1, .int .i64 a.x.c2, .int .i64 a.x.r2, .slice A1 a.l.length c1]), bJ fw.heap.size (.cells #[.bool false, .int .u8 0, .int .i64 0, .string ⟨[].toArray⟩, .int .i64 0, .int .i64 0, .int .i64 0, .int .i64 0, .slice none 0 0] 39 (0, 0))] 3 60 z q ow (
     ua (rpl 9 Tryz.underlying22 Aa (zt s8) (zt s10) hltk) rfl <|
     aS (fun hk bs hd => mi (n := 9) 0 rfl (by kernel_rfl) (by kernel_rfl) (dp hd 0 rfl) rfl (ea.kept (hB.trans (ow.keep hk).kept))) rfl <|
     uq4 <|
     ah) fun fa fw bs hv ap z q ov => ?_
   obtain ⟨s0, s8, s9, s10⟩ := b4 bs s0 s8 s9 s10; have s13 := zh hv 1; obtain ⟨gb1, s4, bgb1, hgb1⟩ := zn hv 2; have ov := ov.hc ow bgb1 hgb1; have ow := ov; refine ws ow 0 0 s4 s13 fun fw ow => ?_; refine wt hK5 ?_; refine sq fun hK6 => ?_
   refine rgx [yV (.pointer (some ⟨gb1, 0, none⟩)), yV _, yV _] 3 60 z q ow (
     ua (rfa (zt s4)) rfl <|
     ua (rlb ow 0 (zd 0)) rfl <|
     ua (rno (zd 1)) rfl <|
     ah) fun fa fw bs hv ap z q ow => ?_
   obtain ⟨s0, s8, s9, s10, s4⟩ := b5 bs s0 s8 s9 s10 s4; have s16 := zh hv 2
   by_cases hc2 : ¬ (a.w = true)
   ·refine ct s16 ((dX (Iff.rfl)).2 hc2) ?_
    have hw : a.w = false := by simpa using hc2
    refine sq fun hK8 => ?_; refine sq fun hK9 => ?_
    refine ro [yV (.pointer (some ⟨gb1, 1, none⟩)), yV (al a.v), yV (al (bB a.v)), bJ fw.heap.size (.cells #[.int .u8 0, .int .i64 0, .string ⟨[].toArray⟩] 25 (0, 0))] 4 60 z q ow (
      ua (rfa (zt s4)) rfl <|
      ua (rln 3 ow 0 (zd 0)) rfl <|
      uc (rc1 (zd 1) en_val_ToNumber) (fun hk => oh a.v _ mx (HM.kept (hB.trans (ow.keep hk).kept)) hva.1 hva.2) rfl <|
      uq4 <|
      ah) fun fa fw bs hv ap z q ov => ?_
    obtain ⟨s0, s8, s9, s10, s4⟩ := b5 bs s0 s8 s9 s10 s4; have s19 := zh hv 2; obtain ⟨gb2, s5, bgb2, hgb2⟩ := zn hv 3; have ov := ov.hc ow bgb2 hgb2; have ow := ov; refine ws ow 0 0 s5 s19 fun fw ow => ?_; refine wt hK9 ?_; refine sq fun hK10 => ?_; have hs5 : pre ++ (bB a.v :: aF (l.drop (k + 1))) = aF l := by rw [← hpre, zw ha, qm hw]; rfl
    have hy := hY pre (bB a.v) _ (dc hJ hj ow.kept) (kQ hs5); refine (wpIn_wide (n := n + 1)).1 (wpIn_region_lit ?_); refine bq (v := .func (.yield lp) #[] #[]) (ag rfl) (ce rfl s0) ?_; refine bq (v := al (bB a.v)) (ag rfl) (oe 3 (vs := [.int .u8 ((bB a.v).k), .int .i64 ((bB a.v).n), .string ⟨((bB a.v).t).toArray⟩]) rfl (by kernel_rfl) (by kernel_rfl) (pb 20 s5 rfl) (ow.box 0 rfl) (Nat.le_of_ble_eq_true rfl) rfl) ?_; refine rD (ag rfl) (zv rfl (pb 21 (af (t := 20) z rfl) rfl) (af (t := 21) (ab z) rfl)) hy ?_; have hbb := ow.box 0 rfl; have hB2 := hB.trans ow.kept; rintro e wd (⟨rfl, hj, hk⟩ | ⟨rfl, hjx⟩)
    ·skip
     refine ⟨_, rfl, ?_⟩; have hB := Below.trans hB2 hk.1; have hbb := hk.box hbb (by decide) (by decide); have ow := Own.start wd; refine gy7 (ab (ab (ab z))) (ac (ac (ac q))) ow 0 (pb 22 (pb 21 (pb 20 s0 rfl) rfl) rfl) 8 (pb 22 (pb 21 (pb 20 s8 rfl) rfl) rfl) 9 (pb 22 (pb 21 (pb 20 s9 rfl) rfl) rfl) 10 (pb 22 (pb 21 (pb 20 s10 rfl) rfl) rfl) 4 (pb 22 (pb 21 (pb 20 s4 rfl) rfl) rfl) 5 (pb 22 (pb 21 (pb 20 s5 rfl) rfl) rfl) 22 (af (t := 22) (ab (ab z)) rfl) fun fa fw z q ow s0 s8 s9 s10 s4 s5 s22 => ?_; refine bq (v := .bool false) (ag rfl) (B6 rfl s22) ?_; refine bq (v := .bool false) (ag rfl) (ce rfl (af (t := 23) z rfl)) ?_; refine bq (v := .pointer (some ⟨gb2, 0, none⟩)) (db (j := 4) (b := false) rfl (af (t := 24) (ab z) rfl)) (bH rfl (pb 24 (pb 23 s5 rfl) rfl) (by kernel_rfl)) ?_; refine gy7 (ab (ab (ab z))) (ac (ac (ac q))) ow 0 (pb 25 (pb 24 (pb 23 s0 rfl) rfl) rfl) 8 (pb 25 (pb 24 (pb 23 s8 rfl) rfl) rfl) 9 (pb 25 (pb 24 (pb 23 s9 rfl) rfl) rfl) 10 (pb 25 (pb 24 (pb 23 s10 rfl) rfl) rfl) 4 (pb 25 (pb 24 (pb 23 s4 rfl) rfl) rfl) 24 (pb 25 (af (t := 24) (ab z) rfl) rfl) 25 (af (t := 25) (ab (ab z)) rfl) fun fa fw z q ow s0 s8 s9 s10 s4 s24 s25 => ?_; refine bq (v := .int .u8 ((bB a.v).k)) (db (j := 4) (b := false) rfl (s24)) (iO rfl (by kernel_rfl) s25 (Box.kept16 hbb ow.kept) rfl) ?_; refine bq (v := .bool (decide (((bB a.v).k : Int) = (4 : Int)))) (db (j := 4) (b := false) rfl (pb 26 s24 rfl)) (C5 rfl (af (t := 26) z rfl) rfl) ?_
     refine bq (v := .bool (decide (((bB a.v).k : Int) = (4 : Int)))) (ag rfl) (uZ rfl (pb 27 (pb 26 s24 rfl) rfl) (af (t := 27) (ab z) rfl)) ?_
     change wpList Tryz.prog #[] _ [] _ _
     refine gt6 (ab (ab (ab z))) (ac (ac (ac q))) ow 0 (pb 28 (pb 27 (pb 26 s0 rfl) rfl) rfl) 8 (pb 28 (pb 27 (pb 26 s8 rfl) rfl) rfl) 9 (pb 28 (pb 27 (pb 26 s9 rfl) rfl) rfl) 10 (pb 28 (pb 27 (pb 26 s10 rfl) rfl) rfl) 4 (pb 28 (pb 27 (pb 26 s4 rfl) rfl) rfl) 28 (af (t := 28) (ab (ab z)) rfl) fun fa fw z q ow s0 s8 s9 s10 s4 s28 => ?_; refine wt hK10 ?_
     by_cases hc3 : ((bB a.v).k : Int) = (4 : Int)
     ·refine ct s28 ((decide_eq_true_iff).2 hc3) ?_
      refine wp_ret ?_; refine ao ?_; refine ao ?_; refine aD ?_; refine ao ?_; refine ao ?_; refine aD ?_; refine bodyPost_ret (results_none rfl _ _ _) q ?_; exact ⟨⟨_, rfl⟩, Or.inl ⟨_, (hs5 ▸ (vJ hfe (rF hc3))).symm, dc hJ hj ow.kept⟩⟩
     refine cf s28 (decide_eq_true_iff) hc3 ?_; refine wp_skip ?_; refine tn hK8 ?_; refine wp_exit ?_; refine aX ?_; refine aP ?_; refine tn hK4 ?_
     refine ro [yV (.int .i64 ((k + 1 : Nat) : Int))] 1 60 z q ow (
       ua (rad (zt s10) zc) rfl <|
       ah) fun fa fw bs hv ap z q ow => ?_
     obtain ⟨s0, s8, s9, s10⟩ := b4 bs s0 s8 s9 s10; have s59 := zh hv 0; refine ae (v := .int .i64 ((k + 1 : Nat) : Int)) (ag rfl) (ce rfl s59) ?_; refine gp3 z q ow s0 s8 s9 fun fa fw z q ow s0 s8 s9 s10 => ?_; refine bp ?_; exact bK ⟨(k + 1), ⟨_, wd, hltk, hB, hj, ((List.append_assoc _ _ _).trans hs5), (kP hfe (mQ hc3)), z, q, ow, s0, s8, s9, s10⟩, (show l.length - (k + 1) < l.length - k by omega)⟩
    refine ⟨_, rfl, ?_⟩; have ow := Own.start wd; refine gy7 (ab (ab (ab z))) (ac (ac (ac q))) ow 0 (pb 22 (pb 21 (pb 20 s0 rfl) rfl) rfl) 8 (pb 22 (pb 21 (pb 20 s8 rfl) rfl) rfl) 9 (pb 22 (pb 21 (pb 20 s9 rfl) rfl) rfl) 10 (pb 22 (pb 21 (pb 20 s10 rfl) rfl) rfl) 4 (pb 22 (pb 21 (pb 20 s4 rfl) rfl) rfl) 5 (pb 22 (pb 21 (pb 20 s5 rfl) rfl) rfl) 22 (af (t := 22) (ab (ab z)) rfl) fun fa fw z q ow s0 s8 s9 s10 s4 s5 s22 => ?_; refine bq (v := .bool true) (ag rfl) (B6 rfl s22) ?_; refine bq (v := .bool true) (ag rfl) (ce rfl (af (t := 23) z rfl)) ?_; refine iw (mG (j := 4) (b := false) (b' := true) rfl (af (t := 24) (ab z) rfl) rfl) ?_; refine gy7 (ab (ab (ab z))) (ac (ac (ac q))) ow 0 (pb 25 (pb 24 (pb 23 s0 rfl) rfl) rfl) 8 (pb 25 (pb 24 (pb 23 s8 rfl) rfl) rfl) 9 (pb 25 (pb 24 (pb 23 s9 rfl) rfl) rfl) 10 (pb 25 (pb 24 (pb 23 s10 rfl) rfl) rfl) 4 (pb 25 (pb 24 (pb 23 s4 rfl) rfl) rfl) 24 (pb 25 (af (t := 24) (ab z) rfl) rfl) 25 (af (t := 25) (ab (ab z)) rfl) fun fa fw z q ow s0 s8 s9 s10 s4 s24 s25 => ?_; refine iw (mG (j := 4) (b := false) (b' := true) rfl (s24) rfl) ?_; refine iw (mG (j := 4) (b := false) (b' := true) rfl (pb 26 s24 rfl) rfl) ?_; refine bq (v := .bool true) (ag rfl) (uY rfl (pb 27 (pb 26 s24 rfl) rfl) rfl) ?_
    change wpList Tryz.prog #[] _ [] _ _
    refine gt6 (ab (ab (ab z))) (ac (ac (ac q))) ow 0 (pb 28 (pb 27 (pb 26 s0 rfl) rfl) rfl) 8 (pb 28 (pb 27 (pb 26 s8 rfl) rfl) rfl) 9 (pb 28 (pb 27 (pb 26 s9 rfl) rfl) rfl) 10 (pb 28 (pb 27 (pb 26 s10 rfl) rfl) rfl) 4 (pb 28 (pb 27 (pb 26 s4 rfl) rfl) rfl) 28 (af (t := 28) (ab (ab z)) rfl) fun fa fw z q ow s0 s8 s9 s10 s4 s28 => ?_; refine wt hK10 ?_; refine wp_cond_true (s28) ?_; refine wp_ret ?_; refine ao ?_; refine ao ?_; refine aD ?_; refine ao ?_; refine ao ?_; refine aD ?_; refine bodyPost_ret (results_none rfl _ _ _) q ?_; exact ⟨⟨_, rfl⟩, Or.inr ⟨_, jL hs5, dc hJx hjx ow.kept⟩⟩
   refine cf s16 (dX (Iff.rfl)) hc2 ?_; have hw : a.w = true := by simpa using hc2
   refine wp_skip ?_; refine tn hK6 ?_
   refine rgx [yV (.pointer (some ⟨gb1, 4, none⟩)), yV (.pointer (some ⟨gb1, 8, none⟩)), yV _, yV _, yV _] 5 60 z q ow (
     ua (rfa (zt s4)) rfl <|
     ua (rfa (zd 0)) rfl <|
     ua (rlb ow 0 (zd 1)) rfl <|
     ua (rle Tryz.underlying35 (zd 2)) rfl <|
     ua (rmo zc) rfl <|
     ah) fun fa fw bs hv ap z q ow => ?_
   obtain ⟨s0, s8, s9, s10⟩ := b4 bs s0 s8 s9 s10; have s31 := zh hv 2; have s32 := zh hv 3; have s33 := zh hv 4; refine wp_block ?_; refine bc (fun (j : Nat) fr u => ∃ (qre : List Vl), ∃ (wc : World), (j ≤ a.l.length) ∧ (Kept w wc) ∧ (J qre wc) ∧ (qre ++ (eE (a.l.drop j) ++ aF (l.drop (k + 1))) = aF l) ∧ (aN qre = none) ∧ fr.tmps.size = 60 ∧ fr.defers = [] ∧ Own wc [] u ∧ fr.eval (.tmp 0) = .func (.yield lp) #[] #[] ∧ fr.eval (.tmp 8) = .slice A l.length cap ∧ fr.eval (.tmp 9) = .int .i64 ((l.length : Nat) : Int) ∧ fr.eval (.tmp 10) = .int .i64 (k : Int) ∧ fr.eval (.tmp 31) = .slice A1 a.l.length c1 ∧ fr.eval (.tmp 32) = .int .i64 ((a.l.length : Nat) : Int) ∧ fr.eval (.tmp 33) = .int .i64 (j : Int)) (fun j => a.l.length - j) 0 ⟨pre, wb, (Nat.zero_le _), hB, hj, (by rw [List.drop_zero, ← ke hw, ← hpre, zw ha]), hfe, z, q, ow.tail, s0, s8, s9, s10, s31, s32, s33⟩ (fun j b_ u_ hI => ?_)
   revert b_ u_; intro fa fw hI
   obtain ⟨qre, wc, hj0, hB, hj, hqr, hqf, z, q, ow, s0, s8, s9, s10, s31, s32, s33⟩ := hI
   refine rgx [yV _] 1 60 z q ow (
     ua (rlt (zt s33) (zt s32)) rfl <|
     ah) fun fa fw bs hv ap z q ow => ?_
   obtain ⟨s0, s8, s9, s10, s31, s32, s33⟩ := b7 bs s0 s8 s9 s10 s31 s32 s33; have s34 := zh hv 0; refine sq fun hK13 => ?_
   by_cases hc4 : (j : Int) < ((a.l.length : Nat) : Int)
   ·refine ct s34 ((decide_eq_true_iff).2 hc4) ?_
    refine wp_skip ?_; refine tn hK13 ?_; refine sq fun hK14 => ?_; refine wp_block ?_; refine sq fun hK15 => ?_; have hltj : j < a.l.length := by omega
    obtain ⟨cl, hcl⟩ := bQ hltj; obtain ⟨bcl, ocl, Acl, ecl⟩ := r1.elem hcl
    refine ro [yV _, yV (.agg #[.int .i64 cl.c, .int .i64 cl.r, .int .u8 cl.v.k, .int .i64 cl.v.n, .string ⟨cl.v.t.toArray⟩]), bJ fw.heap.size (.cells #[.int .i64 0, .int .i64 0, .int .u8 0, .int .i64 0, .string ⟨[].toArray⟩] 46 (0, 0))] 3 60 z q ow (
      ua (rpl 5 Tryz.underlying35 Acl (zt s31) (zt s33) hltj) rfl <|
      aS (fun hk bs hd => mi (n := 5) 0 rfl (by kernel_rfl) (by kernel_rfl) (dp hd 0 rfl) rfl (ecl.kept (hB.trans (ow.keep hk).kept))) rfl <|
      uq4 <|
      ah) fun fa fw bs hv ap z q ov => ?_
    obtain ⟨s0, s8, s9, s10, s31, s32, s33⟩ := b7 bs s0 s8 s9 s10 s31 s32 s33; have s36 := zh hv 1; obtain ⟨gb3, s7, bgb3, hgb3⟩ := zn hv 2; have ov := ov.hc ow bgb3 hgb3; have ow := ov; refine ws ow 0 0 s7 s36 fun fw ow => ?_; refine wt hK15 ?_; refine sq fun hK16 => ?_
    refine rgx [yV (.pointer (some ⟨gb3, 2, none⟩)), yV (.pointer (some ⟨gb3, 2, none⟩)), yV _, yV _, yV _, yIf _ (yV (.pointer (some ⟨gb3, 2, none⟩))), yIf _ (yV (.pointer (some ⟨gb3, 2, none⟩))), yIf _ (yV _), yIf _ (yV _), yV _] 10 60 z q ow (
      ua (rfa (zt s7)) rfl <|
      ua (rfa (zd 0)) rfl <|
      ua (rlb ow 0 (zd 1)) rfl <|
      ua (rne (zd 2) zc) rfl <|
      uq2 3 rfl rfl <|
      ui (gd1 4) (rfa (zt s7)) rfl <|
      ui (gd1 4) (rfa (zi 5)) rfl <|
      ui (gd1 4) (rlb ow 0 (zi 6)) rfl <|
      ui (gd1 4) (rne (zi 7) zc) rfl <|
      ua (ran (zd 4) (zi 8)) rfl <|
      ah) fun fa fw bs hv ap z q ow => ?_
    obtain ⟨s0, s8, s9, s10, s31, s32, s33, s7⟩ := b8 bs s0 s8 s9 s10 s31 s32 s33 s7; have s46 := zh hv 9
    by_cases hc5 : ((cl.v.k : Int) ≠ (1 : Int)) ∧ ((cl.v.k : Int) ≠ (4 : Int))
    ·refine ct s46 ((lV (decide_eq_true_iff) (decide_eq_true_iff)).2 hc5) ?_
     have hkn : ¬ (cl.v.k = 1 ∨ cl.v.k = 4) := by have := hc5; omega
     refine wp_exit ?_; refine aX ?_; refine aP ?_; refine tn hK14 ?_
     refine ro [yV (.int .i64 ((j + 1 : Nat) : Int))] 1 60 z q ow (
       ua (rad (zt s33) zc) rfl <|
       ah) fun fa fw bs hv ap z q ow => ?_
     obtain ⟨s0, s8, s9, s10, s31, s32, s33⟩ := b7 bs s0 s8 s9 s10 s31 s32 s33; have s58 := zh hv 0; refine ae (v := .int .i64 ((j + 1 : Nat) : Int)) (ag rfl) (ce rfl s58) ?_; refine gp6 z q ow s0 s8 s9 s10 s31 s32 fun fa fw z q ow s0 s8 s9 s10 s31 s32 s33 => ?_; refine bp ?_; exact bK ⟨(j + 1), ⟨qre, wc, hltj, hB, hj, (by rw [← hqr, vK hcl hkn]), hqf, z, q, ow.tail, s0, s8, s9, s10, s31, s32, s33⟩, (show a.l.length - (j + 1) < a.l.length - j by omega)⟩
    refine cf s46 (lV (decide_eq_true_iff) (decide_eq_true_iff)) hc5 ?_; have hkk : cl.v.k = 1 ∨ cl.v.k = 4 := by have := hc5; omega
    refine wp_skip ?_; refine tn hK16 ?_; refine sq fun hK18 => ?_; have hs10 : qre ++ (cl.v :: (eE (a.l.drop (j + 1)) ++ aF (l.drop (k + 1)))) = aF l := by rw [← hqr, yj hcl hkk]; rfl
    have hy := hY qre (cl.v) _ (dc hJ hj ow.kept) (kQ hs10); refine (wpIn_wide (n := n + 1)).1 (wpIn_region_lit ?_); refine bq (v := .func (.yield lp) #[] #[]) (ag rfl) (ce rfl s0) ?_; refine bq (v := .pointer (some ⟨gb3, 2, none⟩)) (ag rfl) (bH rfl (pb 47 s7 rfl) (by kernel_rfl)) ?_; refine bq (v := al cl.v) (ag rfl) (oe 3 (vs := [.int .u8 cl.v.k, .int .i64 cl.v.n, .string ⟨cl.v.t.toArray⟩]) rfl (by kernel_rfl) (by kernel_rfl) (af (t := 48) (ab z) rfl) (ow.box 0 rfl) (Nat.le_of_ble_eq_true rfl) rfl) ?_; refine rD (ag rfl) (zv rfl (pb 49 (pb 48 (af (t := 47) z rfl) rfl) rfl) (af (t := 49) (ab (ab z)) rfl)) hy ?_; have hbb := ow.box 0 rfl; have hB2 := hB.trans ow.kept; rintro e wd (⟨rfl, hj, hk⟩ | ⟨rfl, hjx⟩)
    ·skip
     refine ⟨_, rfl, ?_⟩; have hB := Below.trans hB2 hk.1; have hbb := hk.box hbb (by decide) (by decide); have ow := Own.start wd; refine gy9 (ab (ab (ab (ab z)))) (ac (ac (ac (ac q)))) ow 0 (pb 50 (pb 49 (pb 48 (pb 47 s0 rfl) rfl) rfl) rfl) 8 (pb 50 (pb 49 (pb 48 (pb 47 s8 rfl) rfl) rfl) rfl) 9 (pb 50 (pb 49 (pb 48 (pb 47 s9 rfl) rfl) rfl) rfl) 10 (pb 50 (pb 49 (pb 48 (pb 47 s10 rfl) rfl) rfl) rfl) 31 (pb 50 (pb 49 (pb 48 (pb 47 s31 rfl) rfl) rfl) rfl) 32 (pb 50 (pb 49 (pb 48 (pb 47 s32 rfl) rfl) rfl) rfl) 33 (pb 50 (pb 49 (pb 48 (pb 47 s33 rfl) rfl) rfl) rfl) 7 (pb 50 (pb 49 (pb 48 (pb 47 s7 rfl) rfl) rfl) rfl) 50 (af (t := 50) (ab (ab (ab z))) rfl) fun fa fw z q ow s0 s8 s9 s10 s31 s32 s33 s7 s50 => ?_; refine bq (v := .bool false) (ag rfl) (B6 rfl s50) ?_; refine bq (v := .bool false) (ag rfl) (ce rfl (af (t := 51) z rfl)) ?_; refine bq (v := .pointer (some ⟨gb3, 2, none⟩)) (db (j := 5) (b := false) rfl (af (t := 52) (ab z) rfl)) (bH rfl (pb 52 (pb 51 s7 rfl) rfl) (by kernel_rfl)) ?_; refine gy9 (ab (ab (ab z))) (ac (ac (ac q))) ow 0 (pb 53 (pb 52 (pb 51 s0 rfl) rfl) rfl) 8 (pb 53 (pb 52 (pb 51 s8 rfl) rfl) rfl) 9 (pb 53 (pb 52 (pb 51 s9 rfl) rfl) rfl) 10 (pb 53 (pb 52 (pb 51 s10 rfl) rfl) rfl) 31 (pb 53 (pb 52 (pb 51 s31 rfl) rfl) rfl) 32 (pb 53 (pb 52 (pb 51 s32 rfl) rfl) rfl) 33 (pb 53 (pb 52 (pb 51 s33 rfl) rfl) rfl) 52 (pb 53 (af (t := 52) (ab z) rfl) rfl) 53 (af (t := 53) (ab (ab z)) rfl) fun fa fw z q ow s0 s8 s9 s10 s31 s32 s33 s52 s53 => ?_
     refine bq (v := .pointer (some ⟨gb3, 2, none⟩)) (db (j := 5) (b := false) rfl (s52)) (bH rfl s53 (by kernel_rfl)) ?_; refine bq (v := .int .u8 cl.v.k) (db (j := 5) (b := false) rfl (pb 54 s52 rfl)) (iO rfl (by kernel_rfl) (af (t := 54) z rfl) (Box.kept16 hbb ow.kept) rfl) ?_; refine bq (v := .bool (decide ((cl.v.k : Int) = (4 : Int)))) (db (j := 5) (b := false) rfl (pb 55 (pb 54 s52 rfl) rfl)) (C5 rfl (af (t := 55) (ab z) rfl) rfl) ?_; refine gy9 (ab (ab (ab z))) (ac (ac (ac q))) ow 0 (pb 56 (pb 55 (pb 54 s0 rfl) rfl) rfl) 8 (pb 56 (pb 55 (pb 54 s8 rfl) rfl) rfl) 9 (pb 56 (pb 55 (pb 54 s9 rfl) rfl) rfl) 10 (pb 56 (pb 55 (pb 54 s10 rfl) rfl) rfl) 31 (pb 56 (pb 55 (pb 54 s31 rfl) rfl) rfl) 32 (pb 56 (pb 55 (pb 54 s32 rfl) rfl) rfl) 33 (pb 56 (pb 55 (pb 54 s33 rfl) rfl) rfl) 52 (pb 56 (pb 55 (pb 54 s52 rfl) rfl) rfl) 56 (af (t := 56) (ab (ab z)) rfl) fun fa fw z q ow s0 s8 s9 s10 s31 s32 s33 s52 s56 => ?_; refine bq (v := .bool (decide ((cl.v.k : Int) = (4 : Int)))) (ag rfl) (uZ rfl s52 s56) ?_
     change wpList Tryz.prog #[] _ [] _ _
     refine gp7 z q ow s0 s8 s9 s10 s31 s32 s33 fun fa fw z q ow s0 s8 s9 s10 s31 s32 s33 s57 => ?_; refine wt hK18 ?_
     by_cases hc6 : (cl.v.k : Int) = (4 : Int)
     ·refine ct s57 ((decide_eq_true_iff).2 hc6) ?_
      refine wp_ret ?_; refine aD ?_; refine ao ?_; refine ao ?_; refine aD ?_; refine aD ?_; refine ao ?_; refine ao ?_; refine aD ?_; refine bodyPost_ret (results_none rfl _ _ _) q ?_; exact ⟨⟨_, rfl⟩, Or.inl ⟨_, (hs10 ▸ (vJ hqf (rF hc6))).symm, dc hJ hj ow.kept⟩⟩
     refine cf s57 (decide_eq_true_iff) hc6 ?_; refine wp_skip ?_; refine bn ?_; refine tn hK14 ?_
     refine ro [yV (.int .i64 ((j + 1 : Nat) : Int))] 1 60 z q ow (
       ua (rad (zt s33) zc) rfl <|
       ah) fun fa fw bs hv ap z q ow => ?_
     obtain ⟨s0, s8, s9, s10, s31, s32, s33⟩ := b7 bs s0 s8 s9 s10 s31 s32 s33; have s58 := zh hv 0; refine ae (v := .int .i64 ((j + 1 : Nat) : Int)) (ag rfl) (ce rfl s58) ?_; refine gp6 z q ow s0 s8 s9 s10 s31 s32 fun fa fw z q ow s0 s8 s9 s10 s31 s32 s33 => ?_; refine bp ?_; exact bK ⟨(j + 1), ⟨_, wd, hltj, hB, hj, ((List.append_assoc _ _ _).trans hs10), (kP hqf (mQ hc6)), z, q, ow, s0, s8, s9, s10, s31, s32, s33⟩, (show a.l.length - (j + 1) < a.l.length - j by omega)⟩
    refine ⟨_, rfl, ?_⟩; have ow := Own.start wd; refine gy9 (ab (ab (ab (ab z)))) (ac (ac (ac (ac q)))) ow 0 (pb 50 (pb 49 (pb 48 (pb 47 s0 rfl) rfl) rfl) rfl) 8 (pb 50 (pb 49 (pb 48 (pb 47 s8 rfl) rfl) rfl) rfl) 9 (pb 50 (pb 49 (pb 48 (pb 47 s9 rfl) rfl) rfl) rfl) 10 (pb 50 (pb 49 (pb 48 (pb 47 s10 rfl) rfl) rfl) rfl) 31 (pb 50 (pb 49 (pb 48 (pb 47 s31 rfl) rfl) rfl) rfl) 32 (pb 50 (pb 49 (pb 48 (pb 47 s32 rfl) rfl) rfl) rfl) 33 (pb 50 (pb 49 (pb 48 (pb 47 s33 rfl) rfl) rfl) rfl) 7 (pb 50 (pb 49 (pb 48 (pb 47 s7 rfl) rfl) rfl) rfl) 50 (af (t := 50) (ab (ab (ab z))) rfl) fun fa fw z q ow s0 s8 s9 s10 s31 s32 s33 s7 s50 => ?_; refine bq (v := .bool true) (ag rfl) (B6 rfl s50) ?_; refine bq (v := .bool true) (ag rfl) (ce rfl (af (t := 51) z rfl)) ?_; refine iw (mG (j := 5) (b := false) (b' := true) rfl (af (t := 52) (ab z) rfl) rfl) ?_; refine gy9 (ab (ab (ab z))) (ac (ac (ac q))) ow 0 (pb 53 (pb 52 (pb 51 s0 rfl) rfl) rfl) 8 (pb 53 (pb 52 (pb 51 s8 rfl) rfl) rfl) 9 (pb 53 (pb 52 (pb 51 s9 rfl) rfl) rfl) 10 (pb 53 (pb 52 (pb 51 s10 rfl) rfl) rfl) 31 (pb 53 (pb 52 (pb 51 s31 rfl) rfl) rfl) 32 (pb 53 (pb 52 (pb 51 s32 rfl) rfl) rfl) 33 (pb 53 (pb 52 (pb 51 s33 rfl) rfl) rfl) 52 (pb 53 (af (t := 52) (ab z) rfl) rfl) 53 (af (t := 53) (ab (ab z)) rfl) fun fa fw z q ow s0 s8 s9 s10 s31 s32 s33 s52 s53 => ?_; refine iw (mG (j := 5) (b := false) (b' := true) rfl (s52) rfl) ?_
    refine iw (mG (j := 5) (b := false) (b' := true) rfl (pb 54 s52 rfl) rfl) ?_; refine iw (mG (j := 5) (b := false) (b' := true) rfl (pb 55 (pb 54 s52 rfl) rfl) rfl) ?_; refine gy9 (ab (ab (ab z))) (ac (ac (ac q))) ow 0 (pb 56 (pb 55 (pb 54 s0 rfl) rfl) rfl) 8 (pb 56 (pb 55 (pb 54 s8 rfl) rfl) rfl) 9 (pb 56 (pb 55 (pb 54 s9 rfl) rfl) rfl) 10 (pb 56 (pb 55 (pb 54 s10 rfl) rfl) rfl) 31 (pb 56 (pb 55 (pb 54 s31 rfl) rfl) rfl) 32 (pb 56 (pb 55 (pb 54 s32 rfl) rfl) rfl) 33 (pb 56 (pb 55 (pb 54 s33 rfl) rfl) rfl) 52 (pb 56 (pb 55 (pb 54 s52 rfl) rfl) rfl) 56 (af (t := 56) (ab (ab z)) rfl) fun fa fw z q ow s0 s8 s9 s10 s31 s32 s33 s52 s56 => ?_; refine bq (v := .bool true) (ag rfl) (uY rfl s52 rfl) ?_
    change wpList Tryz.prog #[] _ [] _ _
    refine gp7 z q ow s0 s8 s9 s10 s31 s32 s33 fun fa fw z q ow s0 s8 s9 s10 s31 s32 s33 s57 => ?_; refine wt hK18 ?_; refine wp_cond_true (s57) ?_; refine wp_ret ?_; refine aD ?_; refine ao ?_; refine ao ?_; refine aD ?_; refine aD ?_; refine ao ?_; refine ao ?_; refine aD ?_; refine bodyPost_ret (results_none rfl _ _ _) q ?_; exact ⟨⟨_, rfl⟩, Or.inr ⟨_, jL hs10, dc hJx hjx ow.kept⟩⟩
   refine cf s34 (decide_eq_true_iff) hc4 ?_; refine wp_exit ?_; refine aX ?_; refine aX ?_; refine aP ?_; refine bn ?_; refine tn hK4 ?_
   refine ro [yV (.int .i64 ((k + 1 : Nat) : Int))] 1 60 z q ow (
     ua (rad (zt s10) zc) rfl <|
     ah) fun fa fw bs hv ap z q ow => ?_
   obtain ⟨s0, s8, s9, s10⟩ := b4 bs s0 s8 s9 s10; have s59 := zh hv 0; refine ae (v := .int .i64 ((k + 1 : Nat) : Int)) (ag rfl) (ce rfl s59) ?_; refine gp3 z q ow s0 s8 s9 fun fa fw z q ow s0 s8 s9 s10 => ?_; refine bp ?_; exact bK ⟨(k + 1), ⟨qre, wc, hltk, hB, hj, (by rw [← hqr, yk (by omega)]; rfl), hqf, z, q, ow, s0, s8, s9, s10⟩, (show l.length - (k + 1) < l.length - k by omega)⟩
  refine cf s11 (decide_eq_true_iff) hc1 ?_; refine wp_exit ?_; refine aX ?_; refine aX ?_; refine aP ?_; refine bodyPost_end (results_none rfl _ _ _) q ?_; have hpn : pre = aF l := by rw [← hpre, List.drop_eq_nil_of_le (by omega)]; exact (List.append_nil _).symm
  exact ⟨⟨_, rfl⟩, Or.inl ⟨pre, by rw [hpn] at hfe ⊢; exact (mP hfe).symm, dc hJ hj ow.kept⟩⟩
