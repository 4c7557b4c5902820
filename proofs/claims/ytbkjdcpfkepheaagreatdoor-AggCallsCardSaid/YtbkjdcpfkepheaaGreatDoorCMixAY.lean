/- Small texts together: GAgg5, GColl, GAgg7, GAgg8. -/
import Derived.Test.YtbkjdcpfkepheaaGreatDoorCMixAS
import Derived.Test.YtbkjdcpfkepheaaGreatDoorCMixAP
import Derived.Test.YtbkjdcpfkepheaaGreatDoorCMixAT
import Derived.Test.YtbkjdcpfkepheaaGreatDoorCMixAV
import Derived.MapKept
import Derived.WideMake
set_option linter.unusedVariables false
set_option linter.unusedSimpArgs false
set_option maxHeartbeats 8000000
namespace Go.Proofs.YtbkjdcpfkepheaaGreatDoor
section
open Go.RowKit Lv
set_option maxRecDepth 100000
theorem wM {a : Act} {w : World} {o : Oper} {f : FuncId} {x : Operand} {u : Value} (ho : o.op = .makeFunc (.func f) #[] #[x]) (hx : a.eval x = u) : (execOp a.eval o).run Tryz.prog w = .ok (.value (.func (.func f) #[] #[u])) w := by
  unfold execOp; rw [ho]
  simp only [List.map_toArray, List.map_cons, List.map_nil, hx]
  go_simp
theorem gy7 {ops : Array Oper} {Q : Exit → Act → World → Prop} {rest : List Oper} {a : Act} {w : World} {n N : Nat} {w0 : World} {H : List Th} (z : a.tmps.size = N) (q : a.defers = []) (o : Own w0 H w) (t0 : Nat) {v0 : Value} (s0 : a.eval (.tmp t0) = v0) (t1 : Nat) {v1 : Value} (s1 : a.eval (.tmp t1) = v1) (t2 : Nat) {v2 : Value} (s2 : a.eval (.tmp t2) = v2) (t3 : Nat) {v3 : Value} (s3 : a.eval (.tmp t3) = v3) (t4 : Nat) {v4 : Value} (s4 : a.eval (.tmp t4) = v4) (t5 : Nat) {v5 : Value} (s5 : a.eval (.tmp t5) = v5) (t6 : Nat) {v6 : Value} (s6 : a.eval (.tmp t6) = v6) (h : ∀ (a : Act) (w : World), a.tmps.size = N → a.defers = [] → Own w0 H w → a.eval (.tmp t0) = v0 → a.eval (.tmp t1) = v1 → a.eval (.tmp t2) = v2 → a.eval (.tmp t3) = v3 → a.eval (.tmp t4) = v4 → a.eval (.tmp t5) = v5 → a.eval (.tmp t6) = v6 → wpListIn Fence.wide n Tryz.prog ops Q rest a w) : wpListIn Fence.wide n Tryz.prog ops Q rest a w := h a w z q o s0 s1 s2 s3 s4 s5 s6
theorem gy9 {ops : Array Oper} {Q : Exit → Act → World → Prop} {rest : List Oper} {a : Act} {w : World} {n N : Nat} {w0 : World} {H : List Th} (z : a.tmps.size = N) (q : a.defers = []) (o : Own w0 H w) (t0 : Nat) {v0 : Value} (s0 : a.eval (.tmp t0) = v0) (t1 : Nat) {v1 : Value} (s1 : a.eval (.tmp t1) = v1) (t2 : Nat) {v2 : Value} (s2 : a.eval (.tmp t2) = v2) (t3 : Nat) {v3 : Value} (s3 : a.eval (.tmp t3) = v3) (t4 : Nat) {v4 : Value} (s4 : a.eval (.tmp t4) = v4) (t5 : Nat) {v5 : Value} (s5 : a.eval (.tmp t5) = v5) (t6 : Nat) {v6 : Value} (s6 : a.eval (.tmp t6) = v6) (t7 : Nat) {v7 : Value} (s7 : a.eval (.tmp t7) = v7) (t8 : Nat) {v8 : Value} (s8 : a.eval (.tmp t8) = v8) (h : ∀ (a : Act) (w : World), a.tmps.size = N → a.defers = [] → Own w0 H w → a.eval (.tmp t0) = v0 → a.eval (.tmp t1) = v1 → a.eval (.tmp t2) = v2 → a.eval (.tmp t3) = v3 → a.eval (.tmp t4) = v4 → a.eval (.tmp t5) = v5 → a.eval (.tmp t6) = v6 → a.eval (.tmp t7) = v7 → a.eval (.tmp t8) = v8 → wpListIn Fence.wide n Tryz.prog ops Q rest a w) : wpListIn Fence.wide n Tryz.prog ops Q rest a w := h a w z q o s0 s1 s2 s3 s4 s5 s6 s7 s8
theorem ra (A : Option Addr) (cap : Nat) (l : List Ar) (w : World) :
    Calls Tryz.prog 89 #[.slice A l.length cap] w fun e w' => ∃ g, e = .returned (.func (.func 121) #[] #[.pointer (some ⟨g, 0, none⟩)]) ∧ Box w' g 22 #[.slice A l.length cap] ∧ w.heap.size ≤ g ∧ Kept w w' := by
  go_enter Tryz.func89, Tryz.ntmps89; refine z00 4 [(0, .slice A l.length cap)] ?_; intro _ s; refine zr s 2 (zP (zB Z0 (.cells #[.slice A l.length cap] 22 (0, 0)))) ?_; intro gb1 _ fw s; refine zr s 2 (zP (zO Z0 fun cc => wM rfl cc.e)) ?_; intro _ fw s; refine wp_ret ?_; refine z1 s ?_; exact ⟨_, rfl, (s.o.box 0 rfl), s.o.old _ List.mem_cons_self _ rfl, s.o.kept⟩
theorem zR (A : Option Addr) (cap : Nat) (l : List Ar) (w w1 : World) (mx : Int) (HM : Mx w mx) (hr : ArgsAt w A l) (hs : ∀ a ∈ l, aY a) (hl : l.length ≤ 1000000) (hla : ∀ a ∈ l, a.l.length ≤ 1000000) (hB : Kept w w1) (bb : Nat) (hbx : Box w1 bb 22 #[.slice A l.length cap]) (n lp : Nat) (J Jx : List Vl → World → Prop) (hJ : AbidesFrom w1.heap.size J) (hJx : AbidesFrom w1.heap.size Jx) (hY : ∀ pre x u, J pre u → pre.length < (aH l).length → YieldAt Fence.wide n Tryz.prog lp #[ae x] u fun e u' => (e = .returned (.bool true) ∧ J (pre ++ [x]) u' ∧ KeepsC w.heap.size u u') ∨ (e = .returned (.bool false) ∧ Jx (pre ++ [x]) u')) (h0 : J [] w1) :
    Calls Tryz.prog 121 #[.func (.yield lp) #[] #[], .pointer (some ⟨bb, 0, none⟩)] w1 fun e w' => (∃ v, e = .returned v) ∧ ((∃ xs, xs = upE (aH l) ∧ J xs w') ∨ (∃ pre, pre <+: aH l ∧ Jx pre w')) := by
  go_enter Tryz.func121, Tryz.ntmps121; refine z00 60 [(0, .func (.yield lp) #[] #[]), (1, .pointer (some ⟨bb, 0, none⟩))] ?_; intro _ s; have s := s.ow (Own.start w1); refine zr s 3 (zP (zN (zO Z0 fun cc => dY rfl (by kernel_rfl) cc.e (Box.kept16 hbx cc.ow.kept) rfl))) ?_; intro _ fw s; refine wp_block ?_; refine aP (fun (k : Nat) fr u => ∃ (pre : List Vl), ∃ (wb : World), (k ≤ l.length) ∧ (Kept w wb) ∧ (J pre wb) ∧ (pre ++ aH (l.drop k) = aH l) ∧ (ax pre = none) ∧ Sg 60 wb [] [(0, .func (.yield lp) #[] #[]), (8, .slice A l.length cap), (9, .int .i64 ((l.length : Nat) : Int)), (10, .int .i64 (k : Int))] fr u) (fun k => l.length - k) 0 ⟨[], w1, (Nat.zero_le _), hB, h0, rfl, rfl, s.c⟩ (fun k b_ u_ hI => ?_)
  revert b_ u_; intro fa fw hI
  obtain ⟨pre, wb, hk0, hB, hj, hpre, hfe, s⟩ := hI; refine zr s 1 (zP Z0) ?_; intro _ fw s; refine sq fun hK1 => ?_; refine zi_ s ?_ ?_
  ·intro hc1
   refine wp_skip ?_; refine tn hK1 ?_; refine sq fun hK2 => ?_; refine wp_block ?_; have hltk : k < l.length := by omega
   obtain ⟨a, ha⟩ := bI hltk; obtain ⟨ba, oa, A1, c1, Aa, ea, r1, l1⟩ := hr.elem ha; have hva := (hs a (List.mem_of_getElem? ha)).1; have hca := (hs a (List.mem_of_getElem? ha)).2; have hal := hla a (List.mem_of_getElem? ha); refine zt_ s 3 (zV (zO (zO Z0 fun cc => al 9 Tryz.underlying22 (by kernel_rfl) rfl Aa cc.e cc.e hltk) (v := aA a (.slice A1 a.l.length c1)) fun cc => bf (n := 9) 0 rfl (by kernel_rfl) (by kernel_rfl) cc.e rfl (ea.kept (hB.trans cc.ow.kept))) (.cells #[.bool false, .int .u8 0, .int .i64 0, .string ⟨[].toArray⟩, .int .i64 0, .int .i64 0, .int .i64 0, .int .i64 0, .slice none 0 0] 39 (0, 0))) ?_; intro gb1 _ fw s K3 hK3; refine zS s 0 ?_; intro fw s; refine wt hK3 ?_; refine sq fun hK4 => ?_; refine zr s 3 (zP (zL (zF Z0 0) 0)) ?_; intro _ fw s; refine zb s (jc (Iff.rfl)) ?_ ?_
   ·intro hc2
    have hw : a.w = false := by simpa using hc2
    refine sq fun hK5 => ?_; refine zt_ s 4 (zV (zC (zA (zF Z0 1) (ae a.v) 3 0) fun cc => qn a.v _ mx (HM.kept (hB.trans cc.ow.kept)) hva.1 hva.2) oZ) ?_; intro gb2 _ fw s K6 hK6; refine zS s 0 ?_; intro fw s; refine wt hK6 ?_; refine sq fun hK7 => ?_; have hs5 : pre ++ (aL a.v :: aH (l.drop (k + 1))) = aH l := by rw [← hpre, DG ha, sJ hw]; rfl
    have hy := hY pre (aL a.v) _ (dE hJ hj s.o.kept) (mo hs5); refine (wpIn_wide (n := n + 1)).1 (wpIn_region_lit ?_); refine bB (v := .func (.yield lp) #[] #[]) (aC rfl) (fs rfl (s.g 0)) ?_; refine bB (v := ae (aL a.v)) (aC rfl) (nF 3 (vs := [.int .u8 ((aL a.v).k), .int .i64 ((aL a.v).n), .string ⟨((aL a.v).t).toArray⟩]) rfl (by kernel_rfl) (by kernel_rfl) (pb 20 (s.g 5) rfl) (s.o.box 0 rfl) (Nat.le_of_ble_eq_true rfl) rfl) ?_; refine uz (aC rfl) (DF rfl (pb 21 (bQ (t := 20) s.z rfl) rfl) (bQ (t := 21) (ah s.z) rfl)) hy ?_; have hbb := s.o.box 0 rfl; have hB2 := hB.trans s.o.kept; rintro e wd (⟨rfl, hj, hk⟩ | ⟨rfl, hjx⟩)
    ·skip
     refine ⟨_, rfl, ?_⟩; have hB := Below.trans hB2 hk.1; have hbb := hk.box hbb (by decide) (by decide); have ow := Own.start wd; refine gy7 (ah (ah (ah s.z))) (bj (bj (bj s.q))) ow 0 (pb 22 (pb 21 (pb 20 (s.g 0) rfl) rfl) rfl) 8 (pb 22 (pb 21 (pb 20 (s.g 8) rfl) rfl) rfl) 9 (pb 22 (pb 21 (pb 20 (s.g 9) rfl) rfl) rfl) 10 (pb 22 (pb 21 (pb 20 (s.g 10) rfl) rfl) rfl) 4 (pb 22 (pb 21 (pb 20 (s.g 4) rfl) rfl) rfl) 5 (pb 22 (pb 21 (pb 20 (s.g 5) rfl) rfl) rfl) 22 (bQ (t := 22) (ah (ah s.z)) rfl) fun fa fw z q ow s0 s8 s9 s10 s4 s5 s22 => ?_; refine bB (v := .bool false) (aC rfl) (F3 rfl s22) ?_; refine bB (v := .bool false) (aC rfl) (fs rfl (bQ (t := 23) z rfl)) ?_; refine bB (v := .pointer (some ⟨gb2, 0, none⟩)) (jP (j := 4) (b := false) rfl (bQ (t := 24) (ah z) rfl)) (aE rfl (pb 24 (pb 23 s5 rfl) rfl) (by kernel_rfl)) ?_; refine gy7 (ah (ah (ah z))) (bj (bj (bj q))) ow 0 (pb 25 (pb 24 (pb 23 s0 rfl) rfl) rfl) 8 (pb 25 (pb 24 (pb 23 s8 rfl) rfl) rfl) 9 (pb 25 (pb 24 (pb 23 s9 rfl) rfl) rfl) 10 (pb 25 (pb 24 (pb 23 s10 rfl) rfl) rfl) 4 (pb 25 (pb 24 (pb 23 s4 rfl) rfl) rfl) 24 (pb 25 (bQ (t := 24) (ah z) rfl) rfl) 25 (bQ (t := 25) (ah (ah z)) rfl) fun fa fw z q ow s0 s8 s9 s10 s4 s24 s25 => ?_; refine bB (v := .int .u8 ((aL a.v).k)) (jP (j := 4) (b := false) rfl (s24)) (dY rfl (by kernel_rfl) s25 (Box.kept16 hbb ow.kept) rfl) ?_
     refine bB (v := .bool (decide (((aL a.v).k : Int) = (4 : Int)))) (jP (j := 4) (b := false) rfl (pb 26 s24 rfl)) (Ik rfl (bQ (t := 26) z rfl) rfl) ?_; refine bB (v := .bool (decide (((aL a.v).k : Int) = (4 : Int)))) (aC rfl) (tY rfl (pb 27 (pb 26 s24 rfl) rfl) (bQ (t := 27) (ah z) rfl)) ?_
     change wpList Tryz.prog #[] _ [] _ _
     refine gt6 (ah (ah (ah z))) (bj (bj (bj q))) ow 0 (pb 28 (pb 27 (pb 26 s0 rfl) rfl) rfl) 8 (pb 28 (pb 27 (pb 26 s8 rfl) rfl) rfl) 9 (pb 28 (pb 27 (pb 26 s9 rfl) rfl) rfl) 10 (pb 28 (pb 27 (pb 26 s10 rfl) rfl) rfl) 4 (pb 28 (pb 27 (pb 26 s4 rfl) rfl) rfl) 28 (bQ (t := 28) (ah (ah z)) rfl) fun fa fw z q ow s0 s8 s9 s10 s4 s28 => ?_; refine wt hK7 ?_; have s := ((((((ix z q ow).i (t := 0) (v := .func (.yield lp) #[] #[]) s0).i (t := 8) (v := .slice A l.length cap) s8).i (t := 9) (v := .int .i64 ((l.length : Nat) : Int)) s9).i (t := 10) (v := .int .i64 (k : Int)) s10).i (t := 4) (v := .pointer (some ⟨gb1, 0, none⟩)) s4).i (t := 28) (v := .bool (decide (((aL a.v).k : Int) = (4 : Int)))) s28; refine zi_ s ?_ ?_
     ·intro hc3
      refine wp_ret ?_; refine ag ?_; refine ag ?_; refine ao ?_; refine ag ?_; refine ag ?_; refine ao ?_; refine bodyPost_ret (results_none rfl _ _ _) s.q ?_; exact ⟨⟨_, rfl⟩, Or.inl ⟨_, (hs5 ▸ (za hfe (uB hc3))).symm, dE hJ hj s.o.kept⟩⟩
     intro hc3; refine wp_skip ?_; refine tn hK5 ?_; refine wp_exit ?_; refine aM ?_; refine aD ?_; refine tn hK2 ?_; refine zu s 1 (by exact zAn Z0 k 1) ?_; intro _ fw s; refine zw s ?_; intro _ fw s; refine aN ?_; exact bg ⟨(k + 1), ⟨_, wd, hltk, hB, hj, ((List.append_assoc _ _ _).trans hs5), (mn hfe (oO hc3)), s.c⟩, (show l.length - (k + 1) < l.length - k by omega)⟩
    refine ⟨_, rfl, ?_⟩; have ow := Own.start wd; refine gy7 (ah (ah (ah s.z))) (bj (bj (bj s.q))) ow 0 (pb 22 (pb 21 (pb 20 (s.g 0) rfl) rfl) rfl) 8 (pb 22 (pb 21 (pb 20 (s.g 8) rfl) rfl) rfl) 9 (pb 22 (pb 21 (pb 20 (s.g 9) rfl) rfl) rfl) 10 (pb 22 (pb 21 (pb 20 (s.g 10) rfl) rfl) rfl) 4 (pb 22 (pb 21 (pb 20 (s.g 4) rfl) rfl) rfl) 5 (pb 22 (pb 21 (pb 20 (s.g 5) rfl) rfl) rfl) 22 (bQ (t := 22) (ah (ah s.z)) rfl) fun fa fw z q ow s0 s8 s9 s10 s4 s5 s22 => ?_; refine bB (v := .bool true) (aC rfl) (F3 rfl s22) ?_; refine bB (v := .bool true) (aC rfl) (fs rfl (bQ (t := 23) z rfl)) ?_; refine iX (ou (j := 4) (b := false) (b' := true) rfl (bQ (t := 24) (ah z) rfl) rfl) ?_; refine gy7 (ah (ah (ah z))) (bj (bj (bj q))) ow 0 (pb 25 (pb 24 (pb 23 s0 rfl) rfl) rfl) 8 (pb 25 (pb 24 (pb 23 s8 rfl) rfl) rfl) 9 (pb 25 (pb 24 (pb 23 s9 rfl) rfl) rfl) 10 (pb 25 (pb 24 (pb 23 s10 rfl) rfl) rfl) 4 (pb 25 (pb 24 (pb 23 s4 rfl) rfl) rfl) 24 (pb 25 (bQ (t := 24) (ah z) rfl) rfl) 25 (bQ (t := 25) (ah (ah z)) rfl) fun fa fw z q ow s0 s8 s9 s10 s4 s24 s25 => ?_; refine iX (ou (j := 4) (b := false) (b' := true) rfl (s24) rfl) ?_; refine iX (ou (j := 4) (b := false) (b' := true) rfl (pb 26 s24 rfl) rfl) ?_; refine bB (v := .bool true) (aC rfl) (cD rfl (pb 27 (pb 26 s24 rfl) rfl) rfl) ?_
    change wpList Tryz.prog #[] _ [] _ _
    refine gt6 (ah (ah (ah z))) (bj (bj (bj q))) ow 0 (pb 28 (pb 27 (pb 26 s0 rfl) rfl) rfl) 8 (pb 28 (pb 27 (pb 26 s8 rfl) rfl) rfl) 9 (pb 28 (pb 27 (pb 26 s9 rfl) rfl) rfl) 10 (pb 28 (pb 27 (pb 26 s10 rfl) rfl) rfl) 4 (pb 28 (pb 27 (pb 26 s4 rfl) rfl) rfl) 28 (bQ (t := 28) (ah (ah z)) rfl) fun fa fw z q ow s0 s8 s9 s10 s4 s28 => ?_; refine wt hK7 ?_; have s := ((((((ix z q ow).i (t := 0) (v := .func (.yield lp) #[] #[]) s0).i (t := 8) (v := .slice A l.length cap) s8).i (t := 9) (v := .int .i64 ((l.length : Nat) : Int)) s9).i (t := 10) (v := .int .i64 (k : Int)) s10).i (t := 4) (v := .pointer (some ⟨gb1, 0, none⟩)) s4).i (t := 28) (v := .bool true) s28; refine zy s ?_; refine wp_ret ?_; refine ag ?_; refine ag ?_; refine ao ?_; refine ag ?_; refine ag ?_; refine ao ?_; refine bodyPost_ret (results_none rfl _ _ _) s.q ?_; exact ⟨⟨_, rfl⟩, Or.inr ⟨_, kO hs5, dE hJx hjx s.o.kept⟩⟩
   intro hc2; have hw : a.w = true := by simpa using hc2
   refine wp_skip ?_; refine tn hK4 ?_; refine zr s 5 (zP (zN (zL (zF (zF Z0 4) 8) 0))) ?_; intro _ fw s; refine wp_block ?_; refine aP (fun (j : Nat) fr u => ∃ (qre : List Vl), ∃ (wc : World), (j ≤ a.l.length) ∧ (Kept w wc) ∧ (J qre wc) ∧ (qre ++ (eZ (a.l.drop j) ++ aH (l.drop (k + 1))) = aH l) ∧ (ax qre = none) ∧ Sg 60 wc [] [(0, .func (.yield lp) #[] #[]), (8, .slice A l.length cap), (9, .int .i64 ((l.length : Nat) : Int)), (10, .int .i64 (k : Int)), (31, .slice A1 a.l.length c1), (32, .int .i64 ((a.l.length : Nat) : Int)), (33, .int .i64 (j : Int))] fr u) (fun j => a.l.length - j) 0 ⟨pre, wb, (Nat.zero_le _), hB, hj, (by rw [List.drop_zero, ← lB hw, ← hpre, DG ha]), hfe, (s.ow s.o.tail).c⟩ (fun j b_ u_ hI => ?_)
   revert b_ u_; intro fa fw hI
   obtain ⟨qre, wc, hj0, hB, hj, hqr, hqf, s⟩ := hI; refine zr s 1 (zP Z0) ?_; intro _ fw s; refine sq fun hK8 => ?_; refine zi_ s ?_ ?_
   ·intro hc4
    refine wp_skip ?_; refine tn hK8 ?_; refine sq fun hK9 => ?_; refine wp_block ?_; have hltj : j < a.l.length := by omega
    obtain ⟨cl, hcl⟩ := bI hltj; obtain ⟨bcl, ocl, Acl, ecl⟩ := r1.elem hcl; refine zt_ s 3 (zV (zO (zO Z0 fun cc => al 5 Tryz.underlying35 (by kernel_rfl) rfl Acl cc.e cc.e hltj) (v := .agg #[.int .i64 cl.c, .int .i64 cl.r, .int .u8 cl.v.k, .int .i64 cl.v.n, .string ⟨cl.v.t.toArray⟩]) fun cc => bf (n := 5) 0 rfl (by kernel_rfl) (by kernel_rfl) cc.e rfl (ecl.kept (hB.trans cc.ow.kept))) (.cells #[.int .i64 0, .int .i64 0, .int .u8 0, .int .i64 0, .string ⟨[].toArray⟩] 46 (0, 0))) ?_; intro gb3 _ fw s K10 hK10; refine zS s 0 ?_; intro fw s; refine wt hK10 ?_; refine sq fun hK11 => ?_; refine zr s 10 (zO (zPi (zLi (zFi (zFi (zP (zP (zL (zF (zF Z0 2) 2) 0))) 2) 2) 0)) fun cc => gm rfl cc.e (fun hb => cc.f hb) rfl) ?_; intro _ fw s; refine zb s (pE (decide_eq_true_iff) (decide_eq_true_iff)) ?_ ?_
    ·intro hc5
     have hkn : ¬ (cl.v.k = 1 ∨ cl.v.k = 4) := by have := hc5; omega
     refine wp_exit ?_; refine aM ?_; refine aD ?_; refine tn hK9 ?_; refine zu s 1 (by exact zAn Z0 j 1) ?_; intro _ fw s; refine zw s ?_; intro _ fw s; refine aN ?_; exact bg ⟨(j + 1), ⟨qre, wc, hltj, hB, hj, (by rw [← hqr, zc hcl hkn]), hqf, (s.ow s.o.tail).c⟩, (show a.l.length - (j + 1) < a.l.length - j by omega)⟩
    intro hc5; have hkk : cl.v.k = 1 ∨ cl.v.k = 4 := by have := hc5; omega
    refine wp_skip ?_; refine tn hK11 ?_; refine sq fun hK12 => ?_; have hs10 : qre ++ (cl.v :: (eZ (a.l.drop (j + 1)) ++ aH (l.drop (k + 1)))) = aH l := by rw [← hqr, BW hcl hkk]; rfl
    have hy := hY qre (cl.v) _ (dE hJ hj s.o.kept) (mo hs10); refine (wpIn_wide (n := n + 1)).1 (wpIn_region_lit ?_); refine bB (v := .func (.yield lp) #[] #[]) (aC rfl) (fs rfl (s.g 0)) ?_; refine bB (v := .pointer (some ⟨gb3, 2, none⟩)) (aC rfl) (aE rfl (pb 47 (s.g 7) rfl) (by kernel_rfl)) ?_; refine bB (v := ae cl.v) (aC rfl) (nF 3 (vs := [.int .u8 cl.v.k, .int .i64 cl.v.n, .string ⟨cl.v.t.toArray⟩]) rfl (by kernel_rfl) (by kernel_rfl) (bQ (t := 48) (ah s.z) rfl) (s.o.box 0 rfl) (Nat.le_of_ble_eq_true rfl) rfl) ?_; refine uz (aC rfl) (DF rfl (pb 49 (pb 48 (bQ (t := 47) s.z rfl) rfl) rfl) (bQ (t := 49) (ah (ah s.z)) rfl)) hy ?_; have hbb := s.o.box 0 rfl; have hB2 := hB.trans s.o.kept; rintro e wd (⟨rfl, hj, hk⟩ | ⟨rfl, hjx⟩)
    ·skip
     refine ⟨_, rfl, ?_⟩; have hB := Below.trans hB2 hk.1; have hbb := hk.box hbb (by decide) (by decide); have ow := Own.start wd; refine gy9 (ah (ah (ah (ah s.z)))) (bj (bj (bj (bj s.q)))) ow 0 (pb 50 (pb 49 (pb 48 (pb 47 (s.g 0) rfl) rfl) rfl) rfl) 8 (pb 50 (pb 49 (pb 48 (pb 47 (s.g 8) rfl) rfl) rfl) rfl) 9 (pb 50 (pb 49 (pb 48 (pb 47 (s.g 9) rfl) rfl) rfl) rfl) 10 (pb 50 (pb 49 (pb 48 (pb 47 (s.g 10) rfl) rfl) rfl) rfl) 31 (pb 50 (pb 49 (pb 48 (pb 47 (s.g 31) rfl) rfl) rfl) rfl) 32 (pb 50 (pb 49 (pb 48 (pb 47 (s.g 32) rfl) rfl) rfl) rfl) 33 (pb 50 (pb 49 (pb 48 (pb 47 (s.g 33) rfl) rfl) rfl) rfl) 7 (pb 50 (pb 49 (pb 48 (pb 47 (s.g 7) rfl) rfl) rfl) rfl) 50 (bQ (t := 50) (ah (ah (ah s.z))) rfl) fun fa fw z q ow s0 s8 s9 s10 s31 s32 s33 s7 s50 => ?_; refine bB (v := .bool false) (aC rfl) (F3 rfl s50) ?_; refine bB (v := .bool false) (aC rfl) (fs rfl (bQ (t := 51) z rfl)) ?_; refine bB (v := .pointer (some ⟨gb3, 2, none⟩)) (jP (j := 5) (b := false) rfl (bQ (t := 52) (ah z) rfl)) (aE rfl (pb 52 (pb 51 s7 rfl) rfl) (by kernel_rfl)) ?_; refine gy9 (ah (ah (ah z))) (bj (bj (bj q))) ow 0 (pb 53 (pb 52 (pb 51 s0 rfl) rfl) rfl) 8 (pb 53 (pb 52 (pb 51 s8 rfl) rfl) rfl) 9 (pb 53 (pb 52 (pb 51 s9 rfl) rfl) rfl) 10 (pb 53 (pb 52 (pb 51 s10 rfl) rfl) rfl) 31 (pb 53 (pb 52 (pb 51 s31 rfl) rfl) rfl) 32 (pb 53 (pb 52 (pb 51 s32 rfl) rfl) rfl) 33 (pb 53 (pb 52 (pb 51 s33 rfl) rfl) rfl) 52 (pb 53 (bQ (t := 52) (ah z) rfl) rfl) 53 (bQ (t := 53) (ah (ah z)) rfl) fun fa fw z q ow s0 s8 s9 s10 s31 s32 s33 s52 s53 => ?_
     refine bB (v := .pointer (some ⟨gb3, 2, none⟩)) (jP (j := 5) (b := false) rfl (s52)) (aE rfl s53 (by kernel_rfl)) ?_; refine bB (v := .int .u8 cl.v.k) (jP (j := 5) (b := false) rfl (pb 54 s52 rfl)) (dY rfl (by kernel_rfl) (bQ (t := 54) z rfl) (Box.kept16 hbb ow.kept) rfl) ?_; refine bB (v := .bool (decide ((cl.v.k : Int) = (4 : Int)))) (jP (j := 5) (b := false) rfl (pb 55 (pb 54 s52 rfl) rfl)) (Ik rfl (bQ (t := 55) (ah z) rfl) rfl) ?_; refine gy9 (ah (ah (ah z))) (bj (bj (bj q))) ow 0 (pb 56 (pb 55 (pb 54 s0 rfl) rfl) rfl) 8 (pb 56 (pb 55 (pb 54 s8 rfl) rfl) rfl) 9 (pb 56 (pb 55 (pb 54 s9 rfl) rfl) rfl) 10 (pb 56 (pb 55 (pb 54 s10 rfl) rfl) rfl) 31 (pb 56 (pb 55 (pb 54 s31 rfl) rfl) rfl) 32 (pb 56 (pb 55 (pb 54 s32 rfl) rfl) rfl) 33 (pb 56 (pb 55 (pb 54 s33 rfl) rfl) rfl) 52 (pb 56 (pb 55 (pb 54 s52 rfl) rfl) rfl) 56 (bQ (t := 56) (ah (ah z)) rfl) fun fa fw z q ow s0 s8 s9 s10 s31 s32 s33 s52 s56 => ?_; refine bB (v := .bool (decide ((cl.v.k : Int) = (4 : Int)))) (aC rfl) (tY rfl s52 s56) ?_
     change wpList Tryz.prog #[] _ [] _ _
     refine gp7 z q ow s0 s8 s9 s10 s31 s32 s33 fun fa fw z q ow s0 s8 s9 s10 s31 s32 s33 s57 => ?_; refine wt hK12 ?_; have s := ((((((((ix z q ow).i (t := 0) (v := .func (.yield lp) #[] #[]) s0).i (t := 8) (v := .slice A l.length cap) s8).i (t := 9) (v := .int .i64 ((l.length : Nat) : Int)) s9).i (t := 10) (v := .int .i64 (k : Int)) s10).i (t := 31) (v := .slice A1 a.l.length c1) s31).i (t := 32) (v := .int .i64 ((a.l.length : Nat) : Int)) s32).i (t := 33) (v := .int .i64 (j : Int)) s33).i (t := 57) (v := .bool (decide ((cl.v.k : Int) = (4 : Int)))) s57; refine zi_ s ?_ ?_
     ·intro hc6
      refine wp_ret ?_; refine ao ?_; refine ag ?_; refine ag ?_; refine ao ?_; refine ao ?_; refine ag ?_; refine ag ?_; refine ao ?_; refine bodyPost_ret (results_none rfl _ _ _) s.q ?_; exact ⟨⟨_, rfl⟩, Or.inl ⟨_, (hs10 ▸ (za hqf (uB hc6))).symm, dE hJ hj s.o.kept⟩⟩
     intro hc6; refine wp_skip ?_; refine aB ?_; refine tn hK9 ?_; refine zu s 1 (by exact zAn Z0 j 1) ?_; intro _ fw s; refine zw s ?_; intro _ fw s; refine aN ?_; exact bg ⟨(j + 1), ⟨_, wd, hltj, hB, hj, ((List.append_assoc _ _ _).trans hs10), (mn hqf (oO hc6)), s.c⟩, (show a.l.length - (j + 1) < a.l.length - j by omega)⟩
    refine ⟨_, rfl, ?_⟩; have ow := Own.start wd; refine gy9 (ah (ah (ah (ah s.z)))) (bj (bj (bj (bj s.q)))) ow 0 (pb 50 (pb 49 (pb 48 (pb 47 (s.g 0) rfl) rfl) rfl) rfl) 8 (pb 50 (pb 49 (pb 48 (pb 47 (s.g 8) rfl) rfl) rfl) rfl) 9 (pb 50 (pb 49 (pb 48 (pb 47 (s.g 9) rfl) rfl) rfl) rfl) 10 (pb 50 (pb 49 (pb 48 (pb 47 (s.g 10) rfl) rfl) rfl) rfl) 31 (pb 50 (pb 49 (pb 48 (pb 47 (s.g 31) rfl) rfl) rfl) rfl) 32 (pb 50 (pb 49 (pb 48 (pb 47 (s.g 32) rfl) rfl) rfl) rfl) 33 (pb 50 (pb 49 (pb 48 (pb 47 (s.g 33) rfl) rfl) rfl) rfl) 7 (pb 50 (pb 49 (pb 48 (pb 47 (s.g 7) rfl) rfl) rfl) rfl) 50 (bQ (t := 50) (ah (ah (ah s.z))) rfl) fun fa fw z q ow s0 s8 s9 s10 s31 s32 s33 s7 s50 => ?_; refine bB (v := .bool true) (aC rfl) (F3 rfl s50) ?_; refine bB (v := .bool true) (aC rfl) (fs rfl (bQ (t := 51) z rfl)) ?_; refine iX (ou (j := 5) (b := false) (b' := true) rfl (bQ (t := 52) (ah z) rfl) rfl) ?_; refine gy9 (ah (ah (ah z))) (bj (bj (bj q))) ow 0 (pb 53 (pb 52 (pb 51 s0 rfl) rfl) rfl) 8 (pb 53 (pb 52 (pb 51 s8 rfl) rfl) rfl) 9 (pb 53 (pb 52 (pb 51 s9 rfl) rfl) rfl) 10 (pb 53 (pb 52 (pb 51 s10 rfl) rfl) rfl) 31 (pb 53 (pb 52 (pb 51 s31 rfl) rfl) rfl) 32 (pb 53 (pb 52 (pb 51 s32 rfl) rfl) rfl) 33 (pb 53 (pb 52 (pb 51 s33 rfl) rfl) rfl) 52 (pb 53 (bQ (t := 52) (ah z) rfl) rfl) 53 (bQ (t := 53) (ah (ah z)) rfl) fun fa fw z q ow s0 s8 s9 s10 s31 s32 s33 s52 s53 => ?_
    refine iX (ou (j := 5) (b := false) (b' := true) rfl (s52) rfl) ?_; refine iX (ou (j := 5) (b := false) (b' := true) rfl (pb 54 s52 rfl) rfl) ?_; refine iX (ou (j := 5) (b := false) (b' := true) rfl (pb 55 (pb 54 s52 rfl) rfl) rfl) ?_; refine gy9 (ah (ah (ah z))) (bj (bj (bj q))) ow 0 (pb 56 (pb 55 (pb 54 s0 rfl) rfl) rfl) 8 (pb 56 (pb 55 (pb 54 s8 rfl) rfl) rfl) 9 (pb 56 (pb 55 (pb 54 s9 rfl) rfl) rfl) 10 (pb 56 (pb 55 (pb 54 s10 rfl) rfl) rfl) 31 (pb 56 (pb 55 (pb 54 s31 rfl) rfl) rfl) 32 (pb 56 (pb 55 (pb 54 s32 rfl) rfl) rfl) 33 (pb 56 (pb 55 (pb 54 s33 rfl) rfl) rfl) 52 (pb 56 (pb 55 (pb 54 s52 rfl) rfl) rfl) 56 (bQ (t := 56) (ah (ah z)) rfl) fun fa fw z q ow s0 s8 s9 s10 s31 s32 s33 s52 s56 => ?_; refine bB (v := .bool true) (aC rfl) (cD rfl s52 rfl) ?_
    change wpList Tryz.prog #[] _ [] _ _
    refine gp7 z q ow s0 s8 s9 s10 s31 s32 s33 fun fa fw z q ow s0 s8 s9 s10 s31 s32 s33 s57 => ?_; refine wt hK12 ?_; have s := ((((((((ix z q ow).i (t := 0) (v := .func (.yield lp) #[] #[]) s0).i (t := 8) (v := .slice A l.length cap) s8).i (t := 9) (v := .int .i64 ((l.length : Nat) : Int)) s9).i (t := 10) (v := .int .i64 (k : Int)) s10).i (t := 31) (v := .slice A1 a.l.length c1) s31).i (t := 32) (v := .int .i64 ((a.l.length : Nat) : Int)) s32).i (t := 33) (v := .int .i64 (j : Int)) s33).i (t := 57) (v := .bool true) s57; refine zy s ?_; refine wp_ret ?_; refine ao ?_; refine ag ?_; refine ag ?_; refine ao ?_; refine ao ?_; refine ag ?_; refine ag ?_; refine ao ?_; refine bodyPost_ret (results_none rfl _ _ _) s.q ?_; exact ⟨⟨_, rfl⟩, Or.inr ⟨_, kO hs10, dE hJx hjx s.o.kept⟩⟩
   intro hc4; refine wp_exit ?_; refine aM ?_; refine aM ?_; refine aD ?_; refine aB ?_; refine tn hK2 ?_; refine zu s 1 (by exact zAn Z0 k 1) ?_; intro _ fw s; refine zw s ?_; intro _ fw s; refine aN ?_; exact bg ⟨(k + 1), ⟨qre, wc, hltk, hB, hj, (by rw [← hqr, BZ (by omega)]; rfl), hqf, s.c⟩, (show l.length - (k + 1) < l.length - k by omega)⟩
  intro hc1; refine wp_exit ?_; refine aM ?_; refine aM ?_; refine aD ?_; refine bodyPost_end (results_none rfl _ _ _) s.q ?_; have hpn : pre = aH l := by rw [← hpre, List.drop_eq_nil_of_le (by omega)]; exact (List.append_nil _).symm
  exact ⟨⟨_, rfl⟩, Or.inl ⟨pre, by rw [hpn] at hfe ⊢; exact (oM hfe).symm, dE hJ hj s.o.kept⟩⟩
end

section
open Go.RowKit Lv
set_option maxRecDepth 100000
attribute [local go_sem] Oper.semAt_some
def E7 (w : World) (l : List Ar) (e : Ending) (w' : World) : Prop := ∃ v x b, e = .returned (.tuple #[v, ae x, .bool b]) ∧ Kept w w' ∧ ((b = false ∧ v = .slice none 0 0 ∧ ax (aH l) = some x) ∨ (b = true ∧ x = aj ∧ ax (aH l) = none ∧ w'.ownsRow w.heap.size 2 1 v ((aH l).map Vl.n).length (((aH l).map Vl.n).map (Value.int .i64))))
abbrev Cy (X : World) (row : Option Nat) : Prop := ∀ r, row = some r → ∃ o : Obj, X.heap[r]? = some o ∧ o.isCells = false
theorem ja {X Y : World} {row : Option Nat} {g : Nat} {t : TypeId} {cs : Array Value} (h : Box X g t cs) (hg : X.grownBy Y row) (hr : Cy X row) : Box Y g t cs := by
  refine (hg.block g h.inside fun e => ?_).trans h; obtain ⟨o, ho, hc⟩ := hr g e.symm; rw [show X.heap[g]? = _ from h] at ho
  cases ho; cases hc
theorem E8 {X Y : World} {row : Option Nat} {n₀ : Nat} {e : TypeId} {size k : Nat} {v : Value} {xs : List Value} (h : X.ownsRow n₀ e size v k xs) (hg : X.grownBy Y row) (hr : Cy X row) : Y.ownsRow n₀ e size v k xs := by
  refine h.kept hg ?_; rcases h.2 with ⟨rfl, _⟩ | ⟨g, cap, cur, rfl, _, hgb, _⟩
  · exact Or.inl rfl
  · refine Or.inr fun e' => ?_
    obtain ⟨o, ho, hc⟩ := hr g (by simpa [Value.ownBlock] using e'.symm); rw [hgb] at ho; cases ho; cases hc
def GS (w : World) (gl gf go : Nat) (pre : List Vl) (W : World) : Prop := (∃ v, Boxed W gl 54 v ∧ W.ownsRow w.heap.size 2 1 v pre.length (pre.map fun x => Value.int .i64 x.n)) ∧ Box W gf 25 #[.int .u8 0, .int .i64 0, .string ⟨#[]⟩] ∧ Box W go 4 #[.bool false] ∧ ax pre = none ∧ Below w.heap.size w W
def GT (w : World) (gl gf go : Nat) (c : Code) (pre : List Vl) (W : World) : Prop := c = .ret ∧ ∃ p x, pre = p ++ [x] ∧ ax p = none ∧ isE x = true ∧ Box W gl 54 #[.slice none 0 0] ∧ Box W gf 25 #[.int .u8 x.k, .int .i64 x.n, .string ⟨x.t.toArray⟩] ∧ Box W go 4 #[.bool false] ∧ Below w.heap.size w W
theorem zT {w : World} {gl gf go B : Nat} (hB : w.heap.size ≤ B) : OwnFrom B (GS w gl gf go) := fun s X Y row h hg hr => by
  obtain ⟨⟨v, h1, h2⟩, h3, h4, h5, h6⟩ := h; have hn : Cy X row := fun r e => (hr r e).2; exact ⟨⟨v, ja h1 hg hn, E8 h2 hg hn⟩, ja h3 hg hn, ja h4 hg hn, h5, h6.grown hg h6.size (fun k e => Nat.le_trans hB (hr k e).1)⟩
theorem zU {w : World} {gl gf go B : Nat} (hB : w.heap.size ≤ B) (c : Code) : OwnFrom B (GT w gl gf go c) := fun s X Y row h hg hr => by
  obtain ⟨h0, p, x, e1, e2, e3, h1, h3, h4, h6⟩ := h; have hn : Cy X row := fun r e => (hr r e).2; exact ⟨h0, p, x, e1, e2, e3, ja h1 hg hn, ja h3 hg hn, ja h4 hg hn, h6.grown hg h6.size (fun k e => Nat.le_trans hB (hr k e).1)⟩
theorem rc {n₀ : Nat} {W : World} (h : n₀ ≤ W.heap.size) (o : Obj) : KeepsC n₀ W (W.alloc o) := ⟨(Below.refl _ W).alloc h o, fun k cs t r e _ _ => (Below.heap_alloc W o k (Array.getElem?_eq_some_iff.1 e).1).trans e⟩
theorem pg {W w1 : World} {n₀ B : Nat} {v v' : Value} {k m : Nat} {xs ys : List Value} {tmp : Obj} (hv : Boxed W B 54 v) (hrow : W.ownsRow n₀ 2 1 v k xs) (hn₀ : n₀ ≤ W.heap.size) (hB : n₀ ≤ B) (hown' : w1.ownsRow n₀ 2 1 v' m ys) (hgrow : (W.alloc tmp).grownBy w1 v.ownBlock) : KeepsC n₀ W (w1.setCell ⟨B, 0, none⟩ v') := by
  refine ⟨(hv.appended (by decide) hrow hn₀ hB hown' hgrow).2.2.2.2, fun j cs t r e h1 h2 => ?_⟩; have hj := (Array.getElem?_eq_some_iff.1 e).1
  have ne1 : j ≠ B := fun c => by
    subst c; rw [show W.heap[j]? = _ from hv] at e
    cases e
    exact h2 rfl
  have e2 : (W.alloc tmp).heap[j]? = some (.cells cs t r) := (Below.heap_alloc W tmp j hj).trans e
  have ne2 : some j ≠ v.ownBlock := fun c => by
    rcases hrow.2 with ⟨rfl, _⟩ | ⟨g, cap, cur, rfl, _, hgb, _⟩
    · simp [Value.ownBlock] at c
    · obtain rfl : j = g := by simpa [Value.ownBlock] using c
      rw [e] at hgb
      cases hgb
      exact h1 rfl
  exact (Below.heap_setCell w1 ⟨B, 0, none⟩ v' j ne1).trans ((hgrow.block j (by rw [World.size_alloc]; omega) ne2).trans e2)
theorem zY (A : Option Addr) (cap : Nat) (l : List Ar) (w w1 : World) (mx : Int) (HM : Mx w mx) (hr : ArgsAt w A l) (hs : ∀ a ∈ l, aY a) (hl : l.length ≤ 1000000) (hla : ∀ a ∈ l, a.l.length ≤ 1000000) (hB : Kept w w1) (g n : Nat) (hg : Box w1 g 22 #[.slice A l.length cap]) :
    SeqStopsK Fence.wide n Tryz.prog 121 #[.pointer (some ⟨g, 0, none⟩)] (fun x : Vl => #[ae x]) (KeepsC w.heap.size) (fun ys => ys = upE (aH l)) (fun pre => pre <+: aH l) (aH l).length w1 := fun lp J Jx W hW hJ hJx hY h0 =>
  callsIn_wide.2 (zR A cap l w W mx HM hr hs hl hla (hB.trans hW) g ((hW.block g hg.inside).trans hg) (n - 1) lp J Jx hJ hJx hY h0)
section
variable {P : Program} {ops : Array Oper} {Q : Exit → Act → World → Prop} {K : Act → World → Prop} {a : Act} {w w' : World} {lp n i : Nat} {o : Oper} {v : Value}
theorem uT (ho : ops[i]? = some o) (hg : o.guard = none) (hd : ∀ c, o.op ≠ .defer c) (hr : (execOp a.eval o).run P w = .ok (.value v) w') (h : K (a.put o.dst v) w') : wpOpIn (Fence.wide.inRound lp) n P ops Q i K a w := by
  unfold wpOpIn; rw [ho]
  simp only
  rw [if_pos (aC hg)]; refine ⟨fun _ _ => trivial, ?_⟩; show Oper.uponIn _ _ _ _ _ _ _ ((Oper.semAt (some lp) a.eval o).run P w); rw [Oper.semAt_some lp a.eval o hd, hr]; exact h
theorem ph (ho : ops[i]? = some o) (hg : o.guard = none) (hn : o.dst = none) (hd : ∀ c, o.op ≠ .defer c) (hr : (execOp a.eval o).run P w = .ok .skip w') (h : K a w') : wpOpIn (Fence.wide.inRound lp) n P ops Q i K a w := by
  unfold wpOpIn; rw [ho]
  simp only
  rw [if_pos (aC hg)]; refine ⟨fun _ _ => trivial, ?_⟩; show Oper.uponIn _ _ _ _ _ _ _ ((Oper.semAt (some lp) a.eval o).run P w); rw [Oper.semAt_some lp a.eval o hd, hr, Oper.uponIn_skip, hn]; exact h
end
theorem Box.grownA {W w1 : World} {n₀ B g k : Nat} {t : TypeId} {cs : Array Value} {v v' : Value} {xs : List Value} {tmp : Obj} (h : Box W g t cs) (hgrow : (W.alloc tmp).grownBy w1 v.ownBlock) (hrow : W.ownsRow n₀ 2 1 v k xs) (ht : t ≠ 2) (ne : B ≠ g) : Box (w1.setCell ⟨B, 0, none⟩ v') g t cs := by
  have e2 : (W.alloc tmp).heap[g]? = some (.cells cs t (0, 0)) := (Below.heap_alloc W tmp g h.inside).trans h
  have ne2 : some g ≠ v.ownBlock := fun c => by
    rcases hrow.2 with ⟨rfl, _⟩ | ⟨b, cap, cur, rfl, _, hgb, _⟩
    · simp [Value.ownBlock] at c
    · obtain rfl : g = b := by simpa [Value.ownBlock] using c
      rw [show W.heap[g]? = _ from h] at hgb
      cases hgb
      exact ht rfl
  exact (Below.heap_setCell w1 ⟨B, 0, none⟩ v' g (fun c => ne c.symm)).trans ((hgrow.block g (by rw [World.size_alloc]; have := h.inside; omega) ne2).trans e2)
theorem IZ {w W : World} {a b c : Nat} {s t u : TypeId} {x y z : Array Value} (hB : Below w.heap.size w W) (h1 : Box W a s x) (h2 : Box W b t y) (h3 : Box W c u z) (k1 : w.heap.size ≤ a) (k2 : w.heap.size ≤ b) (k3 : w.heap.size ≤ c) (n : a ≠ b ∧ a ≠ c ∧ b ≠ c) : Own w [Th.obj a (.cells x s (0, 0)), Th.obj b (.cells y t (0, 0)), Th.obj c (.cells z u (0, 0))] W := by
  have o : Own w [] W := ⟨hB, fun _ h => (by cases h), fun _ h => (by cases h), List.Pairwise.nil⟩; have o3 := o.cons h3 k3 (fun _ h => by cases h); have o2 := o3.cons h2 k2 (fun s hs e => by rw [List.mem_singleton.1 hs] at e; exact n.2.2 (Option.some.inj e).symm)
  exact o2.cons h1 k1 (fun s hs e => by
    rcases List.mem_cons.1 hs with rfl | hs
    · exact n.1 (Option.some.inj e).symm
    · rw [List.mem_singleton.1 hs] at e; exact n.2.1 (Option.some.inj e).symm)
theorem ij (W : World) (b i : Nat) (vs : List Value) : KeepsOthers W (bU W b i vs) := by
  induction vs generalizing W i with
  | nil => exact KeepsOthers.refl W
  | cons v r ih => exact (KeepsOthers.setCell W _ v).trans (ih _ _)
theorem E9 {W : World} {g b i : Nat} {t : TypeId} {cs : Array Value} (h : Box W g t cs) (ne : g ≠ b) : ∀ {vs : List Value}, Box (bU W b i vs) g t cs := by
  intro vs
  induction vs generalizing W i with
  | nil => exact h
  | cons v r ih => exact ih ((Below.heap_setCell W ⟨b, i, none⟩ v g ne).trans h)
theorem pi {P : Program} {ops : Array Oper} {Q : Exit → Act → World → Prop} {rest : List Oper} {o : Oper} {a : Act} {w w0 : World} {n : Nat} {H : List Th} (ow : Own w0 H w) (k off : Nat) {g : Nat} {cs : Array Value} {t T : TypeId} {x y : Operand} {v : Value} (hw : Region.wanted o (yielded ops a.tmps) = true) (hn : o.dst = none) (ho : o.op = .store T x y) (hx : a.eval x = .pointer (some ⟨g, off, none⟩)) (hy : a.eval y = v) (hs : (sizeOf T).run P w = .ok v.cells.size w) (e : H[k]? = some (Th.obj g (.cells cs t (0, 0)))) (h1 : (v.cells.toList.all fun v => v.oneCell') = true) (hb : Nat.ble (off + v.cells.toList.length) cs.size = true)
    (c : ∀ w', Own w0 (H.set k (Th.obj g (.cells (bT cs off v.cells.toList) t (0, 0)))) w' → KeepsOthers w w' → wpListIn Fence.wide n P ops Q rest a w') : wpListIn Fence.wide n P ops Q (o :: rest) a w := by
  have hr := fT (P := P) ho hx hy hs (ow.box k e) h1 (Nat.le_of_ble_eq_true hb); unfold wpListIn; rw [if_pos hw]; refine ⟨fun _ _ => trivial, ?_⟩; show Oper.uponIn _ _ _ _ _ _ _ ((Oper.semAt none a.eval o).run P w); rw [Oper.semAt_none, hr, Oper.uponIn_skip, hn]; exact c _ (ow.put k e off _) (ij _ _ _ _)
theorem rd {P : Program} {n : Nat} {fn : Func} {R : Ending → World → Prop} {a : Act} {W : World} {D : Nat} (hd : a.defers = [{ target := .collected D, args := #[] }]) (hK : W.heap[D]? = some (.deferred (some []))) (h : bodyPost P fn R .ret { a with defers := [] } (W.putObj D (.deferred none))) : bodyPostM Fence.wide n P fn R .ret a W := by
  obtain ⟨_, v, hr, hR⟩ := h; show LeavesInM _ _ _ _ a.tmps _ a.defers _ _; rw [hd]; exact ⟨by simp, .inl ⟨_, _, rfl, run_takeDeferred hK, v, hr, hR⟩⟩
theorem jH {P : Program} {a : Act} {w : World} {t : Tmp} {T : TypeId} {g : Nat} {ty : TypeId} {cs : Array Value} {v : Value} (e : a.eval (.tmp t) = .pointer (some ⟨g, 0, none⟩)) (ha : (isAgg T).run P w = .ok false w) (bx : Box w g ty cs) (hv : cs[0]? = some v) : (fh a (.cell t T)).run P w = .ok v w := by
  have e' : a.tmps.getD t undef = .pointer (some ⟨g, 0, none⟩) := e; have hc := (bx.cell 0).trans hv; have hl : (load ⟨g, 0, none⟩).run P w = .ok v w := by simp [load, Sem.run, hc]
  unfold fh
  simp only [e', asAddr, loadVar, Sem.run_bind, Sem.run_pure, Result.andThen_ok, ha, Bool.false_eq_true, if_false, hl]
theorem Box.putD {W : World} {D g : Nat} {t : TypeId} {cs : Array Value} {o' : Obj} (h : Box W g t cs) (hK : W.heap[D]? = some (.deferred (some []))) : Box (W.putObj D o') g t cs := by
  have ne : g ≠ D := fun c => by
    subst c; rw [show W.heap[g]? = _ from h] at hK
    cases hK
  exact (World.putObj_heap_other ne).trans h
theorem Box.not_row16 {W : World} {n₀ g k : Nat} {t : TypeId} {cs : Array Value} {v : Value} {xs : List Value} (h : Box W g t cs) (ht : t ≠ 2) (hrow : W.ownsRow n₀ 2 1 v k xs) (b : Nat) (c : some g = some b) (e : v.ownBlock = some b) : False := by
  cases c
  rcases hrow.2 with ⟨rfl, _⟩ | ⟨b, cap, cur, rfl, _, hgb, _⟩
  · simp [Value.ownBlock] at e
  · obtain rfl : b = g := by simpa [Value.ownBlock] using e
    rw [show W.heap[b]? = _ from h] at hgb
    cases hgb
    exact ht rfl
theorem zZ {l : List Nat} {i j k : Nat} (h : i ∈ l) (e : l = [j, k]) : i = j ∨ i = k := by subst e; simpa using h
theorem jI {l : List Nat} {j : Nat} {r : List Nat} {p : Prop} (e : l = j :: r) (h : l = []) : p := by subst e; cases h
theorem jJ {l : List Nat} {i j : Nat} (h : i ∈ l) (e : l = [j]) : i = j := by subst e; simpa using h
theorem kX (A : Option Addr) (cap : Nat) (l : List Ar) (w : World) (mx : Int) (HM : Mx w mx) (hr : ArgsAt w A l) (hs : ∀ a ∈ l, aY a) (hl : l.length ≤ 1000000) (hla : ∀ a ∈ l, a.l.length ≤ 1000000) (hn : (aH l).length ≤ 1000000) :
    Calls Tryz.prog 57 #[.slice A l.length cap] w (E7 w l) := by
  obtain ⟨i0, hi, hz0, hz1, hz2⟩ := oS; refine (callsIn_wide (n := 9)).1 ?_; refine callsIn_of_wp_marks Tryz.func57 rfl trivial ?_ rfl
  simp only [Tryz.ntmps57, List.size_toArray, List.length_cons, List.length_nil, Nat.reduceAdd, Nat.reduceSub, Array.replicate_succ, Array.replicate_zero, List.push_toArray, List.append_toArray, List.nil_append, List.cons_append]
  gi_wp2_with (refine ⟨trivial, ?_⟩; gi_at_call 89; refine (callsIn_wide.2 (ra A cap l _)).mono ?_; rintro e w1 ⟨g, rfl, hg, hge, hk⟩)
  have hsz := hk.size
  simp only [World.size_alloc] at hsz hge
  have hB1 : Below w.heap.size w w1 := ((((Below.refl _ w).alloc (Nat.le_refl _) _).alloc (by simp) _).alloc (by simp; omega) _).trans (hk.mono (by simp; omega)); have bL : Box w1 w.heap.size 54 #[.slice none 0 0] := (hk.block _ (by simp; omega)).trans (((Box.new w _ _).alloc _).alloc _); have bF : Box w1 (w.heap.size + 1) 25 #[.int .u8 0, .int .i64 0, .string ⟨#[]⟩] := (hk.block _ (by simp)).trans ((Box.newAt (by simp) _ _).alloc _); have bO : Box w1 (w.heap.size + 1 + 1) 4 #[.bool false] := (hk.block _ (by simp)).trans (Box.newAt (by simp) _ _); obtain ⟨gl, hgl⟩ : ∃ gl, gl = w.heap.size := ⟨_, rfl⟩; obtain ⟨gf, hgf⟩ : ∃ gf, gf = w.heap.size + 1 := ⟨_, rfl⟩; obtain ⟨go, hgo⟩ : ∃ go, go = w.heap.size + 1 + 1 := ⟨_, rfl⟩; rw [← hgo] at bO; rw [← hgf] at bF
  simp only [← hgo]
  simp only [← hgf]
  simp only [← hgl]
  have HL : Hid (w.heap.size ≤ gl) := Lib.hid (by omega); have HF : Hid (w.heap.size ≤ gf) := Lib.hid (by omega); have HO : Hid (w.heap.size ≤ go) := Lib.hid (by omega); have HN : Hid (gl ≠ gf ∧ gl ≠ go ∧ gf ≠ go) := Lib.hid (by omega); have hle : w.heap.size ≤ w1.heap.size := hB1.size; rw [← hgl] at bL; have hgl' : Hid (gl = w.heap.size) := Lib.hid hgl; clear hgl hgf hgo hsz hge hk
  rename_i K6 h6
  have cell4 : ∀ {W : World} {b : Nat} {t : TypeId} {x : Vl}, Box W b t #[.int .u8 x.k, .int .i64 x.n, .string ⟨x.t.toArray⟩] → W.cell? ⟨b, 0, none⟩ = some (.int .u8 x.k) ∧ W.cell? ⟨b, 1, none⟩ = some (.int .i64 x.n) ∧ W.cell? ⟨b, 2, none⟩ = some (.string ⟨x.t.toArray⟩) := fun h => ⟨h.cell 0, h.cell 1, h.cell 2⟩
  refine wpIn_rangeFunc_ownH rfl (by decide) (gf := 121) (lb := #[.pointer (some ⟨g, 0, none⟩)]) rfl trivial (enters_of Tryz.func121 (by kernel_rfl) rfl)
    (zY A cap l w w1 mx HM hr hs hl hla hB1 g _ hg) BU (BV hle) (Below.refl _ _) (fun _ => rfl)
    (GS w gl gf go) (GT w gl gf go) (zT hle) (zU hle) ⟨⟨_, bL, World.ownsRow_nil _ _ _ _⟩, bF, bO, rfl, hB1⟩
    (fun x a' W => ∃ Bx, (gl < Bx ∧ gf < Bx ∧ go < Bx) ∧ Box W Bx 25 #[.int .u8 x.k, .int .i64 x.n, .string ⟨x.t.toArray⟩] ∧ a' = { tmps := #[.slice A l.length cap, undef, .pointer (some ⟨gl, 0, none⟩), .pointer (some ⟨gf, 0, none⟩), .pointer (some ⟨go, 0, none⟩), .pointer (some ⟨Bx, 0, none⟩), .slice A l.length cap, .func (.func 121) #[] #[.pointer (some ⟨g, 0, none⟩)], ae x, undef, undef, undef, undef, undef, undef, undef, undef, undef, undef, undef], defers := [] })
    (fun x a' s X Y row hs hg hr => by obtain ⟨Bx, e1, e2, e3⟩ := hs; exact ⟨Bx, e1, ja e2 hg (fun r e => (hr r e).2), e3⟩)
    ?assign ?body ?done ?stop
  case assign =>
    rintro lp pre x W K ⟨⟨v, hv, hrow⟩, hF, hO, hfe, hB⟩ hK
    gi_wp2
    exact hK _ _ ((KeepsOthers.alloc _ _).from _) (rc hB.size _) ⟨⟨v, hv.alloc _, hrow.alloc _⟩, hF.alloc _, hO.alloc _, hfe, hB.alloc hB.size _⟩ ⟨W.heap.size, ⟨hv.lt, hF.inside, hO.inside⟩, Box.new W _ _, rfl⟩
  case body =>
    rintro lp pre x a' W hl' ⟨r, hr'⟩ ⟨⟨v, hv, hrow⟩, hF, hO, hfe, hB⟩ ⟨Bx, ⟨hx1, hx2, hx3⟩, bX, rfl⟩ hlt; obtain ⟨x0, x1, x2⟩ := cell4 bX; have hc := hv.cell; have fc := hv.frozen
    by_cases hx : (x.k : Int) = 4
    · have hx' : ((x.k : Int) == 4) = true := by simp [hx]
      have fL := hv.frozen; have f0 := hF.loose 0; have f1 := hF.loose 1; have f2 := hF.loose 2; have g0 := hF.cell 0; have g1 := hF.cell 1; have g2 := hF.cell 2; have o0 := hO.cell 0; have o1 := hO.loose 0
      gi_wp2
      have ow : Own w [Th.obj gl (.cells #[v] 54 (0, 0)), Th.obj gf (.cells #[.int .u8 0, .int .i64 0, .string ⟨#[]⟩] 25 (0, 0)), Th.obj go (.cells #[.bool false] 4 (0, 0))] W.drew := (IZ hB hv hF hO HL.out HF.out HO.out HN.out).keep ((Kept.refl W).drew); have ow1 := ow.put 0 rfl 0 [.slice none 0 0]; have bX1 : Box (bU W.drew gl 0 [.slice none 0 0]) Bx 25 #[.int .u8 x.k, .int .i64 x.n, .string ⟨x.t.toArray⟩] := E9 (W := W.drew) bX (by omega); have ow2 := ow1.put 1 rfl 0 [.int .u8 x.k, .int .i64 x.n, .string ⟨x.t.toArray⟩]; have ow3 := ow2.put 2 rfl 0 [.bool false]; have k3 : KeepsFrom w1.heap.size W (bU (bU (bU W.drew gl 0 [.slice none 0 0]) gf 0 [.int .u8 x.k, .int .i64 x.n, .string ⟨x.t.toArray⟩]) go 0 [.bool false]) := ((((KeepsOthers.drew W).trans (ij _ _ _ _)).trans (ij _ _ _ _)).trans (ij _ _ _ _)).from _; refine wpIn_region_any (by kernel_rfl) ?_; refine ⟨fun h => jI (j := 0) (r := [1]) (by kernel_rfl) h, fun i hi => ?_⟩; have hi : i = 0 ∨ i = 1 := zZ hi (by kernel_rfl); rcases hi with rfl | rfl
      all_goals first
        | (refine uT rfl rfl (fun _ => by simp) (nF 3 (vs := [.int .u8 x.k, .int .i64 x.n, .string ⟨x.t.toArray⟩]) rfl (by kernel_rfl) (by kernel_rfl) rfl bX (Nat.le_of_ble_eq_true rfl) rfl) ?_; refine ⟨fun h => jI (j := 1) (r := []) (by kernel_rfl) h, fun i hi => ?_⟩; obtain rfl := jJ hi (j := 1) (by kernel_rfl); refine ph rfl rfl rfl (fun _ => by simp) (fT (off := 0) rfl rfl rfl (by kernel_rfl) (ow.box 0 rfl) rfl (Nat.le_of_ble_eq_true rfl)) ?_)
        | (refine ph rfl rfl rfl (fun _ => by simp) (fT (off := 0) rfl rfl rfl (by kernel_rfl) (ow.box 0 rfl) rfl (Nat.le_of_ble_eq_true rfl)) ?_; refine ⟨fun h => jI (j := 0) (r := []) (by kernel_rfl) h, fun i hi => ?_⟩; obtain rfl := jJ hi (j := 0) (by kernel_rfl); refine uT rfl rfl (fun _ => by simp) (nF 3 (vs := [.int .u8 x.k, .int .i64 x.n, .string ⟨x.t.toArray⟩]) rfl (by kernel_rfl) (by kernel_rfl) rfl bX1 (Nat.le_of_ble_eq_true rfl) rfl) ?_)
      all_goals
        refine ⟨fun h => jI (j := 2) (r := []) (by kernel_rfl) h, fun i hi => ?_⟩; obtain rfl := jJ hi (j := 2) (by kernel_rfl); refine ph rfl rfl rfl (fun _ => by simp) (fT (off := 0) rfl rfl rfl (by kernel_rfl) (ow1.box 1 rfl) rfl (Nat.le_of_ble_eq_true rfl)) ?_; refine ⟨fun h => jI (j := 3) (r := []) (by kernel_rfl) h, fun i hi => ?_⟩; obtain rfl := jJ hi (j := 3) (by kernel_rfl); refine ph rfl rfl rfl (fun _ => by simp) (fT (off := 0) rfl rfl rfl (by kernel_rfl) (ow2.box 2 rfl) rfl (Nat.le_of_ble_eq_true rfl)) ?_; refine ⟨by kernel_rfl, ?_⟩; refine (show ∀ W3, KeepsFrom w1.heap.size W W3 → Own w [Th.obj gl (.cells #[.slice none 0 0] 54 (0, 0)), Th.obj gf (.cells #[.int .u8 x.k, .int .i64 x.n, .string ⟨x.t.toArray⟩] 25 (0, 0)), Th.obj go (.cells #[.bool false] 4 (0, 0))] W3 → Exit.then _ _ .normal _ W3 from ?_) _ k3 ow3; clear k3 ow3 ow2 ow1 ow bX1; intro W3 k3 o3
        simp only [Exit.then]
        gi_wp2
        exact ⟨k3, rfl, pre, x, rfl, hfe, uB hx, o3.box 0 rfl, o3.box 1 rfl, o3.box 2 rfl, o3.kept⟩
    · have hx' : ((x.k : Int) == 4) = false := by simp [hx]
      have hpl : pre.length + 1 ≤ 1000000 := by omega
      gi_wp2_with (gi_at_builtin; refine wpListIn_append_own _ rfl _ _ 54 rfl w.heap.size 2 i0 (.int .i64 0) 1 8 Tryz.underlying54 hi hz0 hz1 hz2 rfl (by decide) _ _ _ rfl (hrow.alloc _) ⟨W.heap.size, 0, none⟩ 1 1 [.int .i64 x.n] rfl rfl (cell_one_new _ _ _) (by simp [Value.oneCell']) (by simp only [maxLen]; omega) (by omega) (by have := hB.size; simp; omega) ?_; intro v' w2 hown' hgrow _; obtain ⟨g', cap', rfl⟩ := ownsRow_succ hown'; obtain ⟨hv1, hv2, hr2, hk2, hb2⟩ := hv.appended (by decide) hrow hB.size HL.out hown' hgrow; have hc1 := hv1.cell; have hf1 := hv1.frozen)
      exact ⟨hk2.from _, pg hv hrow hB.size HL.out hown' hgrow, ⟨_, hv2, by simpa using hr2⟩, hF.grownA hgrow hrow (by decide) HN.out.1, hO.grownA hgrow hrow (by decide) HN.out.2.1, mn hfe (oO hx), hB.trans hb2⟩
  case done =>
    rintro D ys W hD rfl ⟨⟨v, hv, hrow⟩, hF, hO, hfe, hB⟩ hK; obtain ⟨Av, cv, rfl⟩ := bV hrow
    have ow := (IZ hB hv hF hO HL.out HF.out HO.out HN.out).consT (t := Th.row w.heap.size 2 1 _ _ _) hrow (fun g e => (World.ownsRow.lt hrow g e).1) (fun s hs g e => by
      simp only [List.mem_cons, List.not_mem_nil, or_false] at hs
      rcases hs with rfl | rfl | rfl
      · exact fun c => Box.not_row16 hv (by decide) hrow g c e
      · exact fun c => Box.not_row16 hF (by decide) hrow g c e
      · exact fun c => Box.not_row16 hO (by decide) hrow g c e)
    refine h6 _ _ ?_; refine wpIn_seq (wpIn_region_lit ?_); refine bB (v := .slice Av (upE (aH l)).length cv) (aC rfl) (dY rfl (by kernel_rfl) rfl (ow.box 1 rfl) rfl) ?_; refine bB (v := .agg #[.int .u8 0, .int .i64 0, .string ⟨#[]⟩]) (aC rfl) (cG (us := #[]) rfl (by simp) (by kernel_rfl)) ?_; refine pi ow 1 0 (aC rfl) rfl rfl rfl rfl (by kernel_rfl) rfl (fW rfl rfl) rfl fun W1 ow c1 => ?_; refine pi ow 2 0 (aC rfl) rfl rfl rfl rfl (by kernel_rfl) rfl rfl rfl fun W2 ow c2 => ?_; refine pi ow 3 0 (aC rfl) rfl rfl rfl rfl (by kernel_rfl) rfl rfl rfl fun W3 ow c3 => ?_; refine wpListIn_nil ?_; have hK3 := c3.same D _ (c2.same D _ (c1.same D _ hK rfl) rfl) rfl; have hD3 : w.heap.size ≤ D := Nat.le_trans hle hD; refine wpIn_ret (rd rfl hK3 ?_); have hfe' := nN hfe; have hrow3 := ownsRow_putObj (ow.row 0 rfl) (.deferred none) hK3 rfl; refine ac (v := .tuple #[.slice Av (upE (aH l)).length cv, ae aj, .bool true]) rfl (.cons (jH rfl (by kernel_rfl) (Box.putD (ow.box 1 rfl) hK3) rfl) (.cons (oA (n := 3) [.int .u8 0, .int .i64 0, .string ⟨#[]⟩] rfl (by kernel_rfl) (by kernel_rfl) (Box.putD (ow.box 2 rfl) hK3) (Nat.le_of_ble_eq_true rfl) rfl) (.cons (jH rfl (by kernel_rfl) (Box.putD (ow.box 3 rfl) hK3) rfl) .nil))) rfl rfl ?_; refine ⟨_, _, _, rfl, Below.trans ow.kept ?_, Or.inr ⟨rfl, rfl, hfe', ?_⟩⟩
    · exact (belowK_b (w := w1) (n₀ := w.heap.size) hle W3 D _ _ hD hK3 rfl rfl)
    · rw [oM hfe'] at hrow3 ⊢
      rw [List.length_map, List.map_map]; exact hrow3
  case stop =>
    rintro D c pre W hD hpre ⟨rfl, p, x, rfl, hfe, hie, hL, hF, hO, hB⟩ hK; refine wpIn_ret (rd rfl hK ?_); refine ac (v := .tuple #[.slice none 0 0, ae x, .bool false]) rfl (.cons (jH rfl (by kernel_rfl) (Box.putD hL hK) rfl) (.cons (oA (n := 3) [.int .u8 x.k, .int .i64 x.n, .string ⟨x.t.toArray⟩] rfl (by kernel_rfl) (by kernel_rfl) (Box.putD hF hK) (Nat.le_of_ble_eq_true rfl) rfl) (.cons (jH rfl (by kernel_rfl) (Box.putD hO hK) rfl) .nil))) rfl rfl ?_; obtain ⟨r, hr⟩ := hpre; refine ⟨_, _, _, rfl, hB.trans (belowK_b (w := w1) (n₀ := w.heap.size) hle W D _ _ hD hK rfl rfl), Or.inl ⟨rfl, rfl, ?_⟩⟩; rw [← hr, List.append_assoc]; exact EA hfe hie
end

section
open Go.RowKit Lv
set_option maxRecDepth 100000
theorem GU {x y : Int} (hx : i64 x) (hy : i64 y) : All64 [x, y] := fun z hz => by
  simp only [List.mem_cons, List.not_mem_nil, or_false] at hz
  rcases hz with rfl | rfl
  · exact hx
  · exact hy
theorem num64 {v : Vl} (h : i64 v.n) : i64 (aL v).n := by
  obtain ⟨h1, h2⟩ := h
  by_cases ok : vOk v = true
  · rcases fd ok with rfl | ⟨n, hn, rfl⟩ | rfl | rfl | ⟨t, ht, rfl⟩ | ⟨c, c1, c2, rfl⟩
    · exact ⟨by decide, by decide⟩
    · unfold aL; rw [ok]; exact ⟨h1, h2⟩
    · exact ⟨by decide, by decide⟩
    · exact ⟨by decide, by decide⟩
    · unfold aL; rw [ok]; exact (kn t).1
    · unfold aL; rw [ok]; exact ⟨h1, h2⟩
  · unfold aL; rw [if_pos (by simpa using ok)]; exact ⟨by decide, by decide⟩
theorem sY {l : List Ar} (h : ∀ a ∈ l, aY a) : All64 ((aH l).map Vl.n) := fun x hx => by
  obtain ⟨v, hv, rfl⟩ := List.mem_map.1 hx; obtain ⟨L, hL, hvL⟩ := List.mem_flatten.1 hv; obtain ⟨a, ha, rfl⟩ := List.mem_map.1 hL; unfold rK at hvL
  split at hvL
  · obtain ⟨c, hc, rfl⟩ := List.mem_map.1 (List.mem_filter.1 hvL).1
    exact ((h a ha).2 c hc).1
  · rw [List.mem_singleton.1 hvL]
    exact num64 (h a ha).1.1
theorem Ab (a : Ar) : (aH [a]).length ≤ a.l.length + 1 := by
  rw [uA, show aH [] = [] from rfl, List.append_nil]; unfold rK
  split
  · have := List.length_filter_le (fun v : Vl => decide (v.k = 1 ∨ v.k = 4)) (a.l.map Cl.v)
    rw [List.length_map] at this
    omega
  · exact Nat.succ_le_succ (Nat.zero_le _)
theorem ArgsAt.take1 {w : World} {A : Option Addr} {a b : Ar} (h : ArgsAt w A [a, b]) : ArgsAt w A [a] := by
  obtain ⟨L, e, r, c⟩ := h; refine ⟨L.take 1, by rw [List.map_take, e]; rfl, r.take 1, fun p hp => c p (List.mem_of_mem_take hp)⟩
theorem re {a : Act} {w : World} {o : Oper} {x : Operand} {A : Option Addr} {b off n cap : Nat} (ho : o.op = .slice 22 x none (some (.const (.int .i64 1))) none) (hA : A = some ⟨b, off, none⟩) (hx : a.eval x = .slice A n cap) (hc : 1 ≤ cap) : (execOp a.eval o).run Tryz.prog w = .ok (.value (.slice A 1 cap)) w := by
  subst hA; have hr := run_underlying (w := w) Tryz.underlying22; have hz : (sizeOf 39).run Tryz.prog w = .ok 9 w := by kernel_rfl
  have c1 : (1 : Int) ≤ (cap : Int) := by omega
  have c2 : ¬ cap = 0 := by omega
  unfold execOp; rw [ho]
  simp only [hx, Option.map_some, Option.map_none, show a.eval (.const (.int .i64 1)) = .int .i64 1 from rfl]
  go_simp
theorem eE {L : List Int} {k : Nat} (h : All64 L) (hk : k < L.length) : i64 (L.getD k 0) := h _ (dn hk)
theorem mB {l : List Ar} {x : Vl} (h : ax (aH l) = some x) : cE l = ([], x, false) := by unfold cE; rw [h]
theorem gT {l : List Ar} (h : ax (aH l) = none) : cE l = ((aH l).map Vl.n, aj, true) := by unfold cE; rw [h]
theorem Cz {a : Ar} {k x : Vl} {d : Bool} (h : ax (aH [a]) = some x) : cH a k d = x := by
  unfold cH; rw [mB h, if_pos rfl]
theorem Ac {k : Vl} (h : (p16 k).2.2 = false) : isE (aL k) = true ∧ (p16 k).2.1 = aL k := by
  unfold p16 at *
  split at h
  · rename_i e; rw [if_pos e]; exact ⟨e, rfl⟩
  · cases h
theorem kx {k : Vl} (h : (p16 k).2.2 = true) : isE (aL k) = false ∧ (p16 k).1 = dK k := by
  unfold p16 at *
  split at h
  · cases h
  · rename_i e; rw [if_neg e]; exact ⟨by simpa using e, rfl⟩
theorem CC {a : Ar} {k : Vl} {d : Bool} (h : ax (aH [a]) = none) (p : (p16 k).2.2 = false) : (p16 k).2.1 = cH a k d := by
  obtain ⟨h1, h2⟩ := Ac p; unfold cH; rw [gT h, if_neg (fun c => by cases c), if_pos h1, h2]
theorem rank_out {a : Ar} {k : Vl} {d : Bool} {L : List Int} (h : ax (aH [a]) = none) (p : (p16 k).2.2 = true) (hL : L = (aH [a]).map Vl.n) (o : ((p16 k).1 : Int) < (1 : Int) ∨ ((L.length : Nat) : Int) < ((p16 k).1 : Int)) : aG 3 = cH a k d := by
  obtain ⟨h1, h2⟩ := kx p; unfold cH; rw [gT h, if_neg (fun c => by cases c), if_neg (by rw [h1]; decide), ← hL, if_pos (by rw [← h2]; exact o)]
theorem Ad {a : Ar} {k : Vl} {d e : Bool} {L : List Int} {m : Nat} (h : ax (aH [a]) = none) (p : (p16 k).2.2 = true) (hL : L = (aH [a]).map Vl.n) (o : ¬ (((p16 k).1 : Int) < (1 : Int) ∨ ((L.length : Nat) : Int) < ((p16 k).1 : Int))) (hm : (p16 k).1 = (m : Int) + 1) (hd : d = e) : cH a k d = ay ((if e then (ar L).reverse else ar L).getD m 0) := by
  obtain ⟨h1, h2⟩ := kx p; subst hd; unfold cH; rw [gT h, if_neg (fun c => by cases c), if_neg (by rw [h1]; decide), ← hL, if_neg (by rw [← h2]; exact o), ← h2, hm, show ((m : Int) + 1 - 1).toNat = m by omega]
theorem iA : En 57 := by intro args w; go_simp
theorem dX : En 102 := by intro args w; go_simp
theorem cN : En 101 := by intro args w; go_simp
theorem rf (w0 w : World) (T : List Th) (b g cap : Nat) (l : List Int) (ow : Own w0 (Th.row b 2 1 (.slice (some ⟨g, 0, none⟩) l.length cap) l.length (l.map cj) :: T) w) (h0 : 0 < l.length) (h64 : All64 l) (hl : l.length ≤ 1000000) :
    Calls Tryz.prog 99 #[.slice (some ⟨g, 0, none⟩) l.length cap] w fun e w' => e = .returned (ae (if l.length % 2 = 1 then ay ((ar l).getD (l.length / 2) 0) else eX (bM [(ar l).getD (l.length / 2 - 1) 0, (ar l).getD (l.length / 2) 0]))) ∧ Own w0 T w' := by
  have hs64 := iY h64; have hsl := aq l; go_enter Tryz.func99, Tryz.ntmps99; refine z00 36 [(0, .slice (some ⟨g, 0, none⟩) l.length cap)] ?_; intro _ s; have s := s.ow ow; refine zr s 1 (zV Z0 oZ) ?_; intro gb1 _ fw s; refine sq fun hK1 => ?_; refine zr s 3 (zE (zP (zN (zP Z0))) (y := .bool false) (congrArg Value.bool (by rw [decide_eq_false_iff_not]; omega))) ?_; intro _ fw s; refine zx s ?_; refine wp_skip ?_; refine tn hK1 ?_; refine zt_ s 1 (zP Z0) ?_; intro _ fw s K2 hK2; refine aU (aC rfl) (bZ (u := .slice (some ⟨g, 0, none⟩) l.length cap) rfl (s.g 8) (cN _ _)) ((wD s.o (by first | rfl | (simp only [aq, List.length_reverse])) (by first | assumption | (simp only [aq, List.length_reverse]; assumption))).mono ?_); rintro _ fw ⟨rfl, hO⟩; refine ⟨_, rfl, ?_⟩; rcases (rfl : (0 : Nat) = 0) with _
  have ow := hO; refine zg (s.ow ow) ?_; intro _ fw s; refine wt hK2 ?_; refine zr s 4 (zP (zE (zO (zN (zP Z0)) (v := .int .i64 (Int.tdiv ((l.length : Nat) : Int) 2)) fun cc => Bb (Or.inl rfl) rfl cc.e rfl (by omega) (by omega) (by omega)) (y := .int .i64 ((l.length / 2 : Nat) : Int)) (congrArg (Value.int .i64) (ES l.length)))) ?_; intro _ fw s; refine sq fun hK3 => ?_; refine zr s 4 (zP (zO (zN (zP Z0)) (v := .int .i64 (((l.length) % 2 : Nat) : Int)) fun cc => Io (Or.inl rfl) rfl cc.e rfl (by omega) (by omega))) ?_; intro _ fw s; refine zi_ s ?_ ?_
  ·intro hc1
   refine zt_ s 5 (zC (zO (zO (zP (zP Z0)) fun cc => cO (k := (l.length / 2)) rfl rfl cc.e cc.e (by omega)) fun cc => sQ rfl (by kernel_rfl) cc.e (cc.ow.row 1 rfl) (by first | omega | (simp only [aq, List.length_reverse]; omega))) fun cc => dx ((ar l).getD (l.length / 2) 0) _ (hs64 _ (dn (by omega))).1 (hs64 _ (dn (by omega))).2) ?_; intro _ fw s K4 hK4; refine zS s 0 ?_; intro fw s; refine wt hK4 ?_; refine wp_ret ?_; refine ag ?_; refine ac (v := ae (ay ((ar l).getD (l.length / 2) 0))) rfl (.cons (rC s 3 0) .nil) rfl s.q ?_; exact ⟨congrArg (fun v => Ending.returned (ae v)) (by rw [if_pos (by omega)]), s.o.tail.tail⟩
  intro hc1; refine wp_skip ?_; refine tn hK3 ?_; refine zt_ s 14 (zC (zP (zP (zK (zNl (zO (zO (zP (zP (zO (zO (zE (zSb (zP (zP Z0))) (y := .int .i64 ((l.length / 2 - 1 : Nat) : Int)) (congrArg (Value.int .i64) (by omega))) fun cc => cO (k := (l.length / 2 - 1)) rfl rfl cc.e cc.e (by omega)) fun cc => sQ rfl (by kernel_rfl) cc.e (cc.ow.row 1 rfl) (by first | omega | (simp only [aq, List.length_reverse]; omega))))) fun cc => cO (k := (l.length / 2)) rfl rfl cc.e cc.e (by omega)) fun cc => sQ rfl (by kernel_rfl) cc.e (cc.ow.row 1 rfl) (by first | omega | (simp only [aq, List.length_reverse]; omega))) (b := .cells #[.int .i64 ((ar l).getD (l.length / 2 - 1) 0), .int .i64 ((ar l).getD (l.length / 2) 0)] 2 (0, 0)) (m := 2) fun cc => Dw rfl cc.e cc.e (by kernel_rfl)) (v := .tuple #[.int .i64 ((bM [(ar l).getD (l.length / 2 - 1) 0, (ar l).getD (l.length / 2) 0]).1), .bool ((bM [(ar l).getD (l.length / 2 - 1) 0, (ar l).getD (l.length / 2) 0]).2)]) fun cc => by obtain ⟨g9, e9, _, h9⟩ := cc.sl (t := 31) (b := .cells #[.int .i64 ((ar l).getD (l.length / 2 - 1) 0), .int .i64 ((ar l).getD (l.length / 2) 0)] 2 (0, 0)) (m := 2); exact ⟨_, _, bZ (u := .slice (some ⟨g9, 0, none⟩) 2 2) rfl e9 (sP _ _), uD (some ⟨g9, 0, none⟩) 2 [(ar l).getD (l.length / 2 - 1) 0, (ar l).getD (l.length / 2) 0] _ (ER h9) (GU (hs64 _ (dn (by omega))) (hs64 _ (dn (by omega)))) (Nat.le_of_ble_eq_true rfl)⟩))) fun cc => iW ((bM [(ar l).getD (l.length / 2 - 1) 0, (ar l).getD (l.length / 2) 0]).1) ((bM [(ar l).getD (l.length / 2 - 1) 0, (ar l).getD (l.length / 2) 0]).2) _ (fun _ => mean_i64 _)) ?_
  intro gb2 _ fw s K5 hK5; refine zS s 1 ?_; intro fw s; refine wt hK5 ?_; refine wp_ret ?_; refine ac (v := ae (eX ((bM [(ar l).getD (l.length / 2 - 1) 0, (ar l).getD (l.length / 2) 0]).1, (bM [(ar l).getD (l.length / 2 - 1) 0, (ar l).getD (l.length / 2) 0]).2))) rfl (.cons (rC s 3 1) .nil) rfl s.q ?_; exact ⟨congrArg (fun v => Ending.returned (ae v)) (by rw [if_neg (by omega)]), s.o.tail.tail.tail⟩
theorem mC (A : Option Addr) (cap : Nat) (a b : Ar) (desc : Bool) (w : World) (mx : Int) (HM : Mx w mx) (hr : ArgsAt w A [a, b]) (ha : aY a) (hb : aY b) (hla : a.l.length ≤ 900000) (hc : 2 ≤ cap) :
    Calls Tryz.prog 64 #[.slice A 2 cap, .bool desc] w fun e w' => e = .returned (ae (cH a b.v desc)) ∧ Kept w w' := by
  obtain ⟨b0, o0, S0, z0, hA0, e0, q0, y0⟩ := hr.elem (i := 0) rfl; obtain ⟨b1, o1, S1, z1, hA1, e1, q1, y1⟩ := hr.elem (i := 1) rfl; have hs1 : ∀ x ∈ [a], aY x := fun x hx => by rw [List.mem_singleton.1 hx]; exact ha
  have hl1 : ∀ x ∈ [a], x.l.length ≤ 1000000 := fun x hx => by rw [List.mem_singleton.1 hx]; omega
  have hn1 : (aH [a]).length ≤ 1000000 := by have := Ab a; omega
  go_enter Tryz.func64, Tryz.ntmps64; refine z00 51 [(0, .slice A 2 cap), (1, .bool desc)] ?_; intro _ s; refine zr s 1 (zV Z0 oZ) ?_; intro gb1 _ fw s; refine zt_ s 2 (zO (zP Z0) fun cc => by exact re rfl hA0 cc.e (by omega)) ?_; intro _ fw s K1 hK1; refine aU (aC rfl) (bZ (u := .slice A 1 cap) rfl (s.g 11) (iA _ _)) ((kX A cap [a] _ mx (HM.kept s.o.kept) (ArgsAt.take1 (hr.kept s.o.kept)) hs1 (by simp) hl1 hn1).mono ?_); rintro _ fw ⟨v, x, b, rfl, hk, hcv⟩; refine ⟨_, rfl, ?_⟩; rcases hcv with ⟨rfl, rfl, hfst⟩ | ⟨rfl, rfl, hfst, hown⟩
  ·skip
   have ow := s.o.keep hk; clear hk; refine zg (s.ow ow) ?_; intro _ fw s; refine zw s ?_; intro _ fw s; refine zw s ?_; intro _ fw s; refine zw s ?_; intro _ fw s; refine zw s ?_; intro _ fw s; refine ct s.o (aC rfl) (dv (b := oZ) rfl (by kernel_rfl)) fun gb2 fw ow => ?_; refine zg (s.ow ow) ?_; intro _ fw s; refine zw s ?_; intro _ fw s; refine zS s 0 ?_; intro fw s; refine zw s ?_; intro _ fw s; refine wt hK1 ?_; refine sq fun hK2 => ?_; refine zr s 2 (zP (zP Z0)) ?_; intro _ fw s; refine zy s ?_; refine zt_ s 1 (zA Z0 (ae x) 3 0) ?_; intro _ fw s K3 hK3; refine zS s 1 ?_; intro fw s; refine wt hK3 ?_; refine wp_ret ?_; refine ag ?_; refine ac (v := ae x) rfl (.cons (rC s 3 1) .nil) rfl s.q ?_; exact ⟨congrArg (fun v => Ending.returned (ae v)) ((Cz hfst).symm), s.o.kept⟩
  obtain ⟨L, hL⟩ : ∃ L, L = (aH [a]).map Vl.n := ⟨_, rfl⟩; rw [← hL] at hown; have ow := s.o.add (t := Th.row _ 2 1 v L.length (L.map cj)) hown hk (fun g e => (World.ownsRow.lt hown g e).1); clear hk hown; obtain ⟨LA, lc, rfl⟩ := bV (ow.row 0 rfl); have hL64 : All64 L := by rw [hL]; exact sY hs1
  have hLn : L.length ≤ 1000000 := by rw [hL, List.length_map]; exact hn1
  refine zg (s.ow ow) ?_; intro _ fw s; refine zw s ?_; intro _ fw s; refine zw s ?_; intro _ fw s; refine zw s ?_; intro _ fw s; refine zw s ?_; intro _ fw s; refine ct s.o (aC rfl) (dv (b := oZ) rfl (by kernel_rfl)) fun gb3 fw ow => ?_; refine zg (s.ow ow) ?_; intro _ fw s; refine zw s ?_; intro _ fw s; refine zS s 0 ?_; intro fw s; refine zw s ?_; intro _ fw s; refine wt hK1 ?_; refine sq fun hK4 => ?_; refine zr s 2 (zP (zP Z0)) ?_; intro _ fw s; refine zx s ?_; refine wp_skip ?_; refine tn hK4 ?_; refine zt_ s 10 (zP (zP (zP (zP (zP (zC (zO (zF (zO (zP Z0) fun cc => al 9 Tryz.underlying22 (by kernel_rfl) rfl hA1 cc.e rfl (Nat.le_of_ble_eq_true rfl)) (o1 + 1 * 9 + 1)) (v := ae b.v) fun cc => bf (n := 3) 1 rfl (by kernel_rfl) (by kernel_rfl) cc.e rfl (e1.kept cc.ow.kept)) fun cc => eI b.v _ mx (HM.kept cc.ow.kept) hb.1)))))) ?_; intro _ fw s K5 hK5; refine zS s 0 ?_; intro fw s; refine zw s ?_; intro _ fw s; refine wt hK5 ?_; refine sq fun hK6 => ?_; refine zr s 2 (zP (zP Z0)) ?_; intro _ fw s; refine zb s (jc (Iff.rfl)) ?_ ?_
  ·intro hc1
   have hpb : (p16 b.v).2.2 = false := by simpa using hc1
   refine zt_ s 1 (zA Z0 (ae ((p16 b.v).2.1)) 3 0) ?_; intro _ fw s K7 hK7; refine zS s 2 ?_; intro fw s; refine wt hK7 ?_; refine wp_ret ?_; refine ag ?_; refine ac (v := ae ((p16 b.v).2.1)) rfl (.cons (rC s 3 2) .nil) rfl s.q ?_; exact ⟨congrArg (fun v => Ending.returned (ae v)) (CC hfst hpb), s.o.kept⟩
  intro hc1; have hpo : (p16 b.v).2.2 = true := by simpa using hc1
  refine wp_skip ?_; refine tn hK6 ?_; refine sq fun hK8 => ?_; refine zr s 8 (zO (zPi (zNi (zPi (zPi (zP (zP (zP Z0))))))) fun cc => gA rfl cc.e rfl (fun hb => cc.f hb)) ?_; intro _ fw s; refine zb s (bor (decide_eq_true_iff) (decide_eq_true_iff)) ?_ ?_
  ·intro hc2
   have hout := hc2; refine zt_ s 1 (zC Z0 fun cc => cz 3 _) ?_; intro _ fw s K9 hK9; refine zS s 2 ?_; intro fw s; refine wt hK9 ?_; refine wp_ret ?_; refine ag ?_; refine ac (v := ae (aG 3)) rfl (.cons (rC s 3 2) .nil) rfl s.q ?_; exact ⟨congrArg (fun v => Ending.returned (ae v)) (rank_out hfst hpo hL hout), s.o.kept⟩
  intro hc2; have hin := hc2; obtain ⟨m, hm⟩ : ∃ m : Nat, (p16 b.v).1 = (m : Int) + 1 := ⟨((p16 b.v).1 - 1).toNat, by omega⟩; refine wp_skip ?_; refine tn hK8 ?_; have ow := s.o.perm (List.Perm.swap _ _ _); obtain ⟨g1, c1, hv9, ow⟩ := qK ow (by omega)
  cases hv9
  have hs64 := iY hL64; have hsl := aq L; have s := s.ow ow; refine zt_ s 1 (zP Z0) ?_; intro _ fw s K10 hK10; refine aU (aC rfl) (bZ (u := .slice (some ⟨g1, 0, none⟩) L.length lc) rfl (s.g 40) (cN _ _)) ((qL s.o (by first | rfl | (simp only [aq, List.length_reverse])) (by first | assumption | (simp only [aq, List.length_reverse]; assumption))).mono ?_); rintro _ fw ⟨rfl, hO⟩; refine ⟨_, rfl, ?_⟩; rcases (rfl : (0 : Nat) = 0) with _
  have ow := hO; refine zg (s.ow ow) ?_; intro _ fw s; refine wt hK10 ?_; refine sq fun hK11 => ?_; refine zr s 1 (zP Z0) ?_; intro _ fw s; refine zb s (Iff.rfl) ?_ ?_
  ·intro hc3
   have hdt := hc3; refine zu s 1 (by exact zP Z0) ?_; intro _ fw s; refine aU (aC rfl) (bZ (u := .slice (some ⟨g1, 0, none⟩) L.length lc) rfl (s.g 43) (dX _ _)) ((qM s.o (by first | rfl | (simp only [aq, List.length_reverse])) (by first | assumption | (simp only [aq, List.length_reverse]; assumption))).mono ?_); rintro _ fw ⟨rfl, hO⟩; refine ⟨_, rfl, ?_⟩; rcases (rfl : (0 : Nat) = 0) with _
   have ow := hO; refine zg (s.ow ow) ?_; intro _ fw s; refine wt hK11 ?_; refine zt_ s 6 (zC (zO (zO (zE (zSb (zP (zP Z0))) (y := .int .i64 ((m : Nat) : Int)) (congrArg (Value.int .i64) (by omega))) fun cc => cO (k := (m)) rfl rfl cc.e cc.e (by omega)) fun cc => sQ rfl (by kernel_rfl) cc.e (cc.ow.row 0 rfl) (by first | omega | (simp only [aq, List.length_reverse]; omega))) fun cc => dx (((ar L).reverse).getD (m) 0) _ (by first | exact (eE hs64 (by simp only [aq, List.length_reverse]; omega)).1 | exact (eE (uF hs64) (by simp only [aq, List.length_reverse]; omega)).1) (by first | exact (eE hs64 (by simp only [aq, List.length_reverse]; omega)).2 | exact (eE (uF hs64) (by simp only [aq, List.length_reverse]; omega)).2)) ?_; intro _ fw s K12 hK12; refine zS s 2 ?_; intro fw s; refine wt hK12 ?_; refine wp_ret ?_; refine ac (v := ae (ay (((ar L).reverse).getD (m) 0))) rfl (.cons (rC s 3 2) .nil) rfl s.q ?_; exact ⟨congrArg (fun v => Ending.returned (ae v)) ((Ad hfst hpo hL hin hm hdt).symm), s.o.kept⟩
  intro hc3; have hdf := Bool.eq_false_iff.2 hc3; refine wp_skip ?_; refine tn hK11 ?_; refine zt_ s 6 (zC (zO (zO (zE (zSb (zP (zP Z0))) (y := .int .i64 ((m : Nat) : Int)) (congrArg (Value.int .i64) (by omega))) fun cc => cO (k := (m)) rfl rfl cc.e cc.e (by omega)) fun cc => sQ rfl (by kernel_rfl) cc.e (cc.ow.row 0 rfl) (by first | omega | (simp only [aq, List.length_reverse]; omega))) fun cc => dx ((ar L).getD (m) 0) _ (by first | exact (eE hs64 (by simp only [aq, List.length_reverse]; omega)).1 | exact (eE (uF hs64) (by simp only [aq, List.length_reverse]; omega)).1) (by first | exact (eE hs64 (by simp only [aq, List.length_reverse]; omega)).2 | exact (eE (uF hs64) (by simp only [aq, List.length_reverse]; omega)).2)) ?_; intro _ fw s K13 hK13; refine zS s 2 ?_; intro fw s; refine wt hK13 ?_; refine wp_ret ?_; refine ac (v := ae (ay ((ar L).getD (m) 0))) rfl (.cons (rC s 3 2) .nil) rfl s.q ?_; exact ⟨congrArg (fun v => Ending.returned (ae v)) ((Ad hfst hpo hL hin hm hdf).symm), s.o.kept⟩
end

section
open Go.RowKit Lv
set_option maxRecDepth 100000
section
variable {o : Oper} {a : Act} {w : World}
theorem wN {T : TypeId} (ho : o.op = .makeMap T none) : (execOp a.eval o).run Tryz.prog w = .ok (.value (.map (some w.heap.size))) (w.alloc (.map #[] 0)) := by
  have hr := run_makeMap_plain (P := Tryz.prog) w T; unfold execOp
  simp only [ho, Option.map_none, Sem.run_bind, Sem.run_pure, hr, Result.andThen_ok]
theorem Ae {x y z : Operand} {g k clock : Nat} {es : Array MapEntry} {v : Value} (ho : o.op = .insert 97 x y z) (hx : a.eval x = .map (some g)) (hy : a.eval y = .int .u8 k) (hz : a.eval z = v) (hb : w.heap[g]? = some (.map es clock)) (hf : Instr.findNow (.int .u8) (.int .u8 k) es.toList 0 = some none) :
    (execOp a.eval o).run Tryz.prog w = .ok .skip { w with heap := w.heap.setIfInBounds g (.map (es.push ⟨.int .u8 k, v, clock⟩) (clock + 1)) } := by
  have hc : (Instr.checkKey false 10000 5 (.int .u8 k)).run Tryz.prog w = .ok () w := MapKept.run_checkKey (k := .int .u8 k) Tryz.underlying5 (by simp [MapKept.IsKey]) false 9999
  have hr : (Instr.mapUpdate 97 (.map (some g)) (.int .u8 k) v).run Tryz.prog w = .ok () { w with heap := w.heap.setIfInBounds g (.map (es.push ⟨.int .u8 k, v, clock⟩) (clock + 1)) } := by
    simp [Instr.mapUpdate, run_underlying Tryz.underlying97, MapKept.run_getObj_map hb, hc, MapKept.run_findKey Tryz.underlying5 hf, MapKept.run_setObj_map _ hb, Result.andThen]
  unfold execOp
  simp only [ho, hx, hy, hz, Sem.run_bind, Sem.run_pure, hr, Result.andThen_ok]
theorem Fa {x y : Operand} {g k clock i : Nat} {es : Array MapEntry} {v : Value} (ho : o.op = .lookup 97 x y false) (hx : a.eval x = .map (some g)) (hy : a.eval y = .int .u8 k) (hb : w.heap[g]? = some (.map es clock)) (hf : Instr.findNow (.int .u8) (.int .u8 k) es.toList 0 = some (some (i, v))) :
    (execOp a.eval o).run Tryz.prog w = .ok (.value v) w := by
  have hc : (Instr.checkKey es.isEmpty 10000 5 (.int .u8 k)).run Tryz.prog w = .ok () w := MapKept.run_checkKey (k := .int .u8 k) Tryz.underlying5 (by simp [MapKept.IsKey]) _ 9999
  have hr : (Instr.lookup 97 (.map (some g)) (.int .u8 k) false).run Tryz.prog w = .ok v w := by
    simp [Instr.lookup, run_underlying Tryz.underlying97, MapKept.run_getObj_map hb, hc, MapKept.run_findKey Tryz.underlying5 hf, Result.andThen]
  unfold execOp
  simp only [ho, hx, hy, Sem.run_bind, Sem.run_pure, hr, Result.andThen_ok]
theorem et {x y : Operand} {g k clock : Nat} {es : Array MapEntry} (ho : o.op = .lookup 97 x y false) (hx : a.eval x = .map (some g)) (hy : a.eval y = .int .u8 k) (hb : w.heap[g]? = some (.map es clock)) (hf : Instr.findNow (.int .u8) (.int .u8 k) es.toList 0 = some none) :
    (execOp a.eval o).run Tryz.prog w = .ok (.value .nilFunc) w := by
  have hc : (Instr.checkKey es.isEmpty 10000 5 (.int .u8 k)).run Tryz.prog w = .ok () w := MapKept.run_checkKey (k := .int .u8 k) Tryz.underlying5 (by simp [MapKept.IsKey]) _ 9999; have hz : (zeroValue 96).run Tryz.prog w = .ok .nilFunc w := by kernel_rfl
  have hr : (Instr.lookup 97 (.map (some g)) (.int .u8 k) false).run Tryz.prog w = .ok .nilFunc w := by
    simp [Instr.lookup, run_underlying Tryz.underlying97, MapKept.run_getObj_map hb, hc, MapKept.run_findKey Tryz.underlying5 hf, Result.andThen, hz]
  unfold execOp
  simp only [ho, hx, hy, Sem.run_bind, Sem.run_pure, hr, Result.andThen_ok]
theorem Jp {T2 : TypeId} {x : Operand} {f : Fn} {b c : Array Value} (ho : o.op = .binOp .neq 96 x (.const .nilFunc) T2) (hx : a.eval x = .func f b c) : (execOp a.eval o).run Tryz.prog w = .ok (.value (.bool true)) w := by
  unfold execOp; rw [ho]
  simp only [hx, show a.eval (.const .nilFunc) = .nilFunc from rfl]
  have h : (binOp .neq 96 (.func f b c) .nilFunc).run Tryz.prog w = .ok (.bool true) w := by kernel_rfl
  have hg : (eqGuard .neq 96 x (.const .nilFunc) (.func f b c) .nilFunc).run Tryz.prog w = .ok () w := by kernel_rfl
  simp only [Sem.run_bind, Sem.run_pure, hg, h, Result.andThen_ok]
theorem Bd {T2 : TypeId} {x : Operand} (ho : o.op = .binOp .neq 96 x (.const .nilFunc) T2) (hx : a.eval x = .nilFunc) : (execOp a.eval o).run Tryz.prog w = .ok (.value (.bool false)) w := by
  unfold execOp; rw [ho]
  simp only [hx, show a.eval (.const .nilFunc) = .nilFunc from rfl]
  have h : (binOp .neq 96 .nilFunc .nilFunc).run Tryz.prog w = .ok (.bool false) w := by kernel_rfl
  have hg : (eqGuard .neq 96 x (.const .nilFunc) .nilFunc .nilFunc).run Tryz.prog w = .ok () w := by kernel_rfl
  simp only [Sem.run_bind, Sem.run_pure, hg, h, Result.andThen_ok]
end
theorem Own.put16 {w0 w : World} {H : List Th} (h : Own w0 H w) (k : Nat) {g : Nat} {b : Obj} (e : H[k]? = some (Th.obj g b)) (b' : Obj) : Own w0 (H.set k (Th.obj g b')) { w with heap := w.heap.setIfInBounds g b' } :=
  h.turn k e (t' := Th.obj g b') (by have hb := h.get k e; have hg := (Array.getElem?_eq_some_iff.1 hb).1; show (w.heap.setIfInBounds g b')[g]? = some b'; rw [Array.getElem?_setIfInBounds_self_of_lt hg]) ⟨rfl, rfl, rfl, by simp, fun j hj ne => Array.getElem?_setIfInBounds_ne (fun c => ne (by rw [c]; rfl))⟩ (Or.inl rfl)
theorem eu {ops : Array Oper} {rest : List Oper} {Q : Exit → Act → World → Prop} {o : Oper} {a : Act} {w w0 : World} {H : List Th} {x y z : Operand} {g k clock : Nat} {es : Array MapEntry} {v : Value} (h : Own w0 H w) (hw : Region.wanted o (yielded ops a.tmps) = true) (hn : o.dst = none) (ho : o.op = .insert 97 x y z) (hx : a.eval x = .map (some g)) (hy : a.eval y = .int .u8 k) (hz : a.eval z = v) (q : Nat) (e : H[q]? = some (Th.obj g (.map es clock))) (hf : Instr.findNow (.int .u8) (.int .u8 k) es.toList 0 = some none)
    (c : ∀ w', Own w0 (H.set q (Th.obj g (.map (es.push ⟨.int .u8 k, v, clock⟩) (clock + 1)))) w' → wpList Tryz.prog ops Q rest a w') : wpList Tryz.prog ops Q (o :: rest) a w :=
  lV hw hn (Ae ho hx hy hz (h.get q e) hf) (c _ (h.put16 q e _))
def m16 (fn : Nat) : FuncId := if fn = 9 then 94 else if fn = 10 then 95 else if fn = 14 then 96 else if fn = 15 then 97 else if fn = 16 then 98 else if fn = 17 then 99 else if fn = 46 then 94 else if fn = 48 then 96 else if fn = 49 then 97 else 98
def DL : List Nat := [9, 10, 14, 15, 16, 17, 46, 48, 49, 50]
def cT : Nat → Array MapEntry
  | 0 => #[]
  | k + 1 => (cT k).push ⟨.int .u8 (DL.getD k 0 : Nat), .func (.func (m16 (DL.getD k 0))) #[] #[], k⟩
theorem nU {fn : Nat} (h : cw fn = true) : fn = 9 ∨ fn = 10 ∨ fn = 14 ∨ fn = 15 ∨ fn = 16 ∨ fn = 17 ∨ fn = 46 ∨ fn = 48 ∨ fn = 49 ∨ fn = 50 := by
  unfold cw at h; rw [decide_eq_true_eq] at h; exact h
theorem CD {fn : Nat} (h : cw fn = true) : ∃ i, Instr.findNow (.int .u8) (.int .u8 fn) (cT 10).toList 0 = some (some (i, .func (.func (m16 fn)) #[] #[])) := by
  rcases nU h with rfl | rfl | rfl | rfl | rfl | rfl | rfl | rfl | rfl | rfl
  · exact ⟨0, by kernel_rfl⟩
  · exact ⟨1, by kernel_rfl⟩
  · exact ⟨2, by kernel_rfl⟩
  · exact ⟨3, by kernel_rfl⟩
  · exact ⟨4, by kernel_rfl⟩
  · exact ⟨5, by kernel_rfl⟩
  · exact ⟨6, by kernel_rfl⟩
  · exact ⟨7, by kernel_rfl⟩
  · exact ⟨8, by kernel_rfl⟩
  · exact ⟨9, by kernel_rfl⟩
theorem GV (fn : Nat) (args : Array Value) (w : World) : (callFunc (m16 fn) args).run Tryz.prog w = .ok (.enter (m16 fn) args) w := by
  unfold m16
  (repeat' split) <;> go_simp
theorem sZ (A : Option Addr) (cap : Nat) (w : World) :
    Calls Tryz.prog 99 #[.slice A 0 cap] w fun e w' => e = .returned (ae (aG 3)) ∧ Kept w w' := by
  go_enter Tryz.func99, Tryz.ntmps99; refine z00 36 [(0, .slice A 0 cap)] ?_; intro _ s; refine zr s 1 (zV Z0 oZ) ?_; intro gb1 _ fw s; refine sq fun hK1 => ?_; refine zr s 3 (zP (zN (zP Z0))) ?_; intro _ fw s; refine zy s ?_; refine zt_ s 1 (zC Z0 fun cc => cz 3 _) ?_; intro _ fw s K2 hK2; refine zS s 0 ?_; intro fw s; refine wt hK2 ?_; refine wp_ret ?_; refine ag ?_; refine ac (v := ae (aG 3)) rfl (.cons (rC s 3 0) .nil) rfl s.q ?_; exact ⟨rfl, s.o.kept⟩
theorem cg (w : World) :
    Calls Tryz.prog 63 #[] w fun e w' => ∃ g, e = .returned (.map (some g)) ∧ w.heap.size ≤ g ∧ w'.heap[g]? = some (.map (cT 10) 10) ∧ Kept w w' := by
  go_enter Tryz.func63, Tryz.ntmps63; refine z00 3 [] ?_; intro _ s; refine zr s 1 (zP Z0) ?_; intro _ fw s; refine sq fun hK1 => ?_
  refine rgn [Ii fw.heap.size (.map #[] 0)] 1 3 s.z (by kernel_rfl) (by kernel_rfl) (
    Jd (wn rfl) (fun aa ww hk bs hd => wN rfl) rfl <|
    Iq) fun fa fw hk bs hv ap => ?_
  obtain ⟨z, q, ov⟩ := aft hk bs s.z s.q s.o; have s0 := bs.get 0 rfl (s.g 0); obtain ⟨gb1, s1, bgb1, hgb1⟩ := Jg hv 0 rfl rfl rfl; have ov := ov.cons hgb1 (Nat.le_trans s.o.kept.size bgb1) (s.o.below bgb1); have ow := ov; have s := ((ix z q ow).i (t := 0) (v := .map none) s0).i (t := 1) (v := .map (some gb1)) s1; refine eu (k := 9) (v := .func (.func 94) #[] #[]) s.o (aC rfl) rfl rfl (s.g 1) rfl rfl 0 rfl (by kernel_rfl) (fun fw1 ofw1 => ?_); have ow := ofw1; have s := s.ow ow; refine eu (k := 10) (v := .func (.func 95) #[] #[]) s.o (aC rfl) rfl rfl (s.g 1) rfl rfl 0 rfl (by kernel_rfl) (fun fw2 ofw2 => ?_); have ow := ofw2; have s := s.ow ow; refine eu (k := 14) (v := .func (.func 96) #[] #[]) s.o (aC rfl) rfl rfl (s.g 1) rfl rfl 0 rfl (by kernel_rfl) (fun fw3 ofw3 => ?_); have ow := ofw3; have s := s.ow ow; refine eu (k := 15) (v := .func (.func 97) #[] #[]) s.o (aC rfl) rfl rfl (s.g 1) rfl rfl 0 rfl (by kernel_rfl) (fun fw4 ofw4 => ?_); have ow := ofw4; have s := s.ow ow; refine eu (k := 16) (v := .func (.func 98) #[] #[]) s.o (aC rfl) rfl rfl (s.g 1) rfl rfl 0 rfl (by kernel_rfl) (fun fw5 ofw5 => ?_); have ow := ofw5; have s := s.ow ow; refine eu (k := 17) (v := .func (.func 99) #[] #[]) s.o (aC rfl) rfl rfl (s.g 1) rfl rfl 0 rfl (by kernel_rfl) (fun fw6 ofw6 => ?_); have ow := ofw6; have s := s.ow ow; refine eu (k := 46) (v := .func (.func 94) #[] #[]) s.o (aC rfl) rfl rfl (s.g 1) rfl rfl 0 rfl (by kernel_rfl) (fun fw7 ofw7 => ?_)
  have ow := ofw7; have s := s.ow ow; refine eu (k := 48) (v := .func (.func 96) #[] #[]) s.o (aC rfl) rfl rfl (s.g 1) rfl rfl 0 rfl (by kernel_rfl) (fun fw8 ofw8 => ?_); have ow := ofw8; have s := s.ow ow; refine eu (k := 49) (v := .func (.func 97) #[] #[]) s.o (aC rfl) rfl rfl (s.g 1) rfl rfl 0 rfl (by kernel_rfl) (fun fw9 ofw9 => ?_); have ow := ofw9; have s := s.ow ow; refine eu (k := 50) (v := .func (.func 98) #[] #[]) s.o (aC rfl) rfl rfl (s.g 1) rfl rfl 0 rfl (by kernel_rfl) (fun fw10 ofw10 => ?_); have ow := ofw10; have s := s.ow ow; refine zw s ?_; intro _ fw s; refine zw s ?_; intro _ fw s; refine wt hK1 ?_; refine wp_ret ?_; refine z1 s ?_; exact ⟨gb1, rfl, s.o.old _ (List.mem_of_getElem? (i := 0) rfl) _ rfl, s.o.get 0 rfl, s.o.kept⟩
theorem mD {w : World} {b n c : Nat} {A : Option Addr} {l : List Int} (h : w.ownsRow b 2 1 (.slice A n c) n (l.map cj)) (hn : n = l.length) : Row w A l ∧ n ≤ c := by
  subst hn; obtain ⟨A2, c2, e, r⟩ := OwnI.row (l := l) h
  cases e
  rcases h.2 with ⟨e, h0⟩ | ⟨g, cap, cur, e, hb, hh, h4, h5, h6, h7⟩
  · exact ⟨r, by omega⟩
  · injection e with e1 e2 e3
    exact ⟨r, by omega⟩
theorem wO {L : List Int} (h : L ≠ []) : cR 17 L = (if L.length % 2 = 1 then ay ((ar L).getD (L.length / 2) 0) else eX (bM [(ar L).getD (L.length / 2 - 1) 0, (ar L).getD (L.length / 2) 0])) := by
  unfold cR; rw [if_neg (by decide), if_neg (by decide), if_pos rfl, if_neg h]
theorem CE {fn : Nat} (hf : cw fn = true) {w0 w : World} {T : List Th} {b n : Nat} {v : Value} {L : List Int} (h : Own w0 (Th.row b 2 1 v n (L.map cj) :: T) w) (hn : n = L.length) (h64 : All64 L) (hl : L.length ≤ 1000000) :
    Calls Tryz.prog (m16 fn) #[v] w fun e w' => e = .returned (ae (cR fn L)) ∧ Own w0 T w' := by
  subst hn; obtain ⟨A, cap, rfl⟩ := bV (h.row 0 rfl); obtain ⟨hr, hc⟩ := mD (h.row 0 rfl) rfl; have K : ∀ {f : FuncId} {x : Vl}, (Calls Tryz.prog f #[.slice A L.length cap] w fun e w' => e = .returned (ae x) ∧ Kept w w') → Calls Tryz.prog f #[.slice A L.length cap] w fun e w' => e = .returned (ae x) ∧ Own w0 T w' := fun H => H.mono fun e w' ⟨he, hk⟩ => ⟨he, h.tail.keep hk⟩; rcases nU hf with rfl | rfl | rfl | rfl | rfl | rfl | rfl | rfl | rfl | rfl
  · exact K (uE A cap L w hr h64 hl)
  · exact K (qI A cap L w hr h64 hl hc)
  · exact K (kS A cap L w hr h64 hl)
  · exact K (nQ A cap L w hr h64 hl)
  · exact K (jA A cap L w hr h64 hl)
  · show Calls Tryz.prog 99 _ _ _
    rcases Nat.eq_zero_or_pos L.length with h0 | h0
    · have e : L = [] := List.eq_nil_of_length_eq_zero h0
      subst e; exact K (sZ A cap w)
    · obtain ⟨g, c, e, h⟩ := qK h h0
      cases e
      refine (rf w0 w T b g _ L h h0 h64 hl).mono fun e w' ⟨he, ho⟩ => ⟨?_, ho⟩; rw [he, wO (fun c => by rw [c] at h0; exact absurd h0 (by decide))]
  · exact K (uE A cap L w hr h64 hl)
  · exact K (kS A cap L w hr h64 hl)
  · exact K (nQ A cap L w hr h64 hl)
  · exact K (jA A cap L w hr h64 hl)
