/- Layer 16: INDEX: the program's (printed by wip/mkagg9.py). -/
import Derived.Test.YtbkjdcpfkepheaaGreatDoorUMixBA
namespace Go.Proofs.YtbkjdcpfkepheaaGreatDoor
set_option linter.unusedVariables false
set_option linter.unusedSimpArgs false
open Go.RowKit Lv
set_option maxRecDepth 100000
def AreaX (x : Rc) (la l0 : List Cl) (A0 : Option Addr) (w : World) (e : Ending) (w' : World) : Prop := ∃ T A1 c1, e = .returned (.agg #[.int .i64 x.c1, .int .i64 x.r1, .int .i64 x.c2, .int .i64 x.r2, .slice A1 la.length c1]) ∧ Own w T w' ∧ la.length ≤ c1 ∧ ∀ base z, RowK 5 clV z A0 l0 → Own base T z → RowK 5 clV z A1 la
theorem aarea_x {a : Ar} {x : Rc} {la : List Cl} (e : area16 a = (x, la)) (A1 : Option Addr) (c1 : Nat) (w : World) (hc : a.l.length ≤ c1) : Calls Tryz.prog 66 #[.agg #[.bool a.w, .int .u8 a.v.k, .int .i64 a.v.n, .string ⟨a.v.t.toArray⟩, .int .i64 a.x.c1, .int .i64 a.x.r1, .int .i64 a.x.c2, .int .i64 a.x.r2, .slice A1 a.l.length c1]] w fun e w' => AreaX x la a.l A1 w e w' := by
  have h := aarea_any a A1 c1 w hc; unfold AreaOut at h; rw [e] at h; exact h
theorem area_ok {a : Ar} (h : okArg a = true) : okR (area16 a).1 = true := by
  unfold okArg at h; unfold area16
  split
  · rename_i e
    rw [if_pos e] at h
    simp only [Bool.and_eq_true] at h
    exact h.1.2
  · rfl
theorem ix_e1 {a : Ar} {v : Vl} {r : List Vl} (h : (p16 v).2.2 = false) : (p16 v).2.1 = vIndex16 a (v :: r) := by
  obtain ⟨h1, h2⟩ := p16_no h; unfold vIndex16; rw [List.map_cons, show firstE (vNum v :: r.map vNum) = some (vNum v) by unfold firstE; rw [List.find?_cons, h1], h2]
theorem fE_two {u v : Vl} (h : isE u = false) : firstE [u, v] = if isE v then some v else none := by
  unfold firstE; rw [List.find?_cons, h, List.find?_cons]
  cases isE v <;> rfl
theorem ix_e2 {a : Ar} {u v : Vl} (g : (p16 u).2.2 = true) (h : (p16 v).2.2 = false) : (p16 v).2.1 = vIndex16 a [u, v] := by
  obtain ⟨h1, h2⟩ := p16_no h; obtain ⟨g1, g2⟩ := p16_yes g; unfold vIndex16; rw [show [u, v].map vNum = [vNum u, vNum v] from rfl, fE_two g1, if_pos h1, h2]
theorem ix_one {a : Ar} {u : Vl} (g : (p16 u).2.2 = true) : vIndex16 a [u] = index1 a (p16 u).1 := by
  obtain ⟨g1, g2⟩ := p16_yes g; unfold vIndex16; rw [show firstE ([u].map vNum) = none by unfold firstE; rw [List.map_cons, List.find?_cons, g1]; rfl, g2]
  rfl
theorem ix_two {a : Ar} {u v : Vl} (g : (p16 u).2.2 = true) (h : (p16 v).2.2 = true) : vIndex16 a [u, v] = index2 a (p16 u).1 (p16 v).1 := by
  obtain ⟨g1, g2⟩ := p16_yes g; obtain ⟨h1, h2⟩ := p16_yes h; unfold vIndex16; rw [show [u, v].map vNum = [vNum u, vNum v] from rfl, fE_two g1, h1, g2, h2]
  rfl
theorem ix1_bad {a : Ar} {x : Rc} {la : List Cl} {u : Vl} (ea : area16 a = (x, la)) (g : (p16 u).2.2 = true) (o : ((p16 u).1 : Int) < (1 : Int) ∨ ((x.c2 - x.c1 + 1) * (x.r2 - x.r1 + 1) : Int) < ((p16 u).1 : Int)) : vFail 5 = vIndex16 a [u] := by
  rw [ix_one g]; unfold index1; rw [ea, if_pos]; exact o
theorem ix1_at {a : Ar} {x : Rc} {la : List Cl} {u : Vl} (ea : area16 a = (x, la)) (g : (p16 u).2.2 = true) (o : ¬ (((p16 u).1 : Int) < (1 : Int) ∨ ((x.c2 - x.c1 + 1) * (x.r2 - x.r1 + 1) : Int) < ((p16 u).1 : Int))) : at16 la (x.c1 + Int.tmod ((p16 u).1 - 1) (x.c2 - x.c1 + 1)) (x.r1 + Int.tdiv ((p16 u).1 - 1) (x.c2 - x.c1 + 1)) = vIndex16 a [u] := by
  rw [ix_one g]; unfold index1 wide16 high16; rw [ea]
  dsimp only
  rw [if_neg o, Int.tmod_eq_emod_of_nonneg (by omega), Int.tdiv_eq_ediv_of_nonneg (by omega)]
theorem ix2_bad {a : Ar} {x : Rc} {la : List Cl} {u v : Vl} (ea : area16 a = (x, la)) (g : (p16 u).2.2 = true) (h : (p16 v).2.2 = true) (o : ((((p16 u).1 : Int) < (1 : Int) ∨ (x.r2 - x.r1 + 1 : Int) < ((p16 u).1 : Int)) ∨ ((p16 v).1 : Int) < (1 : Int)) ∨ (x.c2 - x.c1 + 1 : Int) < ((p16 v).1 : Int)) : vFail 5 = vIndex16 a [u, v] := by
  rw [ix_two g h]; unfold index2 high16 wide16; rw [ea]
  dsimp only
  rw [if_pos (by omega)]
theorem ix2_at {a : Ar} {x : Rc} {la : List Cl} {u v : Vl} (ea : area16 a = (x, la)) (g : (p16 u).2.2 = true) (h : (p16 v).2.2 = true) (o : ¬ (((((p16 u).1 : Int) < (1 : Int) ∨ (x.r2 - x.r1 + 1 : Int) < ((p16 u).1 : Int)) ∨ ((p16 v).1 : Int) < (1 : Int)) ∨ (x.c2 - x.c1 + 1 : Int) < ((p16 v).1 : Int))) : at16 la (x.c1 + ((p16 v).1 - 1)) (x.r1 + ((p16 u).1 - 1)) = vIndex16 a [u, v] := by
  rw [ix_two g h]; unfold index2 high16 wide16; rw [ea]
  dsimp only
  rw [if_neg (by omega)]
theorem en_agg_at : En 107 := by intro args w; go_simp
set_option maxHeartbeats 4000000 in
theorem apick2 (A : Option Addr) (cap : Nat) (a b : Ar) (w : World) (mx : Int) (HM : Mx w mx) (hr : ArgsAt w A [a, b]) (hb : Small b.v) (hla : a.l.length ≤ 900000) (hok : okArg a = true) :
    Calls Tryz.prog 68 #[.slice A 2 cap] w fun e w' => e = .returned (aggV (vIndex16 a [b.v])) ∧ Kept w w' := by
  obtain ⟨bq0, o0, S0, z0, hA0, e0, q0, y0⟩ := hr.elem (i := 0) rfl; obtain ⟨bq1, o1, S1, z1, hA1, e1, q1, y1⟩ := hr.elem (i := 1) rfl; obtain ⟨xa, la, ea⟩ : ∃ x l, area16 a = (x, l) := ⟨_, _, rfl⟩; have hla2 : la.length ≤ 1000000 := by have := area_len a (by omega); rw [ea] at this; exact this
  have hox : okR xa = true := by have := area_ok hok; rw [ea] at this; exact this
  obtain ⟨⟨k1, k2, k3⟩, k4, k5, k6⟩ := okR_iff.1 hox; have hp := wh_in k2 k5 (Int.le_trans (Int.sub_le_sub k3 k1) (by decide)) (Int.le_trans (Int.sub_le_sub k6 k4) (by decide)); have hmu := mul_in (a := (xa.c2 - xa.c1 + 1)) (b := (xa.r2 - xa.r1 + 1)) (by omega) (by omega) (by omega) (by omega); go_enter Tryz.func68, Tryz.ntmps68; refine sq fun hK1 => ?_
  refine ro [yNew w.heap.size (.cells #[.int .u8 0, .int .i64 0, .string ⟨[].toArray⟩] 25 (0, 0))] 1 118 rfl rfl (Own.start w) (
    aP (fun hk bs hd => xalloc rfl (by kernel_rfl)) rfl <|
    arm0) fun fa fw bs hv ap z q ov => ?_
  have s0 := bs.get 0 rfl rfl; obtain ⟨gb1, s2, bgb1, hgb1⟩ := gotP hv 0 rfl rfl rfl; have ov := ov.cons hgb1 (Nat.le_trans (Own.start w).kept.size bgb1) ((Own.start w).below bgb1); have ow := ov; refine wt hK1 ?_; refine sq fun hK2 => ?_
  refine ro [yV _, yV _, yV (.agg #[.bool a.w, .int .u8 a.v.k, .int .i64 a.v.n, .string ⟨a.v.t.toArray⟩, .int .i64 a.x.c1, .int .i64 a.x.r1, .int .i64 a.x.c2, .int .i64 a.x.r2, .slice S0 a.l.length z0])] 3 118 z q ow (
    mvS s0 rfl rfl rfl rfl <|
    aS (fun hk bs hd => xplaceK 9 Tryz.underlying22 (by kernel_rfl) rfl hA0 (dp hd 0 rfl) rfl (Nat.le_of_ble_eq_true rfl)) rfl <|
    aS (fun hk bs hd => xpartK (n := 9) 0 rfl (by kernel_rfl) (by kernel_rfl) (dp hd 1 rfl) rfl (e0.kept (ow.keep hk).kept)) rfl <|
    arm0) fun fa fw bs hv ap z q ow => ?_
  obtain ⟨s0, s2⟩ := b2 bs s0 s2; have s12 := gv hv 2 rfl rfl; refine wl_enter (want0 rfl) (xcall1 (u := .agg #[.bool a.w, .int .u8 a.v.k, .int .i64 a.v.n, .string ⟨a.v.t.toArray⟩, .int .i64 a.x.c1, .int .i64 a.x.r1, .int .i64 a.x.c2, .int .i64 a.x.r2, .slice S0 a.l.length z0]) rfl s12 (en_agg_area _ _)) ((aarea_x ea _ _ _ y0).mono ?_); rintro _ fw ⟨T, A2, c2, rfl, hT, hc2, hR⟩; refine ⟨_, rfl, ?_⟩; rcases hT with hT
  have ow := Own.both ow hT; have ow : Own w ((Th.obj gb1 (.cells #[.int .u8 0, .int .i64 0, .string ⟨[].toArray⟩] 25 (0, 0))) :: T) fw := ow; refine wl_newP ow (want0 rfl) (xalloc (b := .cells #[.int .i64 0, .int .i64 0, .int .i64 0, .int .i64 0, .slice none 0 0] 37 (0, 0)) rfl (by kernel_rfl)) fun gb2 fw ow => ?_; refine wl_store ow 0 0 (want0 rfl) rfl rfl (put_in (t := 3) (put_size z) rfl) (pb 3 (put_in (t := 13) z rfl) rfl) (by kernel_rfl) rfl rfl rfl fun fw ow => ?_; refine gt3 (put_size (put_size z)) (put_def (put_def q)) ow 0 (pb 3 (pb 13 s0 rfl) rfl) 2 (pb 3 (pb 13 s2 rfl) rfl) 3 (put_in (t := 3) (put_size z) rfl) fun fa fw z q ow s0 s2 s3 => ?_; refine wt hK2 ?_; refine sq fun hK3 => ?_
  refine ro [yV _, yV _, yV (.pointer (some ⟨bq1, o1 + 1 * 9 + 1, none⟩)), yV (aggV b.v), yV (.tuple #[.int .i64 ((p16 b.v).1), aggV ((p16 b.v).2.1), .bool ((p16 b.v).2.2)]), yV _, yV _, yV (aggV ((p16 b.v).2.1)), yV _, yNew fw.heap.size (.cells #[.int .u8 0, .int .i64 0, .string ⟨[].toArray⟩] 25 (0, 0)), yV _] 11 118 z q ow (
    mvS s0 rfl rfl rfl rfl <|
    aS (fun hk bs hd => xplaceK 9 Tryz.underlying22 (by kernel_rfl) rfl hA1 (dp hd 0 rfl) rfl (Nat.le_of_ble_eq_true rfl)) rfl <|
    aS (fun hk bs hd => xfieldAddr rfl (dp hd 1 rfl) (by kernel_rfl)) rfl <|
    aS (fun hk bs hd => xpartK (n := 3) 1 rfl (by kernel_rfl) (by kernel_rfl) (dp hd 2 rfl) rfl (e1.kept (ow.keep hk).kept)) rfl <|
    aC (fun hk bs hd => xcall1 rfl (dp hd 3 rfl) (en_agg_position _ _)) (fun hk bs hd => aposition_any b.v _ mx (HM.kept (ow.keep hk).kept) hb) rfl <|
    mvD 4 rfl rfl rfl rfl rfl rfl <|
    aS (fun hk bs hd => xextract rfl (dp hd 5 rfl) rfl) rfl <|
    aS (fun hk bs hd => xextract rfl (dp hd 5 rfl) rfl) rfl <|
    aS (fun hk bs hd => xextract rfl (dp hd 5 rfl) rfl) rfl <|
    aP (fun hk bs hd => xalloc rfl (by kernel_rfl)) rfl <|
    asD 6 rfl rfl rfl rfl rfl rfl <|
    arm0) fun fa fw bs hv ap z q ov => ?_
  obtain ⟨s0, s2, s3⟩ := b3 bs s0 s2 s3; have s21 := gv hv 7 rfl rfl; have s22 := gv hv 8 rfl rfl; obtain ⟨gb3, s5, bgb3, hgb3⟩ := gotP hv 9 rfl rfl rfl; have ov := ov.cons hgb3 (Nat.le_trans ow.kept.size bgb3) (ow.below bgb3); have s4 := gv hv 10 rfl rfl; have ow := ov; refine ws ow 0 0 s5 s21 fun fw ow => ?_; refine wl_value (v := .bool ((p16 b.v).2.2)) (want0 rfl) (xassign rfl s22) ?_; refine gp5 z q ow s0 s2 s3 s5 s4 fun fa fw z q ow s0 s2 s3 s5 s4 s6 => ?_; refine wt hK3 ?_; refine sq fun hK4 => ?_; refine sq fun hK5 => ?_
  refine ro [yV _, yV _] 2 118 z q ow (
    mvS s6 rfl rfl rfl rfl <|
    aS (fun hk bs hd => xnot rfl (dp hd 0 rfl)) rfl <|
    arm0) fun fa fw bs hv ap z q ow => ?_
  obtain ⟨s0, s2, s3, s5, s4, s6⟩ := b6 bs s0 s2 s3 s5 s4 s6; have s24 := gv hv 1 rfl rfl; refine wt hK5 ?_
  by_cases hc1 : ¬ (((p16 b.v).2.2) = true)
  ·refine ct s24 ((bnot (Iff.rfl)).2 hc1) ?_
   have hpb : (p16 b.v).2.2 = false := by simpa using hc1
   refine sq fun hK6 => ?_
   refine ro [yV (aggV ((p16 b.v).2.1))] 1 118 z q ow (
     aS (fun hk bs hd => xloadN 3 rfl (by kernel_rfl) (by kernel_rfl) (bg bs s5) ((ow.keep hk).box 0 rfl) (Nat.le_of_ble_eq_true rfl) rfl) rfl <|
     arm0) fun fa fw bs hv ap z q ow => ?_
   obtain ⟨s0, s2, s3, s5, s4, s6⟩ := b6 bs s0 s2 s3 s5 s4 s6; have s25 := gv hv 0 rfl rfl; refine ws ow 2 0 s2 s25 fun fw ow => ?_; refine wt hK6 ?_; refine wp_ret ?_; refine then_r ?_; refine rs3 s2 (ow.box 2 rfl) q ?_; exact ⟨congrArg (fun v => Ending.returned (aggV v)) (ix_e1 hpb), ow.kept⟩
  refine cf s24 (bnot (Iff.rfl)) hc1 ?_; have hpo : (p16 b.v).2.2 = true := by simpa using hc1
  refine wp_skip ?_; refine tn hK4 ?_; refine sq fun hK7 => ?_
  refine ro [yV (.pointer (some ⟨gb2, 0, none⟩)), yV (.pointer (some ⟨gb2, 2, none⟩)), yV _, yV (.pointer (some ⟨gb2, 0, none⟩)), yV (.pointer (some ⟨gb2, 0, none⟩)), yV _, yV _, yV _, yV (.pointer (some ⟨gb2, 0, none⟩)), yV (.pointer (some ⟨gb2, 3, none⟩)), yV _, yV (.pointer (some ⟨gb2, 0, none⟩)), yV (.pointer (some ⟨gb2, 1, none⟩)), yV _, yV _, yV _, yV _, yV _] 18 118 z q ow (
    aS (fun hk bs hd => xfieldAddr rfl (bg bs s3) (by kernel_rfl)) rfl <|
    aS (fun hk bs hd => xfieldAddr rfl (dp hd 0 rfl) (by kernel_rfl)) rfl <|
    aS (fun hk bs hd => xloadB rfl (by kernel_rfl) (dp hd 1 rfl) ((ow.keep hk).box 1 rfl) rfl) rfl <|
    aS (fun hk bs hd => xfieldAddr rfl (bg bs s3) (by kernel_rfl)) rfl <|
    aS (fun hk bs hd => xfieldAddr rfl (dp hd 3 rfl) (by kernel_rfl)) rfl <|
    aS (fun hk bs hd => xloadB rfl (by kernel_rfl) (dp hd 4 rfl) ((ow.keep hk).box 1 rfl) rfl) rfl <|
    aS (fun hk bs hd => xsub (Or.inl rfl) rfl (dp hd 2 rfl) (dp hd 5 rfl) (by omega) (by omega)) rfl <|
    aS (fun hk bs hd => xadd (Or.inl rfl) rfl (dp hd 6 rfl) rfl (by omega) (by omega)) rfl <|
    aS (fun hk bs hd => xfieldAddr rfl (bg bs s3) (by kernel_rfl)) rfl <|
    aS (fun hk bs hd => xfieldAddr rfl (dp hd 8 rfl) (by kernel_rfl)) rfl <|
    aS (fun hk bs hd => xloadB rfl (by kernel_rfl) (dp hd 9 rfl) ((ow.keep hk).box 1 rfl) rfl) rfl <|
    aS (fun hk bs hd => xfieldAddr rfl (bg bs s3) (by kernel_rfl)) rfl <|
    aS (fun hk bs hd => xfieldAddr rfl (dp hd 11 rfl) (by kernel_rfl)) rfl <|
    aS (fun hk bs hd => xloadB rfl (by kernel_rfl) (dp hd 12 rfl) ((ow.keep hk).box 1 rfl) rfl) rfl <|
    aS (fun hk bs hd => xsub (Or.inl rfl) rfl (dp hd 10 rfl) (dp hd 13 rfl) (by omega) (by omega)) rfl <|
    aS (fun hk bs hd => xadd (Or.inl rfl) rfl (dp hd 14 rfl) rfl (by omega) (by omega)) rfl <|
    asD 7 rfl rfl rfl rfl rfl rfl <|
    asD 15 rfl rfl rfl rfl rfl rfl <|
    arm0) fun fa fw bs hv ap z q ow => ?_
  obtain ⟨s0, s2, s3, s5, s4, s6⟩ := b6 bs s0 s2 s3 s5 s4 s6; have s7 := gv hv 16 rfl rfl; have s8 := gv hv 17 rfl rfl; refine wt hK7 ?_; refine sq fun hK8 => ?_
  refine ro [yV _] 1 118 z q ow (
    aS (fun hk bs hd => xassign rfl rfl) rfl <|
    arm0) fun fa fw bs hv ap z q ow => ?_
  obtain ⟨s0, s2, s3, s5, s4, s6, s7, s8⟩ := b8 bs s0 s2 s3 s5 s4 s6 s7 s8; have s9 := gv hv 0 rfl rfl; refine wt hK8 ?_; refine sq fun hK9 => ?_; refine sq fun hK10 => ?_
  refine ro [yV _, yV _, yV (.bool false)] 3 118 z q ow (
    mvS s0 rfl rfl rfl rfl <|
    aS (fun hk bs hd => xlen Tryz.underlying22 rfl (dp hd 0 rfl)) rfl <|
    aE (fun hk bs hd => xeqi rfl (dp hd 1 rfl) rfl) (congrArg Value.bool rfl) rfl <|
    arm0) fun fa fw bs hv ap z q ow => ?_
  obtain ⟨s0, s2, s3, s5, s4, s6, s7, s8⟩ := b8 bs s0 s2 s3 s5 s4 s6 s7 s8; have s9 := bg bs s9; have s44 := gv hv 2 rfl rfl; refine wt hK10 ?_; refine wp_cond_false (s44) ?_; refine wp_skip ?_; refine tn hK9 ?_; refine sq fun hK11 => ?_; refine sq fun hK12 => ?_
  refine ro [yV _, yV _, yV _, yIf _ (yV _), yIf _ (yV _), yIf _ (yV _), yIf _ (yV _), yIf _ (yV _), yV _] 9 118 z q ow (
    mvS s4 rfl rfl rfl rfl <|
    aS (fun hk bs hd => xlss rfl (dp hd 0 rfl) rfl) rfl <|
    mvD 1 rfl rfl rfl rfl rfl rfl <|
    ai (g1 2 rfl rfl) (fun hk bs hd hz => xmove rfl (bg bs s4)) rfl <|
    ai (g1 2 rfl rfl) (fun hk bs hd hz => xmove rfl (bg bs s7)) rfl <|
    ai (g1 2 rfl rfl) (fun hk bs hd hz => xmove rfl (bg bs s8)) rfl <|
    ai (g1 2 rfl rfl) (fun hk bs hd hz => xmul (Or.inr rfl) rfl (di hd 4 rfl hz) (di hd 5 rfl hz) hp.1 hp.2) rfl <|
    ai (g1 2 rfl rfl) (fun hk bs hd hz => xgtr rfl (di hd 3 rfl hz) (di hd 6 rfl hz)) rfl <|
    aS (fun hk bs hd => xor_ rfl (dp hd 2 rfl) rfl (fun hb => di hd 7 rfl hb)) rfl <|
    arm0) fun fa fw bs hv ap z q ow => ?_
  obtain ⟨s2, s3, s4, s7⟩ := b4 bs s2 s3 s4 s7; have s97 := gv hv 8 rfl rfl; refine wt hK12 ?_
  by_cases hc2 : (((p16 b.v).1 : Int) < (1 : Int)) ∨ ((((xa.c2 - xa.c1) + 1) * ((xa.r2 - xa.r1) + 1) : Int) < ((p16 b.v).1 : Int))
  ·refine ct s97 ((bor (decide_eq_true_iff) (decide_eq_true_iff)).2 hc2) ?_
   have hout := hc2; refine sq fun hK13 => ?_
   refine ro [yV (aggV (vFail 5))] 1 118 z q ow (
     aC (fun hk bs hd => xcall1 rfl rfl (en_val_Fail _ _)) (fun hk bs hd => vfail_any 5 _) rfl <|
     arm0) fun fa fw bs hv ap z q ow => ?_
   obtain ⟨s2, s3, s4, s7⟩ := b4 bs s2 s3 s4 s7; have s98 := gv hv 0 rfl rfl; refine ws ow 2 0 s2 s98 fun fw ow => ?_; refine wt hK13 ?_; refine wp_ret ?_; refine then_r ?_; refine rs3 s2 (ow.box 2 rfl) q ?_; exact ⟨congrArg (fun v => Ending.returned (aggV v)) (ix1_bad ea hpo hout), ow.kept⟩
  refine cf s97 (bor (decide_eq_true_iff) (decide_eq_true_iff)) hc2 ?_; have hin := hc2; have hi1 : 1 ≤ (p16 b.v).1 ∧ (p16 b.v).1 ≤ (xa.c2 - xa.c1 + 1) * (xa.r2 - xa.r1 + 1) := by omega
  obtain ⟨i1, i2, i3, i4⟩ := place_in (x := xa) (i := (p16 b.v).1 - 1) k2 k5 (by omega) (by unfold wide16 high16; omega); have i5 : Int.tmod ((p16 b.v).1 - 1) (xa.c2 - xa.c1 + 1) = ((p16 b.v).1 - 1) % wide16 xa := Int.tmod_eq_emod_of_nonneg (by omega); have i6 : Int.tdiv ((p16 b.v).1 - 1) (xa.c2 - xa.c1 + 1) = ((p16 b.v).1 - 1) / wide16 xa := Int.tdiv_eq_ediv_of_nonneg (by omega); refine wp_skip ?_; refine tn hK11 ?_; refine sq fun hK14 => ?_
  refine ro [yV (.agg #[.int .i64 xa.c1, .int .i64 xa.r1, .int .i64 xa.c2, .int .i64 xa.r2, .slice A2 la.length c2]), yV (.pointer (some ⟨gb2, 0, none⟩)), yV (.pointer (some ⟨gb2, 0, none⟩)), yV _, yV _, yV _, yV _, yV _, yV _, yV (.pointer (some ⟨gb2, 0, none⟩)), yV (.pointer (some ⟨gb2, 1, none⟩)), yV _, yV _, yV _, yV _, yV _, yV _, yV (.agg #[.int .i64 (xa.c1 + (Int.tmod (((p16 b.v).1) - 1) ((xa.c2 - xa.c1) + 1))), .int .i64 (xa.r1 + (Int.tdiv (((p16 b.v).1) - 1) ((xa.c2 - xa.c1) + 1)))]), yV (aggV (at16 la (xa.c1 + (Int.tmod (((p16 b.v).1) - 1) ((xa.c2 - xa.c1) + 1))) (xa.r1 + (Int.tdiv (((p16 b.v).1) - 1) ((xa.c2 - xa.c1) + 1)))))] 19 118 z q ow (
    aS (fun hk bs hd => xloadN 5 rfl (by kernel_rfl) (by kernel_rfl) (bg bs s3) ((ow.keep hk).box 1 rfl) (Nat.le_of_ble_eq_true rfl) rfl) rfl <|
    aS (fun hk bs hd => xfieldAddr rfl (bg bs s3) (by kernel_rfl)) rfl <|
    aS (fun hk bs hd => xfieldAddr rfl (dp hd 1 rfl) (by kernel_rfl)) rfl <|
    aS (fun hk bs hd => xloadB rfl (by kernel_rfl) (dp hd 2 rfl) ((ow.keep hk).box 1 rfl) rfl) rfl <|
    mvS s4 rfl rfl rfl rfl <|
    aS (fun hk bs hd => xsub (Or.inr rfl) rfl (dp hd 4 rfl) rfl (by omega) (by omega)) rfl <|
    mvS s7 rfl rfl rfl rfl <|
    aS (fun hk bs hd => xremZ (Or.inr rfl) rfl (n := ((p16 b.v).1) - 1) (m := (xa.c2 - xa.c1) + 1) (dp hd 5 rfl) (dp hd 6 rfl) (by omega) (by omega) (by omega)) rfl <|
    aS (fun hk bs hd => xadd (Or.inl rfl) rfl (dp hd 3 rfl) (dp hd 7 rfl) (by omega) (by omega)) rfl <|
    aS (fun hk bs hd => xfieldAddr rfl (bg bs s3) (by kernel_rfl)) rfl <|
    aS (fun hk bs hd => xfieldAddr rfl (dp hd 9 rfl) (by kernel_rfl)) rfl <|
    aS (fun hk bs hd => xloadB rfl (by kernel_rfl) (dp hd 10 rfl) ((ow.keep hk).box 1 rfl) rfl) rfl <|
    mvS s4 rfl rfl rfl rfl <|
    aS (fun hk bs hd => xsub (Or.inr rfl) rfl (dp hd 12 rfl) rfl (by omega) (by omega)) rfl <|
    mvS s7 rfl rfl rfl rfl <|
    aS (fun hk bs hd => xquo (Or.inr rfl) rfl (dp hd 13 rfl) (dp hd 14 rfl) (by omega) (by omega) (by omega)) rfl <|
    aS (fun hk bs hd => xadd (Or.inl rfl) rfl (dp hd 11 rfl) (dp hd 15 rfl) (by omega) (by omega)) rfl <|
    arm (fun aa ww hk bs hd => by
      have d8 : aa.eval (.tmp 107) = .int .i64 (xa.c1 + (Int.tmod (((p16 b.v).1) - 1) ((xa.c2 - xa.c1) + 1))) := depX hd 8 rfl; have d16 : aa.eval (.tmp 115) = .int .i64 (xa.r1 + (Int.tdiv (((p16 b.v).1) - 1) ((xa.c2 - xa.c1) + 1))) := depX hd 16 rfl; exact stepX_same (v := .agg #[.int .i64 (xa.c1 + (Int.tmod (((p16 b.v).1) - 1) ((xa.c2 - xa.c1) + 1))), .int .i64 (xa.r1 + (Int.tdiv (((p16 b.v).1) - 1) ((xa.c2 - xa.c1) + 1)))]) (want0 rfl) (xbuild (us := #[(0, .int .i64 (xa.c1 + (Int.tmod (((p16 b.v).1) - 1) ((xa.c2 - xa.c1) + 1)))), (1, .int .i64 (xa.r1 + (Int.tdiv (((p16 b.v).1) - 1) ((xa.c2 - xa.c1) + 1))))]) rfl (by simp only [List.map_toArray, List.map_cons, List.map_nil, d8, d16]) (by kernel_rfl)) rfl rfl
      ) <|
    aC (fun hk bs hd => xcall2 rfl (dp hd 0 rfl) (dp hd 17 rfl) (en_agg_at _ _)) (fun hk bs hd => aat_any xa la _ _ (xa.c1 + (Int.tmod (((p16 b.v).1) - 1) ((xa.c2 - xa.c1) + 1))) (xa.r1 + (Int.tdiv (((p16 b.v).1) - 1) ((xa.c2 - xa.c1) + 1))) _ (hR _ _ (q0.kept (ow.keep hk).kept) (ow.keep hk).tail.tail.tail) hla2) rfl <|
    arm0) fun fa fw bs hv ap z q ow => ?_
  have s2 := bg bs s2; have s117 := gv hv 18 rfl rfl; refine ws ow 2 0 s2 s117 fun fw ow => ?_; refine wt hK14 ?_; refine wp_ret ?_; refine rs3 s2 (ow.box 2 rfl) q ?_; exact ⟨congrArg (fun v => Ending.returned (aggV v)) (ix1_at ea hpo hin), ow.kept⟩
set_option maxHeartbeats 4000000 in
theorem apick3 (A : Option Addr) (cap : Nat) (a b c : Ar) (w : World) (mx : Int) (HM : Mx w mx) (hr : ArgsAt w A [a, b, c]) (hb : Small b.v) (hc : Small c.v) (hla : a.l.length ≤ 900000) (hok : okArg a = true) :
    Calls Tryz.prog 68 #[.slice A 3 cap] w fun e w' => e = .returned (aggV (vIndex16 a [b.v, c.v])) ∧ Kept w w' := by
  obtain ⟨bq0, o0, S0, z0, hA0, e0, q0, y0⟩ := hr.elem (i := 0) rfl; obtain ⟨bq1, o1, S1, z1, hA1, e1, q1, y1⟩ := hr.elem (i := 1) rfl; obtain ⟨bq2, o2, S2, z2, hA2, e2, q2, y2⟩ := hr.elem (i := 2) rfl; obtain ⟨xa, la, ea⟩ : ∃ x l, area16 a = (x, l) := ⟨_, _, rfl⟩; have hla2 : la.length ≤ 1000000 := by have := area_len a (by omega); rw [ea] at this; exact this
  have hox : okR xa = true := by have := area_ok hok; rw [ea] at this; exact this
  obtain ⟨⟨k1, k2, k3⟩, k4, k5, k6⟩ := okR_iff.1 hox; have hp := wh_in k2 k5 (Int.le_trans (Int.sub_le_sub k3 k1) (by decide)) (Int.le_trans (Int.sub_le_sub k6 k4) (by decide)); have hmu := mul_in (a := (xa.c2 - xa.c1 + 1)) (b := (xa.r2 - xa.r1 + 1)) (by omega) (by omega) (by omega) (by omega); go_enter Tryz.func68, Tryz.ntmps68; refine sq fun hK1 => ?_
  refine ro [yNew w.heap.size (.cells #[.int .u8 0, .int .i64 0, .string ⟨[].toArray⟩] 25 (0, 0))] 1 118 rfl rfl (Own.start w) (
    aP (fun hk bs hd => xalloc rfl (by kernel_rfl)) rfl <|
    arm0) fun fa fw bs hv ap z q ov => ?_
  have s0 := bs.get 0 rfl rfl; obtain ⟨gb1, s2, bgb1, hgb1⟩ := gotP hv 0 rfl rfl rfl; have ov := ov.cons hgb1 (Nat.le_trans (Own.start w).kept.size bgb1) ((Own.start w).below bgb1); have ow := ov; refine wt hK1 ?_; refine sq fun hK2 => ?_
  refine ro [yV _, yV _, yV (.agg #[.bool a.w, .int .u8 a.v.k, .int .i64 a.v.n, .string ⟨a.v.t.toArray⟩, .int .i64 a.x.c1, .int .i64 a.x.r1, .int .i64 a.x.c2, .int .i64 a.x.r2, .slice S0 a.l.length z0])] 3 118 z q ow (
    mvS s0 rfl rfl rfl rfl <|
    aS (fun hk bs hd => xplaceK 9 Tryz.underlying22 (by kernel_rfl) rfl hA0 (dp hd 0 rfl) rfl (Nat.le_of_ble_eq_true rfl)) rfl <|
    aS (fun hk bs hd => xpartK (n := 9) 0 rfl (by kernel_rfl) (by kernel_rfl) (dp hd 1 rfl) rfl (e0.kept (ow.keep hk).kept)) rfl <|
    arm0) fun fa fw bs hv ap z q ow => ?_
  obtain ⟨s0, s2⟩ := b2 bs s0 s2; have s12 := gv hv 2 rfl rfl; refine wl_enter (want0 rfl) (xcall1 (u := .agg #[.bool a.w, .int .u8 a.v.k, .int .i64 a.v.n, .string ⟨a.v.t.toArray⟩, .int .i64 a.x.c1, .int .i64 a.x.r1, .int .i64 a.x.c2, .int .i64 a.x.r2, .slice S0 a.l.length z0]) rfl s12 (en_agg_area _ _)) ((aarea_x ea _ _ _ y0).mono ?_); rintro _ fw ⟨T, A2, c2, rfl, hT, hc2, hR⟩; refine ⟨_, rfl, ?_⟩; rcases hT with hT
  have ow := Own.both ow hT; have ow : Own w ((Th.obj gb1 (.cells #[.int .u8 0, .int .i64 0, .string ⟨[].toArray⟩] 25 (0, 0))) :: T) fw := ow; refine wl_newP ow (want0 rfl) (xalloc (b := .cells #[.int .i64 0, .int .i64 0, .int .i64 0, .int .i64 0, .slice none 0 0] 37 (0, 0)) rfl (by kernel_rfl)) fun gb2 fw ow => ?_; refine wl_store ow 0 0 (want0 rfl) rfl rfl (put_in (t := 3) (put_size z) rfl) (pb 3 (put_in (t := 13) z rfl) rfl) (by kernel_rfl) rfl rfl rfl fun fw ow => ?_; refine gt3 (put_size (put_size z)) (put_def (put_def q)) ow 0 (pb 3 (pb 13 s0 rfl) rfl) 2 (pb 3 (pb 13 s2 rfl) rfl) 3 (put_in (t := 3) (put_size z) rfl) fun fa fw z q ow s0 s2 s3 => ?_; refine wt hK2 ?_; refine sq fun hK3 => ?_
  refine ro [yV _, yV _, yV (.pointer (some ⟨bq1, o1 + 1 * 9 + 1, none⟩)), yV (aggV b.v), yV (.tuple #[.int .i64 ((p16 b.v).1), aggV ((p16 b.v).2.1), .bool ((p16 b.v).2.2)]), yV _, yV _, yV (aggV ((p16 b.v).2.1)), yV _, yNew fw.heap.size (.cells #[.int .u8 0, .int .i64 0, .string ⟨[].toArray⟩] 25 (0, 0)), yV _] 11 118 z q ow (
    mvS s0 rfl rfl rfl rfl <|
    aS (fun hk bs hd => xplaceK 9 Tryz.underlying22 (by kernel_rfl) rfl hA1 (dp hd 0 rfl) rfl (Nat.le_of_ble_eq_true rfl)) rfl <|
    aS (fun hk bs hd => xfieldAddr rfl (dp hd 1 rfl) (by kernel_rfl)) rfl <|
    aS (fun hk bs hd => xpartK (n := 3) 1 rfl (by kernel_rfl) (by kernel_rfl) (dp hd 2 rfl) rfl (e1.kept (ow.keep hk).kept)) rfl <|
    aC (fun hk bs hd => xcall1 rfl (dp hd 3 rfl) (en_agg_position _ _)) (fun hk bs hd => aposition_any b.v _ mx (HM.kept (ow.keep hk).kept) hb) rfl <|
    mvD 4 rfl rfl rfl rfl rfl rfl <|
    aS (fun hk bs hd => xextract rfl (dp hd 5 rfl) rfl) rfl <|
    aS (fun hk bs hd => xextract rfl (dp hd 5 rfl) rfl) rfl <|
    aS (fun hk bs hd => xextract rfl (dp hd 5 rfl) rfl) rfl <|
    aP (fun hk bs hd => xalloc rfl (by kernel_rfl)) rfl <|
    asD 6 rfl rfl rfl rfl rfl rfl <|
    arm0) fun fa fw bs hv ap z q ov => ?_
  obtain ⟨s0, s2, s3⟩ := b3 bs s0 s2 s3; have s21 := gv hv 7 rfl rfl; have s22 := gv hv 8 rfl rfl; obtain ⟨gb3, s5, bgb3, hgb3⟩ := gotP hv 9 rfl rfl rfl; have ov := ov.cons hgb3 (Nat.le_trans ow.kept.size bgb3) (ow.below bgb3); have s4 := gv hv 10 rfl rfl; have ow := ov; refine ws ow 0 0 s5 s21 fun fw ow => ?_; refine wl_value (v := .bool ((p16 b.v).2.2)) (want0 rfl) (xassign rfl s22) ?_; refine gp5 z q ow s0 s2 s3 s5 s4 fun fa fw z q ow s0 s2 s3 s5 s4 s6 => ?_; refine wt hK3 ?_; refine sq fun hK4 => ?_; refine sq fun hK5 => ?_
  refine ro [yV _, yV _] 2 118 z q ow (
    mvS s6 rfl rfl rfl rfl <|
    aS (fun hk bs hd => xnot rfl (dp hd 0 rfl)) rfl <|
    arm0) fun fa fw bs hv ap z q ow => ?_
  obtain ⟨s0, s2, s3, s5, s4, s6⟩ := b6 bs s0 s2 s3 s5 s4 s6; have s24 := gv hv 1 rfl rfl; refine wt hK5 ?_
  by_cases hc1 : ¬ (((p16 b.v).2.2) = true)
  ·refine ct s24 ((bnot (Iff.rfl)).2 hc1) ?_
   have hpb : (p16 b.v).2.2 = false := by simpa using hc1
   refine sq fun hK6 => ?_
   refine ro [yV (aggV ((p16 b.v).2.1))] 1 118 z q ow (
     aS (fun hk bs hd => xloadN 3 rfl (by kernel_rfl) (by kernel_rfl) (bg bs s5) ((ow.keep hk).box 0 rfl) (Nat.le_of_ble_eq_true rfl) rfl) rfl <|
     arm0) fun fa fw bs hv ap z q ow => ?_
   obtain ⟨s0, s2, s3, s5, s4, s6⟩ := b6 bs s0 s2 s3 s5 s4 s6; have s25 := gv hv 0 rfl rfl; refine ws ow 2 0 s2 s25 fun fw ow => ?_; refine wt hK6 ?_; refine wp_ret ?_; refine then_r ?_; refine rs3 s2 (ow.box 2 rfl) q ?_; exact ⟨congrArg (fun v => Ending.returned (aggV v)) (ix_e1 hpb), ow.kept⟩
  refine cf s24 (bnot (Iff.rfl)) hc1 ?_; have hpo : (p16 b.v).2.2 = true := by simpa using hc1
  refine wp_skip ?_; refine tn hK4 ?_; refine sq fun hK7 => ?_
  refine ro [yV (.pointer (some ⟨gb2, 0, none⟩)), yV (.pointer (some ⟨gb2, 2, none⟩)), yV _, yV (.pointer (some ⟨gb2, 0, none⟩)), yV (.pointer (some ⟨gb2, 0, none⟩)), yV _, yV _, yV _, yV (.pointer (some ⟨gb2, 0, none⟩)), yV (.pointer (some ⟨gb2, 3, none⟩)), yV _, yV (.pointer (some ⟨gb2, 0, none⟩)), yV (.pointer (some ⟨gb2, 1, none⟩)), yV _, yV _, yV _, yV _, yV _] 18 118 z q ow (
    aS (fun hk bs hd => xfieldAddr rfl (bg bs s3) (by kernel_rfl)) rfl <|
    aS (fun hk bs hd => xfieldAddr rfl (dp hd 0 rfl) (by kernel_rfl)) rfl <|
    aS (fun hk bs hd => xloadB rfl (by kernel_rfl) (dp hd 1 rfl) ((ow.keep hk).box 1 rfl) rfl) rfl <|
    aS (fun hk bs hd => xfieldAddr rfl (bg bs s3) (by kernel_rfl)) rfl <|
    aS (fun hk bs hd => xfieldAddr rfl (dp hd 3 rfl) (by kernel_rfl)) rfl <|
    aS (fun hk bs hd => xloadB rfl (by kernel_rfl) (dp hd 4 rfl) ((ow.keep hk).box 1 rfl) rfl) rfl <|
    aS (fun hk bs hd => xsub (Or.inl rfl) rfl (dp hd 2 rfl) (dp hd 5 rfl) (by omega) (by omega)) rfl <|
    aS (fun hk bs hd => xadd (Or.inl rfl) rfl (dp hd 6 rfl) rfl (by omega) (by omega)) rfl <|
    aS (fun hk bs hd => xfieldAddr rfl (bg bs s3) (by kernel_rfl)) rfl <|
    aS (fun hk bs hd => xfieldAddr rfl (dp hd 8 rfl) (by kernel_rfl)) rfl <|
    aS (fun hk bs hd => xloadB rfl (by kernel_rfl) (dp hd 9 rfl) ((ow.keep hk).box 1 rfl) rfl) rfl <|
    aS (fun hk bs hd => xfieldAddr rfl (bg bs s3) (by kernel_rfl)) rfl <|
    aS (fun hk bs hd => xfieldAddr rfl (dp hd 11 rfl) (by kernel_rfl)) rfl <|
    aS (fun hk bs hd => xloadB rfl (by kernel_rfl) (dp hd 12 rfl) ((ow.keep hk).box 1 rfl) rfl) rfl <|
    aS (fun hk bs hd => xsub (Or.inl rfl) rfl (dp hd 10 rfl) (dp hd 13 rfl) (by omega) (by omega)) rfl <|
    aS (fun hk bs hd => xadd (Or.inl rfl) rfl (dp hd 14 rfl) rfl (by omega) (by omega)) rfl <|
    asD 7 rfl rfl rfl rfl rfl rfl <|
    asD 15 rfl rfl rfl rfl rfl rfl <|
    arm0) fun fa fw bs hv ap z q ow => ?_
  obtain ⟨s0, s2, s3, s5, s4, s6⟩ := b6 bs s0 s2 s3 s5 s4 s6; have s7 := gv hv 16 rfl rfl; have s8 := gv hv 17 rfl rfl; refine wt hK7 ?_; refine sq fun hK8 => ?_
  refine ro [yV _] 1 118 z q ow (
    aS (fun hk bs hd => xassign rfl rfl) rfl <|
    arm0) fun fa fw bs hv ap z q ow => ?_
  obtain ⟨s0, s2, s3, s5, s4, s6, s7, s8⟩ := b8 bs s0 s2 s3 s5 s4 s6 s7 s8; have s9 := gv hv 0 rfl rfl; refine wt hK8 ?_; refine sq fun hK9 => ?_; refine sq fun hK10 => ?_
  refine ro [yV _, yV _, yV (.bool true)] 3 118 z q ow (
    mvS s0 rfl rfl rfl rfl <|
    aS (fun hk bs hd => xlen Tryz.underlying22 rfl (dp hd 0 rfl)) rfl <|
    aE (fun hk bs hd => xeqi rfl (dp hd 1 rfl) rfl) (congrArg Value.bool rfl) rfl <|
    arm0) fun fa fw bs hv ap z q ow => ?_
  obtain ⟨s0, s2, s3, s5, s4, s6, s7, s8⟩ := b8 bs s0 s2 s3 s5 s4 s6 s7 s8; have s9 := bg bs s9; have s44 := gv hv 2 rfl rfl; refine wt hK10 ?_; refine wp_cond_true (s44) ?_; refine sq fun hK11 => ?_; refine sq fun hK12 => ?_
  refine ro [yV _, yV _, yV (.pointer (some ⟨bq2, o2 + 2 * 9 + 1, none⟩)), yV (aggV c.v), yV (.tuple #[.int .i64 ((p16 c.v).1), aggV ((p16 c.v).2.1), .bool ((p16 c.v).2.2)]), yV _, yV _, yV (aggV ((p16 c.v).2.1)), yV _, yV _] 10 118 z q ow (
    mvS s0 rfl rfl rfl rfl <|
    aS (fun hk bs hd => xplaceK 9 Tryz.underlying22 (by kernel_rfl) rfl hA2 (dp hd 0 rfl) rfl (Nat.le_of_ble_eq_true rfl)) rfl <|
    aS (fun hk bs hd => xfieldAddr rfl (dp hd 1 rfl) (by kernel_rfl)) rfl <|
    aS (fun hk bs hd => xpartK (n := 3) 1 rfl (by kernel_rfl) (by kernel_rfl) (dp hd 2 rfl) rfl (e2.kept (ow.keep hk).kept)) rfl <|
    aC (fun hk bs hd => xcall1 rfl (dp hd 3 rfl) (en_agg_position _ _)) (fun hk bs hd => aposition_any c.v _ mx (HM.kept (ow.keep hk).kept) hc) rfl <|
    mvD 4 rfl rfl rfl rfl rfl rfl <|
    aS (fun hk bs hd => xextract rfl (dp hd 5 rfl) rfl) rfl <|
    aS (fun hk bs hd => xextract rfl (dp hd 5 rfl) rfl) rfl <|
    aS (fun hk bs hd => xextract rfl (dp hd 5 rfl) rfl) rfl <|
    asD 6 rfl rfl rfl rfl rfl rfl <|
    arm0) fun fa fw bs hv ap z q ow => ?_
  obtain ⟨s2, s3, s5, s4, s6, s7, s8⟩ := b7 bs s2 s3 s5 s4 s6 s7 s8; have s52 := gv hv 7 rfl rfl; have s53 := gv hv 8 rfl rfl; have s9 := gv hv 9 rfl rfl; refine ws ow 0 0 s5 s52 fun fw ow => ?_; refine wl_value (v := .bool ((p16 c.v).2.2)) (want0 rfl) (xassign rfl s53) ?_; refine gp7 z q ow s2 s3 s5 s4 s7 s8 s9 fun fa fw z q ow s2 s3 s5 s4 s7 s8 s9 s6 => ?_; refine wt hK12 ?_; refine sq fun hK13 => ?_
  refine ro [yV _, yV _] 2 118 z q ow (
    mvS s6 rfl rfl rfl rfl <|
    aS (fun hk bs hd => xnot rfl (dp hd 0 rfl)) rfl <|
    arm0) fun fa fw bs hv ap z q ow => ?_
  obtain ⟨s2, s3, s5, s4, s7, s8, s9⟩ := b7 bs s2 s3 s5 s4 s7 s8 s9; have s55 := gv hv 1 rfl rfl; refine wt hK13 ?_
  by_cases hc2 : ¬ (((p16 c.v).2.2) = true)
  ·refine ct s55 ((bnot (Iff.rfl)).2 hc2) ?_
   have hpc : (p16 c.v).2.2 = false := by simpa using hc2
   refine sq fun hK14 => ?_
   refine ro [yV (aggV ((p16 c.v).2.1))] 1 118 z q ow (
     aS (fun hk bs hd => xloadN 3 rfl (by kernel_rfl) (by kernel_rfl) (bg bs s5) ((ow.keep hk).box 0 rfl) (Nat.le_of_ble_eq_true rfl) rfl) rfl <|
     arm0) fun fa fw bs hv ap z q ow => ?_
   obtain ⟨s2, s3, s4, s7, s8, s9⟩ := b6 bs s2 s3 s4 s7 s8 s9; have s56 := gv hv 0 rfl rfl; refine ws ow 2 0 s2 s56 fun fw ow => ?_; refine wt hK14 ?_; refine wp_ret ?_; refine then_r ?_; refine then_r ?_; refine rs3 s2 (ow.box 2 rfl) q ?_; exact ⟨congrArg (fun v => Ending.returned (aggV v)) (ix_e2 hpo hpc), ow.kept⟩
  refine cf s55 (bnot (Iff.rfl)) hc2 ?_; have hqo : (p16 c.v).2.2 = true := by simpa using hc2
  refine wp_skip ?_; refine tn hK11 ?_; refine sq fun hK15 => ?_; refine sq fun hK16 => ?_
  refine ro [yV _, yV _, yV _, yIf _ (yV _), yIf _ (yV _), yIf _ (yV _), yV _, yV _, yIf _ (yV _), yIf _ (yV _), yV _, yV _, yIf _ (yV _), yIf _ (yV _), yIf _ (yV _), yV _] 16 118 z q ow (
    mvS s4 rfl rfl rfl rfl <|
    aS (fun hk bs hd => xlss rfl (dp hd 0 rfl) rfl) rfl <|
    mvD 1 rfl rfl rfl rfl rfl rfl <|
    ai (g1 2 rfl rfl) (fun hk bs hd hz => xmove rfl (bg bs s4)) rfl <|
    ai (g1 2 rfl rfl) (fun hk bs hd hz => xmove rfl (bg bs s8)) rfl <|
    ai (g1 2 rfl rfl) (fun hk bs hd hz => xgtr rfl (di hd 3 rfl hz) (di hd 4 rfl hz)) rfl <|
    aS (fun hk bs hd => xor_ rfl (dp hd 2 rfl) rfl (fun hb => di hd 5 rfl hb)) rfl <|
    mvD 6 rfl rfl rfl rfl rfl rfl <|
    ai (g1 7 rfl rfl) (fun hk bs hd hz => xmove rfl (bg bs s9)) rfl <|
    ai (g1 7 rfl rfl) (fun hk bs hd hz => xlss rfl (di hd 8 rfl hz) rfl) rfl <|
    aS (fun hk bs hd => xor_ rfl (dp hd 7 rfl) rfl (fun hb => di hd 9 rfl hb)) rfl <|
    mvD 10 rfl rfl rfl rfl rfl rfl <|
    ai (g1 11 rfl rfl) (fun hk bs hd hz => xmove rfl (bg bs s9)) rfl <|
    ai (g1 11 rfl rfl) (fun hk bs hd hz => xmove rfl (bg bs s7)) rfl <|
    ai (g1 11 rfl rfl) (fun hk bs hd hz => xgtr rfl (di hd 12 rfl hz) (di hd 13 rfl hz)) rfl <|
    aS (fun hk bs hd => xor_ rfl (dp hd 11 rfl) rfl (fun hb => di hd 14 rfl hb)) rfl <|
    arm0) fun fa fw bs hv ap z q ow => ?_
  obtain ⟨s2, s3, s4, s7, s8, s9⟩ := b6 bs s2 s3 s4 s7 s8 s9; have s72 := gv hv 15 rfl rfl; refine wt hK16 ?_
  by_cases hc3 : (((((p16 b.v).1 : Int) < (1 : Int)) ∨ (((xa.r2 - xa.r1) + 1 : Int) < ((p16 b.v).1 : Int))) ∨ (((p16 c.v).1 : Int) < (1 : Int))) ∨ (((xa.c2 - xa.c1) + 1 : Int) < ((p16 c.v).1 : Int))
  ·refine ct s72 ((bor (bor (bor (decide_eq_true_iff) (decide_eq_true_iff)) (decide_eq_true_iff)) (decide_eq_true_iff)).2 hc3) ?_
   have hout := hc3; refine sq fun hK17 => ?_
   refine ro [yV (aggV (vFail 5))] 1 118 z q ow (
     aC (fun hk bs hd => xcall1 rfl rfl (en_val_Fail _ _)) (fun hk bs hd => vfail_any 5 _) rfl <|
     arm0) fun fa fw bs hv ap z q ow => ?_
   obtain ⟨s2, s3, s4, s7, s8, s9⟩ := b6 bs s2 s3 s4 s7 s8 s9; have s73 := gv hv 0 rfl rfl; refine ws ow 2 0 s2 s73 fun fw ow => ?_; refine wt hK17 ?_; refine wp_ret ?_; refine then_r ?_; refine then_r ?_; refine rs3 s2 (ow.box 2 rfl) q ?_; exact ⟨congrArg (fun v => Ending.returned (aggV v)) (ix2_bad ea hpo hqo hout), ow.kept⟩
  refine cf s72 (bor (bor (bor (decide_eq_true_iff) (decide_eq_true_iff)) (decide_eq_true_iff)) (decide_eq_true_iff)) hc3 ?_; have hin := hc3; refine wp_skip ?_; refine tn hK15 ?_; refine sq fun hK18 => ?_
  refine ro [yV (.agg #[.int .i64 xa.c1, .int .i64 xa.r1, .int .i64 xa.c2, .int .i64 xa.r2, .slice A2 la.length c2]), yV (.pointer (some ⟨gb2, 0, none⟩)), yV (.pointer (some ⟨gb2, 0, none⟩)), yV _, yV _, yV _, yV _, yV (.pointer (some ⟨gb2, 0, none⟩)), yV (.pointer (some ⟨gb2, 1, none⟩)), yV _, yV _, yV _, yV _, yV (.agg #[.int .i64 (xa.c1 + (((p16 c.v).1) - 1)), .int .i64 (xa.r1 + (((p16 b.v).1) - 1))]), yV (aggV (at16 la (xa.c1 + (((p16 c.v).1) - 1)) (xa.r1 + (((p16 b.v).1) - 1))))] 15 118 z q ow (
    aS (fun hk bs hd => xloadN 5 rfl (by kernel_rfl) (by kernel_rfl) (bg bs s3) ((ow.keep hk).box 1 rfl) (Nat.le_of_ble_eq_true rfl) rfl) rfl <|
    aS (fun hk bs hd => xfieldAddr rfl (bg bs s3) (by kernel_rfl)) rfl <|
    aS (fun hk bs hd => xfieldAddr rfl (dp hd 1 rfl) (by kernel_rfl)) rfl <|
    aS (fun hk bs hd => xloadB rfl (by kernel_rfl) (dp hd 2 rfl) ((ow.keep hk).box 1 rfl) rfl) rfl <|
    mvS s9 rfl rfl rfl rfl <|
    aS (fun hk bs hd => xsub (Or.inr rfl) rfl (dp hd 4 rfl) rfl (by omega) (by omega)) rfl <|
    aS (fun hk bs hd => xadd (Or.inl rfl) rfl (dp hd 3 rfl) (dp hd 5 rfl) (by omega) (by omega)) rfl <|
    aS (fun hk bs hd => xfieldAddr rfl (bg bs s3) (by kernel_rfl)) rfl <|
    aS (fun hk bs hd => xfieldAddr rfl (dp hd 7 rfl) (by kernel_rfl)) rfl <|
    aS (fun hk bs hd => xloadB rfl (by kernel_rfl) (dp hd 8 rfl) ((ow.keep hk).box 1 rfl) rfl) rfl <|
    mvS s4 rfl rfl rfl rfl <|
    aS (fun hk bs hd => xsub (Or.inr rfl) rfl (dp hd 10 rfl) rfl (by omega) (by omega)) rfl <|
    aS (fun hk bs hd => xadd (Or.inl rfl) rfl (dp hd 9 rfl) (dp hd 11 rfl) (by omega) (by omega)) rfl <|
    arm (fun aa ww hk bs hd => by
      have d6 : aa.eval (.tmp 80) = .int .i64 (xa.c1 + (((p16 c.v).1) - 1)) := depX hd 6 rfl; have d12 : aa.eval (.tmp 86) = .int .i64 (xa.r1 + (((p16 b.v).1) - 1)) := depX hd 12 rfl; exact stepX_same (v := .agg #[.int .i64 (xa.c1 + (((p16 c.v).1) - 1)), .int .i64 (xa.r1 + (((p16 b.v).1) - 1))]) (want0 rfl) (xbuild (us := #[(0, .int .i64 (xa.c1 + (((p16 c.v).1) - 1))), (1, .int .i64 (xa.r1 + (((p16 b.v).1) - 1)))]) rfl (by simp only [List.map_toArray, List.map_cons, List.map_nil, d6, d12]) (by kernel_rfl)) rfl rfl
      ) <|
    aC (fun hk bs hd => xcall2 rfl (dp hd 0 rfl) (dp hd 13 rfl) (en_agg_at _ _)) (fun hk bs hd => aat_any xa la _ _ (xa.c1 + (((p16 c.v).1) - 1)) (xa.r1 + (((p16 b.v).1) - 1)) _ (hR _ _ (q0.kept (ow.keep hk).kept) (ow.keep hk).tail.tail.tail) hla2) rfl <|
    arm0) fun fa fw bs hv ap z q ow => ?_
  obtain ⟨s2, s3, s4, s7, s8⟩ := b5 bs s2 s3 s4 s7 s8; have s88 := gv hv 14 rfl rfl; refine ws ow 2 0 s2 s88 fun fw ow => ?_; refine wt hK18 ?_; refine wp_ret ?_; refine then_r ?_; refine rs3 s2 (ow.box 2 rfl) q ?_; exact ⟨congrArg (fun v => Ending.returned (aggV v)) (ix2_at ea hpo hqo hin), ow.kept⟩
end Go.Proofs.YtbkjdcpfkepheaaGreatDoor
