/- Layer 16: INDEX: the program's (printed by wip/mkagg9.py). -/
import Derived.Test.YtbkjdcpfkepheaaGreatDoorVMixBB
set_option maxHeartbeats 4000000
namespace Go.Proofs.YtbkjdcpfkepheaaGreatDoor
section
set_option linter.unusedVariables false
set_option linter.unusedSimpArgs false
open Go.RowKit Lv
set_option maxRecDepth 100000
def Dz (x : Rc) (la l0 : List Cl) (A0 : Option Addr) (w : World) (e : Ending) (w' : World) : Prop := ∃ T A1 c1, e = .returned (.agg #[.int .i64 x.c1, .int .i64 x.r1, .int .i64 x.c2, .int .i64 x.r2, .slice A1 la.length c1]) ∧ Own w T w' ∧ la.length ≤ c1 ∧ ∀ base z, RowK 5 clV z A0 l0 → Own base T z → RowK 5 clV z A1 la
theorem qz {a : Ar} {x : Rc} {la : List Cl} (e : av a = (x, la)) (A1 : Option Addr) (c1 : Nat) (w : World) (hc : a.l.length ≤ c1) : Calls Tryz.prog 66 #[.agg #[.bool a.w, .int .u8 a.v.k, .int .i64 a.v.n, .string ⟨a.v.t.toArray⟩, .int .i64 a.x.c1, .int .i64 a.x.r1, .int .i64 a.x.c2, .int .i64 a.x.r2, .slice A1 a.l.length c1]] w fun e w' => Dz x la a.l A1 w e w' := by
  have h := oH a A1 c1 w hc; unfold gq at h; rw [e] at h; exact h
theorem qA {a : Ar} (h : br a = true) : okR (av a).1 = true := by
  unfold br at h; unfold av
  split
  · rename_i e
    rw [if_pos e] at h
    simp only [Bool.and_eq_true] at h
    exact h.1.2
  · rfl
theorem CC {a : Ar} {v : Vl} {r : List Vl} (h : (p16 v).2.2 = false) : (p16 v).2.1 = cm a (v :: r) := by
  obtain ⟨h1, h2⟩ := wD h; unfold cm; rw [List.map_cons, show aN (bB v :: r.map bB) = some (bB v) by unfold aN; rw [List.find?_cons, h1], h2]
theorem zz {u v : Vl} (h : isE u = false) : aN [u, v] = if isE v then some v else none := by
  unfold aN; rw [List.find?_cons, h, List.find?_cons]
  cases isE v <;> rfl
theorem DA {a : Ar} {u v : Vl} (g : (p16 u).2.2 = true) (h : (p16 v).2.2 = false) : (p16 v).2.1 = cm a [u, v] := by
  obtain ⟨h1, h2⟩ := wD h; obtain ⟨g1, g2⟩ := jC g; unfold cm; rw [show [u, v].map bB = [bB u, bB v] from rfl, zz g1, if_pos h1, h2]
theorem zA {a : Ar} {u : Vl} (g : (p16 u).2.2 = true) : cm a [u] = rt a (p16 u).1 := by
  obtain ⟨g1, g2⟩ := jC g; unfold cm; rw [show aN ([u].map bB) = none by unfold aN; rw [List.map_cons, List.find?_cons, g1]; rfl, g2]
  rfl
theorem zB {a : Ar} {u v : Vl} (g : (p16 u).2.2 = true) (h : (p16 v).2.2 = true) : cm a [u, v] = rr a (p16 u).1 (p16 v).1 := by
  obtain ⟨g1, g2⟩ := jC g; obtain ⟨h1, h2⟩ := jC h; unfold cm; rw [show [u, v].map bB = [bB u, bB v] from rfl, zz g1, h1, g2, h2]
  rfl
theorem A4 {a : Ar} {x : Rc} {la : List Cl} {u : Vl} (ea : av a = (x, la)) (g : (p16 u).2.2 = true) (o : ((p16 u).1 : Int) < (1 : Int) ∨ ((x.c2 - x.c1 + 1) * (x.r2 - x.r1 + 1) : Int) < ((p16 u).1 : Int)) : aW 5 = cm a [u] := by
  rw [zA g]; unfold rt; rw [ea, if_pos]; exact o
theorem CD {a : Ar} {x : Rc} {la : List Cl} {u : Vl} (ea : av a = (x, la)) (g : (p16 u).2.2 = true) (o : ¬ (((p16 u).1 : Int) < (1 : Int) ∨ ((x.c2 - x.c1 + 1) * (x.r2 - x.r1 + 1) : Int) < ((p16 u).1 : Int))) : vp la (x.c1 + Int.tmod ((p16 u).1 - 1) (x.c2 - x.c1 + 1)) (x.r1 + Int.tdiv ((p16 u).1 - 1) (x.c2 - x.c1 + 1)) = cm a [u] := by
  rw [zA g]; unfold rt cd dw; rw [ea]
  dsimp only
  rw [if_neg o, Int.tmod_eq_emod_of_nonneg (by omega), Int.tdiv_eq_ediv_of_nonneg (by omega)]
theorem A5 {a : Ar} {x : Rc} {la : List Cl} {u v : Vl} (ea : av a = (x, la)) (g : (p16 u).2.2 = true) (h : (p16 v).2.2 = true) (o : ((((p16 u).1 : Int) < (1 : Int) ∨ (x.r2 - x.r1 + 1 : Int) < ((p16 u).1 : Int)) ∨ ((p16 v).1 : Int) < (1 : Int)) ∨ (x.c2 - x.c1 + 1 : Int) < ((p16 v).1 : Int)) : aW 5 = cm a [u, v] := by
  rw [zB g h]; unfold rr dw cd; rw [ea]
  dsimp only
  rw [if_pos (by omega)]
theorem CE {a : Ar} {x : Rc} {la : List Cl} {u v : Vl} (ea : av a = (x, la)) (g : (p16 u).2.2 = true) (h : (p16 v).2.2 = true) (o : ¬ (((((p16 u).1 : Int) < (1 : Int) ∨ (x.r2 - x.r1 + 1 : Int) < ((p16 u).1 : Int)) ∨ ((p16 v).1 : Int) < (1 : Int)) ∨ (x.c2 - x.c1 + 1 : Int) < ((p16 v).1 : Int))) : vp la (x.c1 + ((p16 v).1 - 1)) (x.r1 + ((p16 u).1 - 1)) = cm a [u, v] := by
  rw [zB g h]; unfold rr dw cd; rw [ea]
  dsimp only
  rw [if_neg (by omega)]
theorem pk : En 107 := by intro args w; go_simp
theorem CF (A : Option Addr) (cap : Nat) (a b : Ar) (w : World) (mx : Int) (HM : Mx w mx) (hr : ArgsAt w A [a, b]) (hb : Small b.v) (hla : a.l.length ≤ 900000) (hok : br a = true) :
    Calls Tryz.prog 68 #[.slice A 2 cap] w fun e w' => e = .returned (al (cm a [b.v])) ∧ Kept w w' := by
  obtain ⟨bq0, o0, S0, z0, hA0, e0, q0, y0⟩ := hr.elem (i := 0) rfl; obtain ⟨bq1, o1, S1, z1, hA1, e1, q1, y1⟩ := hr.elem (i := 1) rfl; obtain ⟨xa, la, ea⟩ : ∃ x l, av a = (x, l) := ⟨_, _, rfl⟩; have hla2 : la.length ≤ 1000000 := by have := kn a (by omega); rw [ea] at this; exact this
  have hox : okR xa = true := by have := qA hok; rw [ea] at this; exact this
  obtain ⟨⟨k1, k2, k3⟩, k4, k5, k6⟩ := jx.1 hox; have hp := Ag k2 k5 (Int.le_trans (Int.sub_le_sub k3 k1) (by decide)) (Int.le_trans (Int.sub_le_sub k6 k4) (by decide)); have hmu := mj (a := (xa.c2 - xa.c1 + 1)) (b := (xa.r2 - xa.r1 + 1)) (by omega) (by omega) (by omega) (by omega); go_enter Tryz.func68, Tryz.ntmps68
  refine rgx [bJ w.heap.size (.cells #[.int .u8 0, .int .i64 0, .string ⟨[].toArray⟩] 25 (0, 0))] 1 118 rfl rfl (Own.start w) (
    uq4 <|
    ah) fun fa fw bs hv ap z q ov => ?_
  have s0 := bs.get 0 rfl rfl; obtain ⟨gb1, s2, bgb1, hgb1⟩ := zn hv 0; have ov := ov.hc (Own.start w) bgb1 hgb1; have ow := ov; refine sq fun hK2 => ?_
  refine ro [yV _, yV _, yV (.agg #[.bool a.w, .int .u8 a.v.k, .int .i64 a.v.n, .string ⟨a.v.t.toArray⟩, .int .i64 a.x.c1, .int .i64 a.x.r1, .int .i64 a.x.c2, .int .i64 a.x.r2, .slice S0 a.l.length z0])] 3 118 z q ow (
    um s0 rfl <|
    ua (rp0 9 Tryz.underlying22 hA0 (zd 0) zc) rfl <|
    ua (rpk 9 0 e0 ow (zd 1)) rfl <|
    ah) fun fa fw bs hv ap z q ow => ?_
  obtain ⟨s0, s2⟩ := b2 bs s0 s2; have s12 := zh hv 2; refine aO (ag rfl) (cz (u := .agg #[.bool a.w, .int .u8 a.v.k, .int .i64 a.v.n, .string ⟨a.v.t.toArray⟩, .int .i64 a.x.c1, .int .i64 a.x.r1, .int .i64 a.x.c2, .int .i64 a.x.r2, .slice S0 a.l.length z0]) rfl s12 (eA _ _)) ((qz ea _ _ _ y0).mono ?_); rintro _ fw ⟨T, A2, c2, rfl, hT, hc2, hR⟩; refine ⟨_, rfl, ?_⟩; rcases hT with hT
  have ow := Own.both ow hT; have ow : Own w ((Th.obj gb1 (.cells #[.int .u8 0, .int .i64 0, .string ⟨[].toArray⟩] 25 (0, 0))) :: T) fw := ow; refine eQ ow (ag rfl) (gg (b := .cells #[.int .i64 0, .int .i64 0, .int .i64 0, .int .i64 0, .slice none 0 0] 37 (0, 0)) rfl (by kernel_rfl)) fun gb2 fw ow => ?_; refine cc ow 0 0 (ag rfl) rfl rfl (af (t := 3) (ab z) rfl) (pb 3 (af (t := 13) z rfl) rfl) (by kernel_rfl) rfl rfl rfl fun fw ow => ?_; refine gt3 (ab (ab z)) (ac (ac q)) ow 0 (pb 3 (pb 13 s0 rfl) rfl) 2 (pb 3 (pb 13 s2 rfl) rfl) 3 (af (t := 3) (ab z) rfl) fun fa fw z q ow s0 s2 s3 => ?_; refine wt hK2 ?_; refine sq fun hK3 => ?_
  refine ro [yV _, yV _, yV (.pointer (some ⟨bq1, o1 + 1 * 9 + 1, none⟩)), yV (al b.v), yV (.tuple #[.int .i64 ((p16 b.v).1), al ((p16 b.v).2.1), .bool ((p16 b.v).2.2)]), yV _, yV _, yV (al ((p16 b.v).2.1)), yV _, bJ fw.heap.size (.cells #[.int .u8 0, .int .i64 0, .string ⟨[].toArray⟩] 25 (0, 0)), yV _] 11 118 z q ow (
    um s0 rfl <|
    ua (rp0 9 Tryz.underlying22 hA1 (zd 0) zc) rfl <|
    ua (rfa (zd 1)) rfl <|
    ua (rpk 3 1 e1 ow (zd 2)) rfl <|
    uc (rc1 (zd 3) dy) (fun hk => em b.v _ mx (HM.kept (ow.keep hk).kept) hb) rfl <|
    uq2 4 rfl rfl <|
    ua (rex (zd 5)) rfl <|
    ua (rex (zd 5)) rfl <|
    ua (rex (zd 5)) rfl <|
    uq4 <|
    uq3 6 rfl rfl <|
    ah) fun fa fw bs hv ap z q ov => ?_
  obtain ⟨s0, s2, s3⟩ := b3 bs s0 s2 s3; have s21 := zh hv 7; have s22 := zh hv 8; obtain ⟨gb3, s5, bgb3, hgb3⟩ := zn hv 9; have ov := ov.hc ow bgb3 hgb3; have s4 := zh hv 10; have ow := ov; refine ws ow 0 0 s5 s21 fun fw ow => ?_; refine ae (v := .bool ((p16 b.v).2.2)) (ag rfl) (aq rfl s22) ?_; refine gp5 z q ow s0 s2 s3 s5 s4 fun fa fw z q ow s0 s2 s3 s5 s4 s6 => ?_; refine wt hK3 ?_; refine sq fun hK4 => ?_
  refine rgx [yV _, yV _] 2 118 z q ow (
    um s6 rfl <|
    ua (rno (zd 0)) rfl <|
    ah) fun fa fw bs hv ap z q ow => ?_
  obtain ⟨s0, s2, s3, s5, s4, s6⟩ := b6 bs s0 s2 s3 s5 s4 s6; have s24 := zh hv 1
  by_cases hc1 : ¬ (((p16 b.v).2.2) = true)
  ·refine ct s24 ((dX (Iff.rfl)).2 hc1) ?_
   have hpb : (p16 b.v).2.2 = false := by simpa using hc1
   refine sq fun hK6 => ?_
   refine ro [yV (al ((p16 b.v).2.1))] 1 118 z q ow (
     ua (rln 3 ow 0 (zt s5)) rfl <|
     ah) fun fa fw bs hv ap z q ow => ?_
   obtain ⟨s0, s2, s3, s5, s4, s6⟩ := b6 bs s0 s2 s3 s5 s4 s6; have s25 := zh hv 0; refine ws ow 2 0 s2 s25 fun fw ow => ?_; refine wt hK6 ?_; refine wp_ret ?_; refine ao ?_; refine rs3 s2 (ow.box 2 rfl) q ?_; exact ⟨congrArg (fun v => Ending.returned (al v)) (CC hpb), ow.kept⟩
  refine cf s24 (dX (Iff.rfl)) hc1 ?_; have hpo : (p16 b.v).2.2 = true := by simpa using hc1
  refine wp_skip ?_; refine tn hK4 ?_
  refine rgx [yV (.pointer (some ⟨gb2, 0, none⟩)), yV (.pointer (some ⟨gb2, 2, none⟩)), yV _, yV (.pointer (some ⟨gb2, 0, none⟩)), yV (.pointer (some ⟨gb2, 0, none⟩)), yV _, yV _, yV _, yV (.pointer (some ⟨gb2, 0, none⟩)), yV (.pointer (some ⟨gb2, 3, none⟩)), yV _, yV (.pointer (some ⟨gb2, 0, none⟩)), yV (.pointer (some ⟨gb2, 1, none⟩)), yV _, yV _, yV _, yV _, yV _] 18 118 z q ow (
    ua (rfa (zt s3)) rfl <|
    ua (rfa (zd 0)) rfl <|
    ua (rlb ow 1 (zd 1)) rfl <|
    ua (rfa (zt s3)) rfl <|
    ua (rfa (zd 3)) rfl <|
    ua (rlb ow 1 (zd 4)) rfl <|
    ua (rsb (zd 2) (zd 5)) rfl <|
    ua (rad (zd 6) zc) rfl <|
    ua (rfa (zt s3)) rfl <|
    ua (rfa (zd 8)) rfl <|
    ua (rlb ow 1 (zd 9)) rfl <|
    ua (rfa (zt s3)) rfl <|
    ua (rfa (zd 11)) rfl <|
    ua (rlb ow 1 (zd 12)) rfl <|
    ua (rsb (zd 10) (zd 13)) rfl <|
    ua (rad (zd 14) zc) rfl <|
    uq3 7 rfl rfl <|
    uq3 15 rfl rfl <|
    ah) fun fa fw bs hv ap z q ow => ?_
  obtain ⟨s0, s2, s3, s5, s4, s6⟩ := b6 bs s0 s2 s3 s5 s4 s6; have s7 := zh hv 16; have s8 := zh hv 17
  refine rgx [yV _] 1 118 z q ow (
    uq1 rfl rfl rfl <|
    ah) fun fa fw bs hv ap z q ow => ?_
  obtain ⟨s0, s2, s3, s5, s4, s6, s7, s8⟩ := b8 bs s0 s2 s3 s5 s4 s6 s7 s8; have s9 := zh hv 0; refine sq fun hK9 => ?_
  refine rgx [yV _, yV _, yV (.bool false)] 3 118 z q ow (
    um s0 rfl <|
    ua (rle Tryz.underlying22 (zd 0)) rfl <|
    ub (req (zd 1) zc) rfl <|
    ah) fun fa fw bs hv ap z q ow => ?_
  obtain ⟨s0, s2, s3, s5, s4, s6, s7, s8⟩ := b8 bs s0 s2 s3 s5 s4 s6 s7 s8; have s9 := bg bs s9; have s44 := zh hv 2; refine wp_cond_false (s44) ?_; refine wp_skip ?_; refine tn hK9 ?_; refine sq fun hK11 => ?_
  refine rgx [yV _, yV _, yV _, yIf _ (yV _), yIf _ (yV _), yIf _ (yV _), yIf _ (yV _), yIf _ (yV _), yV _] 9 118 z q ow (
    um s4 rfl <|
    ua (rlt (zd 0) zc) rfl <|
    uq2 1 rfl rfl <|
    ui (gd1 2) (rmo (zt s4)) rfl <|
    ui (gd1 2) (rmo (zt s7)) rfl <|
    ui (gd1 2) (rmo (zt s8)) rfl <|
    ai (gd1 2) (fun hk bs hd hz => B8 (Or.inr rfl) rfl (di hd 4 rfl hz) (di hd 5 rfl hz) hp.1 hp.2) rfl <|
    ui (gd1 2) (rgt (zi 3) (zi 6)) rfl <|
    ua (ron (zd 2) (zi 7)) rfl <|
    ah) fun fa fw bs hv ap z q ow => ?_
  obtain ⟨s2, s3, s4, s7⟩ := b4 bs s2 s3 s4 s7; have s97 := zh hv 8
  by_cases hc2 : (((p16 b.v).1 : Int) < (1 : Int)) ∨ ((((xa.c2 - xa.c1) + 1) * ((xa.r2 - xa.r1) + 1) : Int) < ((p16 b.v).1 : Int))
  ·refine ct s97 ((bor (decide_eq_true_iff) (decide_eq_true_iff)).2 hc2) ?_
   have hout := hc2; refine sq fun hK13 => ?_
   refine ro [yV (al (aW 5))] 1 118 z q ow (
     uc (rc1 zc cD) (fun hk => cj 5 _) rfl <|
     ah) fun fa fw bs hv ap z q ow => ?_
   obtain ⟨s2, s3, s4, s7⟩ := b4 bs s2 s3 s4 s7; have s98 := zh hv 0; refine ws ow 2 0 s2 s98 fun fw ow => ?_; refine wt hK13 ?_; refine wp_ret ?_; refine ao ?_; refine rs3 s2 (ow.box 2 rfl) q ?_; exact ⟨congrArg (fun v => Ending.returned (al v)) (A4 ea hpo hout), ow.kept⟩
  refine cf s97 (bor (decide_eq_true_iff) (decide_eq_true_iff)) hc2 ?_; have hin := hc2; have hi1 : 1 ≤ (p16 b.v).1 ∧ (p16 b.v).1 ≤ (xa.c2 - xa.c1 + 1) * (xa.r2 - xa.r1 + 1) := by omega
  obtain ⟨i1, i2, i3, i4⟩ := xZ (x := xa) (i := (p16 b.v).1 - 1) k2 k5 (by omega) (by unfold cd dw; omega); have i5 : Int.tmod ((p16 b.v).1 - 1) (xa.c2 - xa.c1 + 1) = ((p16 b.v).1 - 1) % cd xa := Int.tmod_eq_emod_of_nonneg (by omega); have i6 : Int.tdiv ((p16 b.v).1 - 1) (xa.c2 - xa.c1 + 1) = ((p16 b.v).1 - 1) / cd xa := Int.tdiv_eq_ediv_of_nonneg (by omega); refine wp_skip ?_; refine tn hK11 ?_; refine sq fun hK14 => ?_
  refine ro [yV (.agg #[.int .i64 xa.c1, .int .i64 xa.r1, .int .i64 xa.c2, .int .i64 xa.r2, .slice A2 la.length c2]), yV (.pointer (some ⟨gb2, 0, none⟩)), yV (.pointer (some ⟨gb2, 0, none⟩)), yV _, yV _, yV _, yV _, yV _, yV _, yV (.pointer (some ⟨gb2, 0, none⟩)), yV (.pointer (some ⟨gb2, 1, none⟩)), yV _, yV _, yV _, yV _, yV _, yV _, yV (.agg #[.int .i64 (xa.c1 + (Int.tmod (((p16 b.v).1) - 1) ((xa.c2 - xa.c1) + 1))), .int .i64 (xa.r1 + (Int.tdiv (((p16 b.v).1) - 1) ((xa.c2 - xa.c1) + 1)))]), yV (al (vp la (xa.c1 + (Int.tmod (((p16 b.v).1) - 1) ((xa.c2 - xa.c1) + 1))) (xa.r1 + (Int.tdiv (((p16 b.v).1) - 1) ((xa.c2 - xa.c1) + 1)))))] 19 118 z q ow (
    ua (rln 5 ow 1 (zt s3)) rfl <|
    ua (rfa (zt s3)) rfl <|
    ua (rfa (zd 1)) rfl <|
    ua (rlb ow 1 (zd 2)) rfl <|
    um s4 rfl <|
    ua (rsb (zd 4) zc) rfl <|
    um s7 rfl <|
    aS (fun hk bs hd => Dr (Or.inr rfl) rfl (n := ((p16 b.v).1) - 1) (m := (xa.c2 - xa.c1) + 1) (dp hd 5 rfl) (dp hd 6 rfl) (by omega) (by omega) (by omega)) rfl <|
    ua (rad (zd 3) (zd 7)) rfl <|
    ua (rfa (zt s3)) rfl <|
    ua (rfa (zd 9)) rfl <|
    ua (rlb ow 1 (zd 10)) rfl <|
    um s4 rfl <|
    ua (rsb (zd 12) zc) rfl <|
    um s7 rfl <|
    aS (fun hk bs hd => Dq (Or.inr rfl) rfl (dp hd 13 rfl) (dp hd 14 rfl) (by omega) (by omega) (by omega)) rfl <|
    ua (rad (zd 11) (zd 15)) rfl <|
    arm (fun aa ww hk bs hd => by
      have d8 : aa.eval (.tmp 107) = .int .i64 (xa.c1 + (Int.tmod (((p16 b.v).1) - 1) ((xa.c2 - xa.c1) + 1))) := fy hd 8 rfl; have d16 : aa.eval (.tmp 115) = .int .i64 (xa.r1 + (Int.tdiv (((p16 b.v).1) - 1) ((xa.c2 - xa.c1) + 1))) := fy hd 16 rfl; exact bS (v := .agg #[.int .i64 (xa.c1 + (Int.tmod (((p16 b.v).1) - 1) ((xa.c2 - xa.c1) + 1))), .int .i64 (xa.r1 + (Int.tdiv (((p16 b.v).1) - 1) ((xa.c2 - xa.c1) + 1)))]) (ag rfl) (bP (us := #[(0, .int .i64 (xa.c1 + (Int.tmod (((p16 b.v).1) - 1) ((xa.c2 - xa.c1) + 1)))), (1, .int .i64 (xa.r1 + (Int.tdiv (((p16 b.v).1) - 1) ((xa.c2 - xa.c1) + 1))))]) rfl (by simp only [List.map_toArray, List.map_cons, List.map_nil, d8, d16]) (by kernel_rfl)) rfl rfl
      ) <|
    uc (rc2 (zd 0) (zd 17) pk) (fun hk => vF xa la _ _ (xa.c1 + (Int.tmod (((p16 b.v).1) - 1) ((xa.c2 - xa.c1) + 1))) (xa.r1 + (Int.tdiv (((p16 b.v).1) - 1) ((xa.c2 - xa.c1) + 1))) _ (hR _ _ (q0.kept (ow.keep hk).kept) (ow.keep hk).tail.tail.tail) hla2) rfl <|
    ah) fun fa fw bs hv ap z q ow => ?_
  have s2 := bg bs s2; have s117 := zh hv 18; refine ws ow 2 0 s2 s117 fun fw ow => ?_; refine wt hK14 ?_; refine wp_ret ?_; refine rs3 s2 (ow.box 2 rfl) q ?_; exact ⟨congrArg (fun v => Ending.returned (al v)) (CD ea hpo hin), ow.kept⟩
theorem CG (A : Option Addr) (cap : Nat) (a b c : Ar) (w : World) (mx : Int) (HM : Mx w mx) (hr : ArgsAt w A [a, b, c]) (hb : Small b.v) (hc : Small c.v) (hla : a.l.length ≤ 900000) (hok : br a = true) :
    Calls Tryz.prog 68 #[.slice A 3 cap] w fun e w' => e = .returned (al (cm a [b.v, c.v])) ∧ Kept w w' := by
  obtain ⟨bq0, o0, S0, z0, hA0, e0, q0, y0⟩ := hr.elem (i := 0) rfl; obtain ⟨bq1, o1, S1, z1, hA1, e1, q1, y1⟩ := hr.elem (i := 1) rfl; obtain ⟨bq2, o2, S2, z2, hA2, e2, q2, y2⟩ := hr.elem (i := 2) rfl; obtain ⟨xa, la, ea⟩ : ∃ x l, av a = (x, l) := ⟨_, _, rfl⟩; have hla2 : la.length ≤ 1000000 := by have := kn a (by omega); rw [ea] at this; exact this
  have hox : okR xa = true := by have := qA hok; rw [ea] at this; exact this
  obtain ⟨⟨k1, k2, k3⟩, k4, k5, k6⟩ := jx.1 hox; have hp := Ag k2 k5 (Int.le_trans (Int.sub_le_sub k3 k1) (by decide)) (Int.le_trans (Int.sub_le_sub k6 k4) (by decide)); have hmu := mj (a := (xa.c2 - xa.c1 + 1)) (b := (xa.r2 - xa.r1 + 1)) (by omega) (by omega) (by omega) (by omega); go_enter Tryz.func68, Tryz.ntmps68
  refine rgx [bJ w.heap.size (.cells #[.int .u8 0, .int .i64 0, .string ⟨[].toArray⟩] 25 (0, 0))] 1 118 rfl rfl (Own.start w) (
    uq4 <|
    ah) fun fa fw bs hv ap z q ov => ?_
  have s0 := bs.get 0 rfl rfl; obtain ⟨gb1, s2, bgb1, hgb1⟩ := zn hv 0; have ov := ov.hc (Own.start w) bgb1 hgb1; have ow := ov; refine sq fun hK2 => ?_
  refine ro [yV _, yV _, yV (.agg #[.bool a.w, .int .u8 a.v.k, .int .i64 a.v.n, .string ⟨a.v.t.toArray⟩, .int .i64 a.x.c1, .int .i64 a.x.r1, .int .i64 a.x.c2, .int .i64 a.x.r2, .slice S0 a.l.length z0])] 3 118 z q ow (
    um s0 rfl <|
    ua (rp0 9 Tryz.underlying22 hA0 (zd 0) zc) rfl <|
    ua (rpk 9 0 e0 ow (zd 1)) rfl <|
    ah) fun fa fw bs hv ap z q ow => ?_
  obtain ⟨s0, s2⟩ := b2 bs s0 s2; have s12 := zh hv 2; refine aO (ag rfl) (cz (u := .agg #[.bool a.w, .int .u8 a.v.k, .int .i64 a.v.n, .string ⟨a.v.t.toArray⟩, .int .i64 a.x.c1, .int .i64 a.x.r1, .int .i64 a.x.c2, .int .i64 a.x.r2, .slice S0 a.l.length z0]) rfl s12 (eA _ _)) ((qz ea _ _ _ y0).mono ?_); rintro _ fw ⟨T, A2, c2, rfl, hT, hc2, hR⟩; refine ⟨_, rfl, ?_⟩; rcases hT with hT
  have ow := Own.both ow hT; have ow : Own w ((Th.obj gb1 (.cells #[.int .u8 0, .int .i64 0, .string ⟨[].toArray⟩] 25 (0, 0))) :: T) fw := ow; refine eQ ow (ag rfl) (gg (b := .cells #[.int .i64 0, .int .i64 0, .int .i64 0, .int .i64 0, .slice none 0 0] 37 (0, 0)) rfl (by kernel_rfl)) fun gb2 fw ow => ?_; refine cc ow 0 0 (ag rfl) rfl rfl (af (t := 3) (ab z) rfl) (pb 3 (af (t := 13) z rfl) rfl) (by kernel_rfl) rfl rfl rfl fun fw ow => ?_; refine gt3 (ab (ab z)) (ac (ac q)) ow 0 (pb 3 (pb 13 s0 rfl) rfl) 2 (pb 3 (pb 13 s2 rfl) rfl) 3 (af (t := 3) (ab z) rfl) fun fa fw z q ow s0 s2 s3 => ?_; refine wt hK2 ?_; refine sq fun hK3 => ?_
  refine ro [yV _, yV _, yV (.pointer (some ⟨bq1, o1 + 1 * 9 + 1, none⟩)), yV (al b.v), yV (.tuple #[.int .i64 ((p16 b.v).1), al ((p16 b.v).2.1), .bool ((p16 b.v).2.2)]), yV _, yV _, yV (al ((p16 b.v).2.1)), yV _, bJ fw.heap.size (.cells #[.int .u8 0, .int .i64 0, .string ⟨[].toArray⟩] 25 (0, 0)), yV _] 11 118 z q ow (
    um s0 rfl <|
    ua (rp0 9 Tryz.underlying22 hA1 (zd 0) zc) rfl <|
    ua (rfa (zd 1)) rfl <|
    ua (rpk 3 1 e1 ow (zd 2)) rfl <|
    uc (rc1 (zd 3) dy) (fun hk => em b.v _ mx (HM.kept (ow.keep hk).kept) hb) rfl <|
    uq2 4 rfl rfl <|
    ua (rex (zd 5)) rfl <|
    ua (rex (zd 5)) rfl <|
    ua (rex (zd 5)) rfl <|
    uq4 <|
    uq3 6 rfl rfl <|
    ah) fun fa fw bs hv ap z q ov => ?_
  obtain ⟨s0, s2, s3⟩ := b3 bs s0 s2 s3; have s21 := zh hv 7; have s22 := zh hv 8; obtain ⟨gb3, s5, bgb3, hgb3⟩ := zn hv 9; have ov := ov.hc ow bgb3 hgb3; have s4 := zh hv 10; have ow := ov; refine ws ow 0 0 s5 s21 fun fw ow => ?_; refine ae (v := .bool ((p16 b.v).2.2)) (ag rfl) (aq rfl s22) ?_; refine gp5 z q ow s0 s2 s3 s5 s4 fun fa fw z q ow s0 s2 s3 s5 s4 s6 => ?_; refine wt hK3 ?_; refine sq fun hK4 => ?_
  refine rgx [yV _, yV _] 2 118 z q ow (
    um s6 rfl <|
    ua (rno (zd 0)) rfl <|
    ah) fun fa fw bs hv ap z q ow => ?_
  obtain ⟨s0, s2, s3, s5, s4, s6⟩ := b6 bs s0 s2 s3 s5 s4 s6; have s24 := zh hv 1
  by_cases hc1 : ¬ (((p16 b.v).2.2) = true)
  ·refine ct s24 ((dX (Iff.rfl)).2 hc1) ?_
   have hpb : (p16 b.v).2.2 = false := by simpa using hc1
   refine sq fun hK6 => ?_
   refine ro [yV (al ((p16 b.v).2.1))] 1 118 z q ow (
     ua (rln 3 ow 0 (zt s5)) rfl <|
     ah) fun fa fw bs hv ap z q ow => ?_
   obtain ⟨s0, s2, s3, s5, s4, s6⟩ := b6 bs s0 s2 s3 s5 s4 s6; have s25 := zh hv 0; refine ws ow 2 0 s2 s25 fun fw ow => ?_; refine wt hK6 ?_; refine wp_ret ?_; refine ao ?_; refine rs3 s2 (ow.box 2 rfl) q ?_; exact ⟨congrArg (fun v => Ending.returned (al v)) (CC hpb), ow.kept⟩
  refine cf s24 (dX (Iff.rfl)) hc1 ?_; have hpo : (p16 b.v).2.2 = true := by simpa using hc1
  refine wp_skip ?_; refine tn hK4 ?_
  refine rgx [yV (.pointer (some ⟨gb2, 0, none⟩)), yV (.pointer (some ⟨gb2, 2, none⟩)), yV _, yV (.pointer (some ⟨gb2, 0, none⟩)), yV (.pointer (some ⟨gb2, 0, none⟩)), yV _, yV _, yV _, yV (.pointer (some ⟨gb2, 0, none⟩)), yV (.pointer (some ⟨gb2, 3, none⟩)), yV _, yV (.pointer (some ⟨gb2, 0, none⟩)), yV (.pointer (some ⟨gb2, 1, none⟩)), yV _, yV _, yV _, yV _, yV _] 18 118 z q ow (
    ua (rfa (zt s3)) rfl <|
    ua (rfa (zd 0)) rfl <|
    ua (rlb ow 1 (zd 1)) rfl <|
    ua (rfa (zt s3)) rfl <|
    ua (rfa (zd 3)) rfl <|
    ua (rlb ow 1 (zd 4)) rfl <|
    ua (rsb (zd 2) (zd 5)) rfl <|
    ua (rad (zd 6) zc) rfl <|
    ua (rfa (zt s3)) rfl <|
    ua (rfa (zd 8)) rfl <|
    ua (rlb ow 1 (zd 9)) rfl <|
    ua (rfa (zt s3)) rfl <|
    ua (rfa (zd 11)) rfl <|
    ua (rlb ow 1 (zd 12)) rfl <|
    ua (rsb (zd 10) (zd 13)) rfl <|
    ua (rad (zd 14) zc) rfl <|
    uq3 7 rfl rfl <|
    uq3 15 rfl rfl <|
    ah) fun fa fw bs hv ap z q ow => ?_
  obtain ⟨s0, s2, s3, s5, s4, s6⟩ := b6 bs s0 s2 s3 s5 s4 s6; have s7 := zh hv 16; have s8 := zh hv 17
  refine rgx [yV _] 1 118 z q ow (
    uq1 rfl rfl rfl <|
    ah) fun fa fw bs hv ap z q ow => ?_
  obtain ⟨s0, s2, s3, s5, s4, s6, s7, s8⟩ := b8 bs s0 s2 s3 s5 s4 s6 s7 s8; have s9 := zh hv 0; refine sq fun hK9 => ?_
  refine rgx [yV _, yV _, yV (.bool true)] 3 118 z q ow (
    um s0 rfl <|
    ua (rle Tryz.underlying22 (zd 0)) rfl <|
    ub (req (zd 1) zc) rfl <|
    ah) fun fa fw bs hv ap z q ow => ?_
  obtain ⟨s0, s2, s3, s5, s4, s6, s7, s8⟩ := b8 bs s0 s2 s3 s5 s4 s6 s7 s8; have s9 := bg bs s9; have s44 := zh hv 2; refine wp_cond_true (s44) ?_; refine sq fun hK11 => ?_; refine sq fun hK12 => ?_
  refine ro [yV _, yV _, yV (.pointer (some ⟨bq2, o2 + 2 * 9 + 1, none⟩)), yV (al c.v), yV (.tuple #[.int .i64 ((p16 c.v).1), al ((p16 c.v).2.1), .bool ((p16 c.v).2.2)]), yV _, yV _, yV (al ((p16 c.v).2.1)), yV _, yV _] 10 118 z q ow (
    um s0 rfl <|
    ua (rp0 9 Tryz.underlying22 hA2 (zd 0) zc) rfl <|
    ua (rfa (zd 1)) rfl <|
    ua (rpk 3 1 e2 ow (zd 2)) rfl <|
    uc (rc1 (zd 3) dy) (fun hk => em c.v _ mx (HM.kept (ow.keep hk).kept) hc) rfl <|
    uq2 4 rfl rfl <|
    ua (rex (zd 5)) rfl <|
    ua (rex (zd 5)) rfl <|
    ua (rex (zd 5)) rfl <|
    uq3 6 rfl rfl <|
    ah) fun fa fw bs hv ap z q ow => ?_
  obtain ⟨s2, s3, s5, s4, s6, s7, s8⟩ := b7 bs s2 s3 s5 s4 s6 s7 s8; have s52 := zh hv 7; have s53 := zh hv 8; have s9 := zh hv 9; refine ws ow 0 0 s5 s52 fun fw ow => ?_; refine ae (v := .bool ((p16 c.v).2.2)) (ag rfl) (aq rfl s53) ?_; refine gp7 z q ow s2 s3 s5 s4 s7 s8 s9 fun fa fw z q ow s2 s3 s5 s4 s7 s8 s9 s6 => ?_; refine wt hK12 ?_
  refine rgx [yV _, yV _] 2 118 z q ow (
    um s6 rfl <|
    ua (rno (zd 0)) rfl <|
    ah) fun fa fw bs hv ap z q ow => ?_
  obtain ⟨s2, s3, s5, s4, s7, s8, s9⟩ := b7 bs s2 s3 s5 s4 s7 s8 s9; have s55 := zh hv 1
  by_cases hc2 : ¬ (((p16 c.v).2.2) = true)
  ·refine ct s55 ((dX (Iff.rfl)).2 hc2) ?_
   have hpc : (p16 c.v).2.2 = false := by simpa using hc2
   refine sq fun hK14 => ?_
   refine ro [yV (al ((p16 c.v).2.1))] 1 118 z q ow (
     ua (rln 3 ow 0 (zt s5)) rfl <|
     ah) fun fa fw bs hv ap z q ow => ?_
   obtain ⟨s2, s3, s4, s7, s8, s9⟩ := b6 bs s2 s3 s4 s7 s8 s9; have s56 := zh hv 0; refine ws ow 2 0 s2 s56 fun fw ow => ?_; refine wt hK14 ?_; refine wp_ret ?_; refine ao ?_; refine ao ?_; refine rs3 s2 (ow.box 2 rfl) q ?_; exact ⟨congrArg (fun v => Ending.returned (al v)) (DA hpo hpc), ow.kept⟩
  refine cf s55 (dX (Iff.rfl)) hc2 ?_; have hqo : (p16 c.v).2.2 = true := by simpa using hc2
  refine wp_skip ?_; refine tn hK11 ?_; refine sq fun hK15 => ?_
  refine rgx [yV _, yV _, yV _, yIf _ (yV _), yIf _ (yV _), yIf _ (yV _), yV _, yV _, yIf _ (yV _), yIf _ (yV _), yV _, yV _, yIf _ (yV _), yIf _ (yV _), yIf _ (yV _), yV _] 16 118 z q ow (
    um s4 rfl <|
    ua (rlt (zd 0) zc) rfl <|
    uq2 1 rfl rfl <|
    ui (gd1 2) (rmo (zt s4)) rfl <|
    ui (gd1 2) (rmo (zt s8)) rfl <|
    ui (gd1 2) (rgt (zi 3) (zi 4)) rfl <|
    ua (ron (zd 2) (zi 5)) rfl <|
    uq2 6 rfl rfl <|
    ui (gd1 7) (rmo (zt s9)) rfl <|
    ui (gd1 7) (rlt (zi 8) zc) rfl <|
    ua (ron (zd 7) (zi 9)) rfl <|
    uq2 10 rfl rfl <|
    ui (gd1 11) (rmo (zt s9)) rfl <|
    ui (gd1 11) (rmo (zt s7)) rfl <|
    ui (gd1 11) (rgt (zi 12) (zi 13)) rfl <|
    ua (ron (zd 11) (zi 14)) rfl <|
    ah) fun fa fw bs hv ap z q ow => ?_
  obtain ⟨s2, s3, s4, s7, s8, s9⟩ := b6 bs s2 s3 s4 s7 s8 s9; have s72 := zh hv 15
  by_cases hc3 : (((((p16 b.v).1 : Int) < (1 : Int)) ∨ (((xa.r2 - xa.r1) + 1 : Int) < ((p16 b.v).1 : Int))) ∨ (((p16 c.v).1 : Int) < (1 : Int))) ∨ (((xa.c2 - xa.c1) + 1 : Int) < ((p16 c.v).1 : Int))
  ·refine ct s72 ((bor (bor (bor (decide_eq_true_iff) (decide_eq_true_iff)) (decide_eq_true_iff)) (decide_eq_true_iff)).2 hc3) ?_
   have hout := hc3; refine sq fun hK17 => ?_
   refine ro [yV (al (aW 5))] 1 118 z q ow (
     uc (rc1 zc cD) (fun hk => cj 5 _) rfl <|
     ah) fun fa fw bs hv ap z q ow => ?_
   obtain ⟨s2, s3, s4, s7, s8, s9⟩ := b6 bs s2 s3 s4 s7 s8 s9; have s73 := zh hv 0; refine ws ow 2 0 s2 s73 fun fw ow => ?_; refine wt hK17 ?_; refine wp_ret ?_; refine ao ?_; refine ao ?_; refine rs3 s2 (ow.box 2 rfl) q ?_; exact ⟨congrArg (fun v => Ending.returned (al v)) (A5 ea hpo hqo hout), ow.kept⟩
  refine cf s72 (bor (bor (bor (decide_eq_true_iff) (decide_eq_true_iff)) (decide_eq_true_iff)) (decide_eq_true_iff)) hc3 ?_; have hin := hc3; refine wp_skip ?_; refine tn hK15 ?_; refine sq fun hK18 => ?_
  refine ro [yV (.agg #[.int .i64 xa.c1, .int .i64 xa.r1, .int .i64 xa.c2, .int .i64 xa.r2, .slice A2 la.length c2]), yV (.pointer (some ⟨gb2, 0, none⟩)), yV (.pointer (some ⟨gb2, 0, none⟩)), yV _, yV _, yV _, yV _, yV (.pointer (some ⟨gb2, 0, none⟩)), yV (.pointer (some ⟨gb2, 1, none⟩)), yV _, yV _, yV _, yV _, yV (.agg #[.int .i64 (xa.c1 + (((p16 c.v).1) - 1)), .int .i64 (xa.r1 + (((p16 b.v).1) - 1))]), yV (al (vp la (xa.c1 + (((p16 c.v).1) - 1)) (xa.r1 + (((p16 b.v).1) - 1))))] 15 118 z q ow (
    ua (rln 5 ow 1 (zt s3)) rfl <|
    ua (rfa (zt s3)) rfl <|
    ua (rfa (zd 1)) rfl <|
    ua (rlb ow 1 (zd 2)) rfl <|
    um s9 rfl <|
    ua (rsb (zd 4) zc) rfl <|
    ua (rad (zd 3) (zd 5)) rfl <|
    ua (rfa (zt s3)) rfl <|
    ua (rfa (zd 7)) rfl <|
    ua (rlb ow 1 (zd 8)) rfl <|
    um s4 rfl <|
    ua (rsb (zd 10) zc) rfl <|
    ua (rad (zd 9) (zd 11)) rfl <|
    arm (fun aa ww hk bs hd => by
      have d6 : aa.eval (.tmp 80) = .int .i64 (xa.c1 + (((p16 c.v).1) - 1)) := fy hd 6 rfl; have d12 : aa.eval (.tmp 86) = .int .i64 (xa.r1 + (((p16 b.v).1) - 1)) := fy hd 12 rfl; exact bS (v := .agg #[.int .i64 (xa.c1 + (((p16 c.v).1) - 1)), .int .i64 (xa.r1 + (((p16 b.v).1) - 1))]) (ag rfl) (bP (us := #[(0, .int .i64 (xa.c1 + (((p16 c.v).1) - 1))), (1, .int .i64 (xa.r1 + (((p16 b.v).1) - 1)))]) rfl (by simp only [List.map_toArray, List.map_cons, List.map_nil, d6, d12]) (by kernel_rfl)) rfl rfl
      ) <|
    uc (rc2 (zd 0) (zd 13) pk) (fun hk => vF xa la _ _ (xa.c1 + (((p16 c.v).1) - 1)) (xa.r1 + (((p16 b.v).1) - 1)) _ (hR _ _ (q0.kept (ow.keep hk).kept) (ow.keep hk).tail.tail.tail) hla2) rfl <|
    ah) fun fa fw bs hv ap z q ow => ?_
  obtain ⟨s2, s3, s4, s7, s8⟩ := b5 bs s2 s3 s4 s7 s8; have s88 := zh hv 14; refine ws ow 2 0 s2 s88 fun fw ow => ?_; refine wt hK18 ?_; refine wp_ret ?_; refine ao ?_; refine rs3 s2 (ow.box 2 rfl) q ?_; exact ⟨congrArg (fun v => Ending.returned (al v)) (CE ea hpo hqo hin), ow.kept⟩
