/- Layer 16: the examples of the law's package: num, area, of, is, awake (printed by wip/mkawake16.py). -/
import Derived.Test.YtbkjdcpfkepheaaGreatDoorVMixBE
set_option maxHeartbeats 8000000
namespace Go.Proofs.YtbkjdcpfkepheaaGreatDoor
section
set_option linter.unusedVariables false
set_option linter.unusedSimpArgs false
open Go.RowKit Lv
set_option maxRecDepth 100000
def si (l : List Cl) : Obj := .cells (l.map clV).flatten.toArray 46 (0, 0)
theorem qF {w : World} {g : Nat} {l : List Cl} (h : w.heap[g]? = some (si l)) : CellsAt w (.slice (some ⟨g, 0, none⟩) l.length l.length) l :=
  ⟨_, _, rfl, RowK.box (t := 46) (cs := (l.map clV).flatten.toArray) h dW (List.take_of_length_le (Nat.le_of_eq (iY dW l))), Nat.le_refl _⟩
theorem fN {w : World} : ∀ p ∈ ([] : List (Ar × Value)), CellsAt w p.2 p.1.l := fun p h => by cases h
theorem nm {w : World} {k : Bool} {v : Vl} {x : Rc} {L : List (Ar × Value)} (t : ∀ p ∈ L, CellsAt w p.2 p.1.l) : ∀ p ∈ ((⟨k, v, x, []⟩ : Ar), Value.slice none 0 0) :: L, CellsAt w p.2 p.1.l := fun p hp => by
  rcases List.mem_cons.1 hp with rfl | hp
  · exact CellsAt.nil _
  · exact t p hp
theorem eB {w : World} {a : Ar} {s : Value} {L : List (Ar × Value)} (h : CellsAt w s a.l) (t : ∀ p ∈ L, CellsAt w p.2 p.1.l) : ∀ p ∈ (a, s) :: L, CellsAt w p.2 p.1.l := fun p hp => by
  rcases List.mem_cons.1 hp with rfl | hp
  · exact h
  · exact t p hp
theorem qG : En 11 := by intro args w; go_simp
theorem iA : En 25 := by intro args w; go_simp
theorem aJ : En 44 := by intro args w; go_simp
theorem ax : En 45 := by intro args w; go_simp
theorem az : En 20 := by intro args w; go_simp
theorem bv (n : Int) (w : World) :
    Calls Tryz.prog 20 #[.int .i64 n] w fun e w' => e = .returned (al (⟨1, n, []⟩ : Vl)) ∧ Kept w w' := by
  go_enter Tryz.func20, Tryz.ntmps20
  refine rgx [bJ w.heap.size (.cells #[.int .u8 0, .int .i64 0, .string ⟨[].toArray⟩] 25 (0, 0))] 1 5 rfl rfl (Own.start w) (
    uq4 <|
    ah) fun fa fw bs hv ap z q ov => ?_
  have s0 := bs.get 0 rfl rfl; obtain ⟨gb1, s2, bgb1, hgb1⟩ := zn hv 0; have ov := ov.hc (Own.start w) bgb1 hgb1; have ow := ov; refine sq fun hK2 => ?_
  refine ro [yV _, yV (al (⟨1, n, []⟩ : Vl))] 2 5 z q ow (
    um s0 rfl <|
    arm (fun aa ww hk bs hd => by
      have d0 : aa.eval (.tmp 3) = .int .i64 n := fy hd 0 rfl; exact bS (v := al (⟨1, n, []⟩ : Vl)) (ag rfl) (bP (us := #[(0, .int .u8 1), (1, .int .i64 n)]) rfl (by simp only [List.map_toArray, List.map_cons, List.map_nil, d0]; rfl) (by kernel_rfl)) rfl rfl
      ) <|
    ah) fun fa fw bs hv ap z q ow => ?_
  have s2 := bg bs s2; have s4 := zh hv 1; refine ws ow 0 0 s2 s4 fun fw ow => ?_; refine wt hK2 ?_; refine wp_ret ?_; refine rs3 s2 (ow.box 0 rfl) q ?_; exact ⟨rfl, ow.kept⟩
theorem qH (w : World) :
    Calls Tryz.prog 25 #[] w fun e w' => ∃ g, e = .returned (.agg #[.int .i64 1, .int .i64 1, .int .i64 2, .int .i64 2, .slice (some ⟨g, 0, none⟩) 3 3]) ∧ CellsAt w' (.slice (some ⟨g, 0, none⟩) 3 3) aI ∧ Kept w w' := by
  go_enter Tryz.func25, Tryz.ntmps25
  refine rgx [bJ w.heap.size (.cells #[.int .i64 0, .int .i64 0, .int .i64 0, .int .i64 0, .slice none 0 0] 37 (0, 0))] 1 13 rfl rfl (Own.start w) (
    uq4 <|
    ah) fun fa fw bs hv ap z q ov => ?_
  obtain ⟨gb1, s0, bgb1, hgb1⟩ := zn hv 0; have ov := ov.hc (Own.start w) bgb1 hgb1; have ow := ov; refine sq fun hK2 => ?_
  refine ro [yV (.agg #[.int .i64 1, .int .i64 1, .int .i64 2, .int .i64 2]), yV (.agg #[.int .i64 1, .int .i64 1]), yV (al (⟨1, 30000, []⟩ : Vl)), yV (.agg #[.int .i64 1, .int .i64 1, .int .u8 1, .int .i64 30000, .string ⟨[].toArray⟩]), yV (.agg #[.int .i64 2, .int .i64 1]), yV (al (⟨3, 0, [120]⟩ : Vl)), yV (.agg #[.int .i64 2, .int .i64 1, .int .u8 3, .int .i64 0, .string ⟨[120].toArray⟩]), yV (.agg #[.int .i64 2, .int .i64 2]), yV (al (⟨1, 15000, []⟩ : Vl)), yV (.agg #[.int .i64 2, .int .i64 2, .int .u8 1, .int .i64 15000, .string ⟨[].toArray⟩]), bT fw.heap.size 3 (si aI)] 11 13 z q ow (
    aS (fun hk bs hd => xb4 rfl rfl rfl rfl rfl (by kernel_rfl)) rfl <|
    aS (fun hk bs hd => xb2 rfl rfl rfl (by kernel_rfl)) rfl <|
    uc (rc1 zc az) (fun hk => bv 30000 _) rfl <|
    aS (fun hk bs hd => xb2 rfl (dp hd 1 rfl) (dp hd 2 rfl) (by kernel_rfl)) rfl <|
    aS (fun hk bs hd => xb2 rfl rfl rfl (by kernel_rfl)) rfl <|
    aS (fun hk bs hd => xb2 rfl rfl rfl (by kernel_rfl)) rfl <|
    aS (fun hk bs hd => xb2 rfl (dp hd 4 rfl) (dp hd 5 rfl) (by kernel_rfl)) rfl <|
    aS (fun hk bs hd => xb2 rfl rfl rfl (by kernel_rfl)) rfl <|
    uc (rc1 zc az) (fun hk => bv 15000 _) rfl <|
    aS (fun hk bs hd => xb2 rfl (dp hd 7 rfl) (dp hd 8 rfl) (by kernel_rfl)) rfl <|
    aL (fun hk bs hd => CH rfl (dp hd 3 rfl) (dp hd 6 rfl) (dp hd 9 rfl) (by kernel_rfl)) rfl <|
    ah) fun fa fw bs hv ap z q ov => ?_
  have s0 := bg bs s0; have s1 := zh hv 0; obtain ⟨gb2, s11, bgb2, hgb2⟩ := Ac hv 10 rfl rfl rfl; have ov := ov.hc ow bgb2 hgb2; have ow := ov; refine ae (v := .agg #[.int .i64 1, .int .i64 1, .int .i64 2, .int .i64 2, .slice (some ⟨gb2, 0, none⟩) 3 3]) (ag rfl) (xb2 rfl s1 s11 (by kernel_rfl)) ?_; refine cc ow 1 0 (ag rfl) rfl rfl (pb 12 s0 rfl) (af (t := 12) z rfl) (by kernel_rfl) rfl rfl rfl fun fw ow => ?_; refine gt1 (ab z) (ac q) ow 0 (pb 12 s0 rfl) fun fa fw z q ow s0 => ?_; refine wt hK2 ?_; refine wp_ret ?_; refine am rfl (bo (n := 5) _ s0 (by kernel_rfl) (by kernel_rfl) (ow.box 1 rfl) (Nat.le_of_ble_eq_true rfl) rfl) q ?_; exact ⟨gb2, rfl, qF (l := aI) (ow.get 0 rfl), ow.kept⟩
theorem bR (x : Vl) (fn : Nat) (A : Option Addr) (cap : Nat) (l : List Ar) (w : World) (mx : Int) (HM : Mx w mx) (hr : ArgsAt w A l) (hf : ji l) (hc : l.length ≤ cap) (hx : bd fn l = (x, 0)) :
    Calls Tryz.prog 45 #[al x, .int .u8 fn, .slice A l.length cap] w fun e w' => e = .returned (.bool true) ∧ Kept w w' := by
  go_enter Tryz.func45, Tryz.ntmps45
  refine rgx [bJ w.heap.size (.cells #[.int .u8 x.k, .int .i64 x.n, .string ⟨x.t.toArray⟩] 25 (0, 0)), yV _] 2 22 rfl rfl (Own.start w) (
    ux (t := 0) rfl <|
    uq1 rfl rfl rfl <|
    ah) fun fa fw bs hv ap z q ov => ?_
  have s1 := bs.get 1 rfl rfl; have s2 := bs.get 2 rfl rfl; obtain ⟨gb1, s3, bgb1, hgb1⟩ := zn hv 0; have ov := ov.hc (Own.start w) bgb1 hgb1; have s6 := zh hv 1; have ow := ov; refine sq fun hK2 => ?_
  refine ro [yV _, yV _, yV (.tuple #[al x, .int .i64 0]), yV _, yV (al x), yV _, bJ fw.heap.size (.cells #[.int .u8 0, .int .i64 0, .string ⟨[].toArray⟩] 25 (0, 0))] 7 22 z q ow (
    um s1 rfl <|
    um s2 rfl <|
    uc (rc2 (zd 0) (zd 1) qG) (fun hk => yW x 0 fn A cap l _ mx (HM.kept (ow.keep hk).kept) (hr.kept (ow.keep hk).kept) hf hc hx) rfl <|
    uq2 2 rfl rfl <|
    ua (rex (zd 3)) rfl <|
    ua (rex (zd 3)) rfl <|
    uq4 <|
    ah) fun fa fw bs hv ap z q ov => ?_
  obtain ⟨s3, s6⟩ := b2 bs s3 s6; have s13 := zh hv 4; have s14 := zh hv 5; obtain ⟨gb2, s7, bgb2, hgb2⟩ := zn hv 6; have ov := ov.hc ow bgb2 hgb2; have ow := ov; refine ws ow 0 0 s7 s13 fun fw ow => ?_; refine ae (v := .int .i64 0) (ag rfl) (aq rfl s14) ?_; refine gp3 z q ow s3 s6 s7 fun fa fw z q ow s3 s6 s7 s8 => ?_; refine wt hK2 ?_
  refine rgx [yV (al x), yV (al x), yV (.bool true), yV _, yV _, yV (.bool true), yV _, yV _] 8 22 z q ow (
    ua (rln 3 ow 0 (zt s7)) rfl <|
    ua (rln 3 ow 1 (zt s3)) rfl <|
    aE (fun hk bs hd => DH rfl (dp hd 0 rfl) (dp hd 1 rfl)) (congrArg Value.bool (gJ x)) rfl <|
    uq2 2 rfl rfl <|
    uw 3 (rmo (zt s8)) rfl <|
    xo (wg (j := 3) (b := true) rfl rfl rfl) (fun aa ww hk bs hd => C5 rfl (dp hd 4 rfl) rfl) (congrArg Value.bool rfl) rfl <|
    ua (rpt (zd 3) (zd 5)) rfl <|
    uq3 6 rfl rfl <|
    ah) fun fa fw bs hv ap z q ow => ?_
  have s6 := zh hv 7; refine wp_ret ?_; refine am rfl (ak s6) q ?_; exact ⟨rfl, ow.kept⟩
theorem dz (n m : Int) (hm : n * 10000 = m) (h0 : -9223372036854775808 ≤ n * 10000) (h1 : n * 10000 ≤ 9223372036854775807) (w : World) :
    Calls Tryz.prog 44 #[.int .i64 n] w fun e w' => e = .returned (.agg #[.bool false, .int .u8 1, .int .i64 m, .string ⟨#[]⟩, .int .i64 0, .int .i64 0, .int .i64 0, .int .i64 0, .slice none 0 0]) ∧ Kept w w' := by
  go_enter Tryz.func44, Tryz.ntmps44
  refine rgx [bJ w.heap.size (.cells #[.bool false, .int .u8 0, .int .i64 0, .string ⟨[].toArray⟩, .int .i64 0, .int .i64 0, .int .i64 0, .int .i64 0, .slice none 0 0] 39 (0, 0))] 1 7 rfl rfl (Own.start w) (
    uq4 <|
    ah) fun fa fw bs hv ap z q ov => ?_
  have s0 := bs.get 0 rfl rfl; obtain ⟨gb1, s2, bgb1, hgb1⟩ := zn hv 0; have ov := ov.hc (Own.start w) bgb1 hgb1; have ow := ov; refine sq fun hK2 => ?_
  refine ro [yV _, yV _, yV (al (⟨1, n * 10000, []⟩ : Vl)), yV (.agg #[.bool false, .int .u8 1, .int .i64 (n * 10000), .string ⟨[].toArray⟩, .int .i64 0, .int .i64 0, .int .i64 0, .int .i64 0, .slice none 0 0])] 4 7 z q ow (
    um s0 rfl <|
    aS (fun hk bs hd => B8 (Or.inr rfl) rfl (dp hd 0 rfl) rfl h0 h1) rfl <|
    uc (rc1 (zd 1) az) (fun hk => bv (n * 10000) _) rfl <|
    arm (fun aa ww hk bs hd => by
      have d2 : aa.eval (.tmp 5) = al (⟨1, n * 10000, []⟩ : Vl) := fy hd 2 rfl; exact bS (v := .agg #[.bool false, .int .u8 1, .int .i64 (n * 10000), .string ⟨[].toArray⟩, .int .i64 0, .int .i64 0, .int .i64 0, .int .i64 0, .slice none 0 0]) (ag rfl) (bP (us := #[(1, al (⟨1, n * 10000, []⟩ : Vl))]) rfl (by simp only [List.map_toArray, List.map_cons, List.map_nil, d2]) (by kernel_rfl)) rfl rfl
      ) <|
    ah) fun fa fw bs hv ap z q ow => ?_
  have s2 := bg bs s2; have s6 := zh hv 3; refine ws ow 0 0 s2 s6 fun fw ow => ?_; refine wt hK2 ?_; refine wp_ret ?_; refine am rfl (bo (n := 9) _ s2 (by kernel_rfl) (by kernel_rfl) (ow.box 0 rfl) (Nat.le_of_ble_eq_true rfl) rfl) q ?_; exact ⟨(by subst hm; rfl), ow.kept⟩
theorem qI (w : World) (mx : Int) (HM : Mx w mx) :
    Calls Tryz.prog 15 #[] w fun e w' => e = .returned (.bool true) ∧ Kept w w' := by
  go_enter Tryz.func15, Tryz.ntmps15; refine sq fun hK1 => ?_
  refine ro [yV _] 1 157 rfl rfl (Own.start w) (
    uq1 rfl rfl rfl <|
    ah) fun fa fw bs hv ap z q ow => ?_
  have s0 := zh hv 0; refine wt hK1 ?_; refine sq fun hK2 => ?_; refine wp_region_lit ?_; refine aO (ag rfl) (fd rfl (iA _ _)) ((qH _).mono ?_); rintro _ fw ⟨gx, rfl, hca, hk⟩; refine ⟨_, rfl, ?_⟩; rcases (rfl : (0 : Nat) = 0) with _
  obtain ⟨w1, rfl⟩ : ∃ z, z = fw := ⟨_, rfl⟩; have o0 := ow.keep hk; clear hk; have hm1 := HM.kept o0.kept; have ow := Own.start w1; refine ae (v := .agg #[.bool true, .int .u8 0, .int .i64 0, .string ⟨[].toArray⟩, .int .i64 1, .int .i64 1, .int .i64 2, .int .i64 2, .slice (some ⟨gx, 0, none⟩) 3 3]) (ag rfl) (xb2 rfl rfl (af (t := 8) z rfl) (by kernel_rfl)) ?_; refine eQ ow (ag rfl) (gg (b := .cells #[.bool false, .int .u8 0, .int .i64 0, .string ⟨[].toArray⟩, .int .i64 0, .int .i64 0, .int .i64 0, .int .i64 0, .slice none 0 0] 39 (0, 0)) rfl (by kernel_rfl)) fun gb1 fw ow => ?_; refine cc ow 0 0 (ag rfl) rfl rfl (af (t := 1) (ab (ab z)) rfl) (pb 1 (af (t := 9) (ab z) rfl) rfl) (by kernel_rfl) rfl rfl rfl fun fw ow => ?_; refine gt2 (ab (ab (ab z))) (ac (ac (ac q))) ow 0 (pb 1 (pb 9 (pb 8 s0 rfl) rfl) rfl) 1 (af (t := 1) (ab (ab z)) rfl) fun fa fw z q ow s0 s1 => ?_; refine wt hK2 ?_; refine sq fun hK3 => ?_
  refine ro [yV (al (⟨3, 0, [50]⟩ : Vl)), yV (.agg #[.bool false, .int .u8 3, .int .i64 0, .string ⟨[50].toArray⟩, .int .i64 0, .int .i64 0, .int .i64 0, .int .i64 0, .slice none 0 0]), yV (al (⟨2, 1, []⟩ : Vl)), yV (.agg #[.bool false, .int .u8 2, .int .i64 1, .string ⟨[].toArray⟩, .int .i64 0, .int .i64 0, .int .i64 0, .int .i64 0, .slice none 0 0]), yV (al (⟨1, 70000, []⟩ : Vl)), yV (.agg #[.bool false, .int .u8 1, .int .i64 70000, .string ⟨[].toArray⟩, .int .i64 0, .int .i64 0, .int .i64 0, .int .i64 0, .slice none 0 0]), bJ fw.heap.size (.cells #[.bool false, .int .u8 0, .int .i64 0, .string ⟨[].toArray⟩, .int .i64 0, .int .i64 0, .int .i64 0, .int .i64 0, .slice none 0 0] 39 (0, 0)), bJ fw.heap.size (.cells #[.bool false, .int .u8 0, .int .i64 0, .string ⟨[].toArray⟩, .int .i64 0, .int .i64 0, .int .i64 0, .int .i64 0, .slice none 0 0] 39 (0, 0)), bJ fw.heap.size (.cells #[.bool false, .int .u8 0, .int .i64 0, .string ⟨[].toArray⟩, .int .i64 0, .int .i64 0, .int .i64 0, .int .i64 0, .slice none 0 0] 39 (0, 0))] 9 157 z q ow (
    aS (fun hk bs hd => xb2 rfl rfl rfl (by kernel_rfl)) rfl <|
    aS (fun hk bs hd => xb1 rfl (dp hd 0 rfl) (by kernel_rfl)) rfl <|
    aS (fun hk bs hd => xb2 rfl rfl rfl (by kernel_rfl)) rfl <|
    aS (fun hk bs hd => xb1 rfl (dp hd 2 rfl) (by kernel_rfl)) rfl <|
    uc (rc1 zc az) (fun hk => bv 70000 _) rfl <|
    aS (fun hk bs hd => xb1 rfl (dp hd 4 rfl) (by kernel_rfl)) rfl <|
    uq4 <|
    uq4 <|
    uq4 <|
    ah) fun fa fw bs hv ap z q ov => ?_
  obtain ⟨s0, s1⟩ := b2 bs s0 s1; have s11 := zh hv 1; have s13 := zh hv 3; have s15 := zh hv 5; obtain ⟨gb2, s2, bgb2, hgb2⟩ := zn hv 6; have ov := ov.hc ow bgb2 hgb2; obtain ⟨gb3, s3, bgb3, hgb3⟩ := zn hv 7; have ov := ov.cons hgb3 (Nat.le_trans ow.kept.size bgb3) (bG (cr ap 6 7 rfl rfl rfl s2 rfl s3 rfl) (ow.below bgb3)); obtain ⟨gb4, s4, bgb4, hgb4⟩ := zn hv 8; have ov := ov.cons hgb4 (Nat.le_trans ow.kept.size bgb4) (bG (cr ap 7 8 rfl rfl rfl s3 rfl s4 rfl) (bG (cr ap 6 8 rfl rfl rfl s2 rfl s4 rfl) (ow.below bgb4))); have ow := ov; refine ws ow 2 0 s2 s11 fun fw ow => ?_; refine ws ow 1 0 s3 s13 fun fw ow => ?_; refine ws ow 0 0 s4 s15 fun fw ow => ?_; refine wt hK3 ?_; refine sq fun hK4 => ?_
  refine ro [yV (.agg #[.int .i64 1, .int .i64 1, .int .i64 1, .int .i64 1]), yV (.agg #[.int .i64 1, .int .i64 1, .int .i64 1, .int .i64 1, .slice none 0 0]), yV (.agg #[.bool true, .int .u8 0, .int .i64 0, .string ⟨[].toArray⟩, .int .i64 1, .int .i64 1, .int .i64 1, .int .i64 1, .slice none 0 0]), bJ fw.heap.size (.cells #[.bool false, .int .u8 0, .int .i64 0, .string ⟨[].toArray⟩, .int .i64 0, .int .i64 0, .int .i64 0, .int .i64 0, .slice none 0 0] 39 (0, 0))] 4 157 z q ow (
    aS (fun hk bs hd => xb4 rfl rfl rfl rfl rfl (by kernel_rfl)) rfl <|
    aS (fun hk bs hd => xb1 rfl (dp hd 0 rfl) (by kernel_rfl)) rfl <|
    aS (fun hk bs hd => xb2 rfl rfl (dp hd 1 rfl) (by kernel_rfl)) rfl <|
    uq4 <|
    ah) fun fa fw bs hv ap z q ov => ?_
  obtain ⟨s0, s1, s2, s3, s4⟩ := b5 bs s0 s1 s2 s3 s4; have s18 := zh hv 2; obtain ⟨gb5, s5, bgb5, hgb5⟩ := zn hv 3; have ov := ov.hc ow bgb5 hgb5; have ow := ov; refine ws ow 0 0 s5 s18 fun fw ow => ?_; refine wt hK4 ?_
  refine rgx [yV _] 1 157 z q ow (
    uq1 rfl rfl rfl <|
    ah) fun fa fw bs hv ap z q ow => ?_
  obtain ⟨s0, s1, s2, s3, s4, s5⟩ := b6 bs s0 s1 s2 s3 s4 s5; have s6 := zh hv 0; refine sq fun hK6 => ?_
  refine ro [yV (al (⟨3, 0, [88]⟩ : Vl)), yV (.agg #[.bool false, .int .u8 3, .int .i64 0, .string ⟨[88].toArray⟩, .int .i64 0, .int .i64 0, .int .i64 0, .int .i64 0, .slice none 0 0]), bJ fw.heap.size (.cells #[.bool false, .int .u8 0, .int .i64 0, .string ⟨[].toArray⟩, .int .i64 0, .int .i64 0, .int .i64 0, .int .i64 0, .slice none 0 0] 39 (0, 0))] 3 157 z q ow (
    aS (fun hk bs hd => xb2 rfl rfl rfl (by kernel_rfl)) rfl <|
    aS (fun hk bs hd => xb1 rfl (dp hd 0 rfl) (by kernel_rfl)) rfl <|
    uq4 <|
    ah) fun fa fw bs hv ap z q ov => ?_
  obtain ⟨s0, s1, s2, s3, s4, s5, s6⟩ := b7 bs s0 s1 s2 s3 s4 s5 s6; have s20 := zh hv 1; obtain ⟨gb6, s7, bgb6, hgb6⟩ := zn hv 2; have ov := ov.hc ow bgb6 hgb6; have ow := ov; refine ws ow 0 0 s7 s20 fun fw ow => ?_; refine wt hK6 ?_
  refine rgx [yV (al (⟨1, 75000, []⟩ : Vl)), yV (.agg #[.bool true, .int .u8 0, .int .i64 0, .string ⟨[].toArray⟩, .int .i64 1, .int .i64 1, .int .i64 2, .int .i64 2, .slice (some ⟨gx, 0, none⟩) 3 3]), yV (.agg #[.bool false, .int .u8 3, .int .i64 0, .string ⟨[50].toArray⟩, .int .i64 0, .int .i64 0, .int .i64 0, .int .i64 0, .slice none 0 0]), yV (.agg #[.bool false, .int .u8 2, .int .i64 1, .string ⟨[].toArray⟩, .int .i64 0, .int .i64 0, .int .i64 0, .int .i64 0, .slice none 0 0]), bT fw.heap.size 3 (cw [((⟨true, ⟨0, 0, []⟩, ⟨1, 1, 2, 2⟩, aI⟩ : Ar), .slice (some ⟨gx, 0, none⟩) 3 3), ((⟨false, ⟨3, 0, [50]⟩, ⟨0, 0, 0, 0⟩, []⟩ : Ar), .slice none 0 0), ((⟨false, ⟨2, 1, []⟩, ⟨0, 0, 0, 0⟩, []⟩ : Ar), .slice none 0 0)]), yV (.bool true), yV _, yV (al (⟨1, 30000, []⟩ : Vl)), yV (.agg #[.bool true, .int .u8 0, .int .i64 0, .string ⟨[].toArray⟩, .int .i64 1, .int .i64 1, .int .i64 2, .int .i64 2, .slice (some ⟨gx, 0, none⟩) 3 3]), yV (.agg #[.bool false, .int .u8 3, .int .i64 0, .string ⟨[50].toArray⟩, .int .i64 0, .int .i64 0, .int .i64 0, .int .i64 0, .slice none 0 0]), yV (.agg #[.bool false, .int .u8 1, .int .i64 70000, .string ⟨[].toArray⟩, .int .i64 0, .int .i64 0, .int .i64 0, .int .i64 0, .slice none 0 0]), bT fw.heap.size 3 (cw [((⟨true, ⟨0, 0, []⟩, ⟨1, 1, 2, 2⟩, aI⟩ : Ar), .slice (some ⟨gx, 0, none⟩) 3 3), ((⟨false, ⟨3, 0, [50]⟩, ⟨0, 0, 0, 0⟩, []⟩ : Ar), .slice none 0 0), ((⟨false, ⟨1, 70000, []⟩, ⟨0, 0, 0, 0⟩, []⟩ : Ar), .slice none 0 0)]), yV (.bool true), yV _, yV _, yV (al (⟨1, 30000, []⟩ : Vl)), yV (.agg #[.bool true, .int .u8 0, .int .i64 0, .string ⟨[].toArray⟩, .int .i64 1, .int .i64 1, .int .i64 2, .int .i64 2, .slice (some ⟨gx, 0, none⟩) 3 3]), bT fw.heap.size 1 (cw [((⟨true, ⟨0, 0, []⟩, ⟨1, 1, 2, 2⟩, aI⟩ : Ar), .slice (some ⟨gx, 0, none⟩) 3 3)]), yV (.bool true), yV _, yV _, yV (al (⟨1, 10000, []⟩ : Vl)), yV (.agg #[.bool true, .int .u8 0, .int .i64 0, .string ⟨[].toArray⟩, .int .i64 1, .int .i64 1, .int .i64 2, .int .i64 2, .slice (some ⟨gx, 0, none⟩) 3 3]), bT fw.heap.size 1 (cw [((⟨true, ⟨0, 0, []⟩, ⟨1, 1, 2, 2⟩, aI⟩ : Ar), .slice (some ⟨gx, 0, none⟩) 3 3)]), yV (.bool true), yV _, yV _, yV (al (⟨1, 22500, []⟩ : Vl)), yV (.agg #[.bool true, .int .u8 0, .int .i64 0, .string ⟨[].toArray⟩, .int .i64 1, .int .i64 1, .int .i64 2, .int .i64 2, .slice (some ⟨gx, 0, none⟩) 3 3]), bT fw.heap.size 1 (cw [((⟨true, ⟨0, 0, []⟩, ⟨1, 1, 2, 2⟩, aI⟩ : Ar), .slice (some ⟨gx, 0, none⟩) 3 3)]), yV (.bool true), yV _, yV _, yV (al (⟨1, 30000, []⟩ : Vl)), yV (.agg #[.bool true, .int .u8 0, .int .i64 0, .string ⟨[].toArray⟩, .int .i64 1, .int .i64 1, .int .i64 2, .int .i64 2, .slice (some ⟨gx, 0, none⟩) 3 3]), yV _, yV (.agg #[.bool false, .int .u8 1, .int .i64 90000, .string ⟨[].toArray⟩, .int .i64 0, .int .i64 0, .int .i64 0, .int .i64 0, .slice none 0 0]), bT fw.heap.size 2 (cw [((⟨true, ⟨0, 0, []⟩, ⟨1, 1, 2, 2⟩, aI⟩ : Ar), .slice (some ⟨gx, 0, none⟩) 3 3), ((⟨false, ⟨1, 90000, []⟩, ⟨0, 0, 0, 0⟩, []⟩ : Ar), .slice none 0 0)]), yV (.bool true), yV _, yV _, yV (al (⟨1, 15000, []⟩ : Vl)), yV (.agg #[.bool true, .int .u8 0, .int .i64 0, .string ⟨[].toArray⟩, .int .i64 1, .int .i64 1, .int .i64 2, .int .i64 2, .slice (some ⟨gx, 0, none⟩) 3 3]), yV _, yV (.agg #[.bool false, .int .u8 1, .int .i64 20000, .string ⟨[].toArray⟩, .int .i64 0, .int .i64 0, .int .i64 0, .int .i64 0, .slice none 0 0]), bT fw.heap.size 2 (cw [((⟨true, ⟨0, 0, []⟩, ⟨1, 1, 2, 2⟩, aI⟩ : Ar), .slice (some ⟨gx, 0, none⟩) 3 3), ((⟨false, ⟨1, 20000, []⟩, ⟨0, 0, 0, 0⟩, []⟩ : Ar), .slice none 0 0)]), yV (.bool true), yV _, yV _, yV (al (⟨4, 3, []⟩ : Vl)), yV (.agg #[.bool true, .int .u8 0, .int .i64 0, .string ⟨[].toArray⟩, .int .i64 1, .int .i64 1, .int .i64 2, .int .i64 2, .slice (some ⟨gx, 0, none⟩) 3 3]), yV _, yV (.agg #[.bool false, .int .u8 1, .int .i64 30000, .string ⟨[].toArray⟩, .int .i64 0, .int .i64 0, .int .i64 0, .int .i64 0, .slice none 0 0]), bT fw.heap.size 2 (cw [((⟨true, ⟨0, 0, []⟩, ⟨1, 1, 2, 2⟩, aI⟩ : Ar), .slice (some ⟨gx, 0, none⟩) 3 3), ((⟨false, ⟨1, 30000, []⟩, ⟨0, 0, 0, 0⟩, []⟩ : Ar), .slice none 0 0)]), yV (.bool true), yV _, yV _, yV (al (⟨1, 0, []⟩ : Vl)), yV (.agg #[.bool true, .int .u8 0, .int .i64 0, .string ⟨[].toArray⟩, .int .i64 1, .int .i64 1, .int .i64 1, .int .i64 1, .slice none 0 0]), bT fw.heap.size 1 (cw [((⟨true, ⟨0, 0, []⟩, ⟨1, 1, 1, 1⟩, []⟩ : Ar), .slice none 0 0)]), yV (.bool true), yV _, yV _, yV (al (⟨4, 1, []⟩ : Vl)), yV (.agg #[.bool true, .int .u8 0, .int .i64 0, .string ⟨[].toArray⟩, .int .i64 1, .int .i64 1, .int .i64 1, .int .i64 1, .slice none 0 0]), bT fw.heap.size 1 (cw [((⟨true, ⟨0, 0, []⟩, ⟨1, 1, 1, 1⟩, []⟩ : Ar), .slice none 0 0)]), yV (.bool true), yV _, yV _, yV (al (⟨4, 3, []⟩ : Vl)), yV (.agg #[.bool true, .int .u8 0, .int .i64 0, .string ⟨[].toArray⟩, .int .i64 1, .int .i64 1, .int .i64 1, .int .i64 1, .slice none 0 0]), bT fw.heap.size 1 (cw [((⟨true, ⟨0, 0, []⟩, ⟨1, 1, 1, 1⟩, []⟩ : Ar), .slice none 0 0)]), yV (.bool true), yV _, yV _, yV (al (⟨1, 0, []⟩ : Vl)), yV (.agg #[.bool true, .int .u8 0, .int .i64 0, .string ⟨[].toArray⟩, .int .i64 1, .int .i64 1, .int .i64 1, .int .i64 1, .slice none 0 0]), bT fw.heap.size 1 (cw [((⟨true, ⟨0, 0, []⟩, ⟨1, 1, 1, 1⟩, []⟩ : Ar), .slice none 0 0)]), yV (.bool true), yV _, yV _, yV (al (⟨3, 0, [120]⟩ : Vl)), yV (.agg #[.bool true, .int .u8 0, .int .i64 0, .string ⟨[].toArray⟩, .int .i64 1, .int .i64 1, .int .i64 2, .int .i64 2, .slice (some ⟨gx, 0, none⟩) 3 3]), yV _, yV (.agg #[.bool false, .int .u8 1, .int .i64 20000, .string ⟨[].toArray⟩, .int .i64 0, .int .i64 0, .int .i64 0, .int .i64 0, .slice none 0 0]), bT fw.heap.size 2 (cw [((⟨true, ⟨0, 0, []⟩, ⟨1, 1, 2, 2⟩, aI⟩ : Ar), .slice (some ⟨gx, 0, none⟩) 3 3), ((⟨false, ⟨1, 20000, []⟩, ⟨0, 0, 0, 0⟩, []⟩ : Ar), .slice none 0 0)]), yV (.bool true), yV _, yV _, yV (al (⟨0, 0, []⟩ : Vl)), yV (.agg #[.bool true, .int .u8 0, .int .i64 0, .string ⟨[].toArray⟩, .int .i64 1, .int .i64 1, .int .i64 2, .int .i64 2, .slice (some ⟨gx, 0, none⟩) 3 3]), yV _, yV (.agg #[.bool false, .int .u8 1, .int .i64 20000, .string ⟨[].toArray⟩, .int .i64 0, .int .i64 0, .int .i64 0, .int .i64 0, .slice none 0 0]), yV _, yV (.agg #[.bool false, .int .u8 1, .int .i64 10000, .string ⟨[].toArray⟩, .int .i64 0, .int .i64 0, .int .i64 0, .int .i64 0, .slice none 0 0]), bT fw.heap.size 3 (cw [((⟨true, ⟨0, 0, []⟩, ⟨1, 1, 2, 2⟩, aI⟩ : Ar), .slice (some ⟨gx, 0, none⟩) 3 3), ((⟨false, ⟨1, 20000, []⟩, ⟨0, 0, 0, 0⟩, []⟩ : Ar), .slice none 0 0), ((⟨false, ⟨1, 10000, []⟩, ⟨0, 0, 0, 0⟩, []⟩ : Ar), .slice none 0 0)]), yV (.bool true), yV _, yV _, yV (al (⟨4, 5, []⟩ : Vl)), yV (.agg #[.bool true, .int .u8 0, .int .i64 0, .string ⟨[].toArray⟩, .int .i64 1, .int .i64 1, .int .i64 2, .int .i64 2, .slice (some ⟨gx, 0, none⟩) 3 3]), yV _, yV (.agg #[.bool false, .int .u8 1, .int .i64 30000, .string ⟨[].toArray⟩, .int .i64 0, .int .i64 0, .int .i64 0, .int .i64 0, .slice none 0 0]), yV _, yV (.agg #[.bool false, .int .u8 1, .int .i64 10000, .string ⟨[].toArray⟩, .int .i64 0, .int .i64 0, .int .i64 0, .int .i64 0, .slice none 0 0]), bT fw.heap.size 3 (cw [((⟨true, ⟨0, 0, []⟩, ⟨1, 1, 2, 2⟩, aI⟩ : Ar), .slice (some ⟨gx, 0, none⟩) 3 3), ((⟨false, ⟨1, 30000, []⟩, ⟨0, 0, 0, 0⟩, []⟩ : Ar), .slice none 0 0), ((⟨false, ⟨1, 10000, []⟩, ⟨0, 0, 0, 0⟩, []⟩ : Ar), .slice none 0 0)]), yV (.bool true), yV _, yV _, yV (al (⟨1, 20000, []⟩ : Vl)), yV (.agg #[.bool false, .int .u8 3, .int .i64 0, .string ⟨[88].toArray⟩, .int .i64 0, .int .i64 0, .int .i64 0, .int .i64 0, .slice none 0 0]), yV (.agg #[.bool true, .int .u8 0, .int .i64 0, .string ⟨[].toArray⟩, .int .i64 1, .int .i64 1, .int .i64 2, .int .i64 2, .slice (some ⟨gx, 0, none⟩) 3 3]), bT fw.heap.size 2 (cw [((⟨false, ⟨3, 0, [88]⟩, ⟨0, 0, 0, 0⟩, []⟩ : Ar), .slice none 0 0), ((⟨true, ⟨0, 0, []⟩, ⟨1, 1, 2, 2⟩, aI⟩ : Ar), .slice (some ⟨gx, 0, none⟩) 3 3)]), yV (.bool true), yV _, yV _, yV (al (⟨1, 30000, []⟩ : Vl)), yV (.agg #[.bool false, .int .u8 0, .int .i64 0, .string ⟨[].toArray⟩, .int .i64 0, .int .i64 0, .int .i64 0, .int .i64 0, .slice none 0 0]), yV (.agg #[.bool true, .int .u8 0, .int .i64 0, .string ⟨[].toArray⟩, .int .i64 1, .int .i64 1, .int .i64 2, .int .i64 2, .slice (some ⟨gx, 0, none⟩) 3 3]), bT fw.heap.size 2 (cw [((⟨false, ⟨0, 0, []⟩, ⟨0, 0, 0, 0⟩, []⟩ : Ar), .slice none 0 0), ((⟨true, ⟨0, 0, []⟩, ⟨1, 1, 2, 2⟩, aI⟩ : Ar), .slice (some ⟨gx, 0, none⟩) 3 3)]), yV (.bool true), yV _, yV _, yV (al (⟨1, 10000, []⟩ : Vl)), yV (.agg #[.bool true, .int .u8 0, .int .i64 0, .string ⟨[].toArray⟩, .int .i64 1, .int .i64 1, .int .i64 2, .int .i64 2, .slice (some ⟨gx, 0, none⟩) 3 3]), yV _, yV (.agg #[.bool false, .int .u8 1, .int .i64 30000, .string ⟨[].toArray⟩, .int .i64 0, .int .i64 0, .int .i64 0, .int .i64 0, .slice none 0 0]), bT fw.heap.size 2 (cw [((⟨true, ⟨0, 0, []⟩, ⟨1, 1, 2, 2⟩, aI⟩ : Ar), .slice (some ⟨gx, 0, none⟩) 3 3), ((⟨false, ⟨1, 30000, []⟩, ⟨0, 0, 0, 0⟩, []⟩ : Ar), .slice none 0 0)]), yV (.bool true), yV _, yV _, yV (al (⟨1, 45000, []⟩ : Vl)), yV (.agg #[.bool true, .int .u8 0, .int .i64 0, .string ⟨[].toArray⟩, .int .i64 1, .int .i64 1, .int .i64 2, .int .i64 2, .slice (some ⟨gx, 0, none⟩) 3 3]), bT fw.heap.size 1 (cw [((⟨true, ⟨0, 0, []⟩, ⟨1, 1, 2, 2⟩, aI⟩ : Ar), .slice (some ⟨gx, 0, none⟩) 3 3)]), yV (.bool true), yV _, yV _] 137 157 z q ow (
    uc (rc1 zc az) (fun hk => bv 75000 _) rfl <|
    ua (rln 9 ow 5 (zt s1)) rfl <|
    ua (rln 9 ow 4 (zt s2)) rfl <|
    ua (rln 9 ow 3 (zt s3)) rfl <|
    aL (fun hk bs hd => CH rfl (dp hd 1 rfl) (dp hd 2 rfl) (dp hd 3 rfl) (by kernel_rfl)) rfl <|
    arm (fun aa ww hk bs hd => by
      have d0 := dp hd 0 rfl; have d4 := dL hd 4 rfl; obtain ⟨g4, e4, _, h4⟩ := d4; exact aB (ag rfl) (dv (u := al (⟨1, 75000, []⟩ : Vl)) (v := .int .u8 9) (s := .slice (some ⟨g4, 0, none⟩) 3 3) rfl (d0) rfl e4 (ax _ _)) ((bR (⟨1, 75000, []⟩ : Vl) 9 (some ⟨g4, 0, none⟩) 3 [(⟨true, ⟨0, 0, []⟩, ⟨1, 1, 2, 2⟩, aI⟩ : Ar), (⟨false, ⟨3, 0, [50]⟩, ⟨0, 0, 0, 0⟩, []⟩ : Ar), (⟨false, ⟨2, 1, []⟩, ⟨0, 0, 0, 0⟩, []⟩ : Ar)] ww mx (hm1.kept (ow.keep hk).kept) (bh (L := [((⟨true, ⟨0, 0, []⟩, ⟨1, 1, 2, 2⟩, aI⟩ : Ar), .slice (some ⟨gx, 0, none⟩) 3 3), ((⟨false, ⟨3, 0, [50]⟩, ⟨0, 0, 0, 0⟩, []⟩ : Ar), .slice none 0 0), ((⟨false, ⟨2, 1, []⟩, ⟨0, 0, 0, 0⟩, []⟩ : Ar), .slice none 0 0)]) h4 (eB (hca.kept (ow.keep hk).kept) (nm (nm fN)))) (cE (by kernel_rfl)) (Nat.le_of_ble_eq_true rfl) CL).mono fun _ _ ⟨he, hk2⟩ => ⟨_, he, rfl, hk2⟩) rfl
      ) <|
    uq2 5 rfl rfl <|
    ud 6 (rc1 zc az) (fun hk => bv 30000 _) rfl <|
    uw 6 (rln 9 ow 5 (zt s1)) rfl <|
    uw 6 (rln 9 ow 4 (zt s2)) rfl <|
    uw 6 (rln 9 ow 2 (zt s4)) rfl <|
    mJ (wg (j := 6) (b := true) rfl rfl rfl) (fun aa ww hk bs hd => CH rfl (dp hd 8 rfl) (dp hd 9 rfl) (dp hd 10 rfl) (by kernel_rfl)) rfl <|
    arm (fun aa ww hk bs hd => by
      have d6 := dp hd 6 rfl; have d7 := dp hd 7 rfl; have d11 := dL hd 11 rfl; obtain ⟨g11, e11, _, h11⟩ := d11; exact aB (db (j := 6) (b := true) rfl d6) (dv (u := al (⟨1, 30000, []⟩ : Vl)) (v := .int .u8 11) (s := .slice (some ⟨g11, 0, none⟩) 3 3) rfl (d7) rfl e11 (ax _ _)) ((bR (⟨1, 30000, []⟩ : Vl) 11 (some ⟨g11, 0, none⟩) 3 [(⟨true, ⟨0, 0, []⟩, ⟨1, 1, 2, 2⟩, aI⟩ : Ar), (⟨false, ⟨3, 0, [50]⟩, ⟨0, 0, 0, 0⟩, []⟩ : Ar), (⟨false, ⟨1, 70000, []⟩, ⟨0, 0, 0, 0⟩, []⟩ : Ar)] ww mx (hm1.kept (ow.keep hk).kept) (bh (L := [((⟨true, ⟨0, 0, []⟩, ⟨1, 1, 2, 2⟩, aI⟩ : Ar), .slice (some ⟨gx, 0, none⟩) 3 3), ((⟨false, ⟨3, 0, [50]⟩, ⟨0, 0, 0, 0⟩, []⟩ : Ar), .slice none 0 0), ((⟨false, ⟨1, 70000, []⟩, ⟨0, 0, 0, 0⟩, []⟩ : Ar), .slice none 0 0)]) h11 (eB (hca.kept (ow.keep hk).kept) (nm (nm fN)))) (cE (by kernel_rfl)) (Nat.le_of_ble_eq_true rfl) CN).mono fun _ _ ⟨he, hk2⟩ => ⟨_, he, rfl, hk2⟩) rfl
      ) <|
    ua (rpt (zd 6) (zd 12)) rfl <|
    uq2 13 rfl rfl <|
    ud 14 (rc1 zc az) (fun hk => bv 30000 _) rfl <|
    uw 14 (rln 9 ow 5 (zt s1)) rfl <|
    mJ (wg (j := 14) (b := true) rfl rfl rfl) (fun aa ww hk bs hd => zC rfl (dp hd 16 rfl) (by kernel_rfl)) rfl <|
    arm (fun aa ww hk bs hd => by
      have d14 := dp hd 14 rfl; have d15 := dp hd 15 rfl; have d17 := dL hd 17 rfl; obtain ⟨g17, e17, _, h17⟩ := d17; exact aB (db (j := 14) (b := true) rfl d14) (dv (u := al (⟨1, 30000, []⟩ : Vl)) (v := .int .u8 12) (s := .slice (some ⟨g17, 0, none⟩) 1 1) rfl (d15) rfl e17 (ax _ _)) ((bR (⟨1, 30000, []⟩ : Vl) 12 (some ⟨g17, 0, none⟩) 1 [(⟨true, ⟨0, 0, []⟩, ⟨1, 1, 2, 2⟩, aI⟩ : Ar)] ww mx (hm1.kept (ow.keep hk).kept) (bh (L := [((⟨true, ⟨0, 0, []⟩, ⟨1, 1, 2, 2⟩, aI⟩ : Ar), .slice (some ⟨gx, 0, none⟩) 3 3)]) h17 (eB (hca.kept (ow.keep hk).kept) fN)) (cE (by kernel_rfl)) (Nat.le_of_ble_eq_true rfl) CO).mono fun _ _ ⟨he, hk2⟩ => ⟨_, he, rfl, hk2⟩) rfl
      ) <|
    ua (rpt (zd 14) (zd 18)) rfl <|
    uq2 19 rfl rfl <|
    ud 20 (rc1 zc az) (fun hk => bv 10000 _) rfl <|
    uw 20 (rln 9 ow 5 (zt s1)) rfl <|
    mJ (wg (j := 20) (b := true) rfl rfl rfl) (fun aa ww hk bs hd => zC rfl (dp hd 22 rfl) (by kernel_rfl)) rfl <|
    arm (fun aa ww hk bs hd => by
      have d20 := dp hd 20 rfl; have d21 := dp hd 21 rfl; have d23 := dL hd 23 rfl; obtain ⟨g23, e23, _, h23⟩ := d23; exact aB (db (j := 20) (b := true) rfl d20) (dv (u := al (⟨1, 10000, []⟩ : Vl)) (v := .int .u8 13) (s := .slice (some ⟨g23, 0, none⟩) 1 1) rfl (d21) rfl e23 (ax _ _)) ((bR (⟨1, 10000, []⟩ : Vl) 13 (some ⟨g23, 0, none⟩) 1 [(⟨true, ⟨0, 0, []⟩, ⟨1, 1, 2, 2⟩, aI⟩ : Ar)] ww mx (hm1.kept (ow.keep hk).kept) (bh (L := [((⟨true, ⟨0, 0, []⟩, ⟨1, 1, 2, 2⟩, aI⟩ : Ar), .slice (some ⟨gx, 0, none⟩) 3 3)]) h23 (eB (hca.kept (ow.keep hk).kept) fN)) (cE (by kernel_rfl)) (Nat.le_of_ble_eq_true rfl) CP).mono fun _ _ ⟨he, hk2⟩ => ⟨_, he, rfl, hk2⟩) rfl
      ) <|
    ua (rpt (zd 20) (zd 24)) rfl <|
    uq2 25 rfl rfl <|
    ud 26 (rc1 zc az) (fun hk => bv 22500 _) rfl <|
    uw 26 (rln 9 ow 5 (zt s1)) rfl <|
    mJ (wg (j := 26) (b := true) rfl rfl rfl) (fun aa ww hk bs hd => zC rfl (dp hd 28 rfl) (by kernel_rfl)) rfl <|
    arm (fun aa ww hk bs hd => by
      have d26 := dp hd 26 rfl; have d27 := dp hd 27 rfl; have d29 := dL hd 29 rfl; obtain ⟨g29, e29, _, h29⟩ := d29; exact aB (db (j := 26) (b := true) rfl d26) (dv (u := al (⟨1, 22500, []⟩ : Vl)) (v := .int .u8 14) (s := .slice (some ⟨g29, 0, none⟩) 1 1) rfl (d27) rfl e29 (ax _ _)) ((bR (⟨1, 22500, []⟩ : Vl) 14 (some ⟨g29, 0, none⟩) 1 [(⟨true, ⟨0, 0, []⟩, ⟨1, 1, 2, 2⟩, aI⟩ : Ar)] ww mx (hm1.kept (ow.keep hk).kept) (bh (L := [((⟨true, ⟨0, 0, []⟩, ⟨1, 1, 2, 2⟩, aI⟩ : Ar), .slice (some ⟨gx, 0, none⟩) 3 3)]) h29 (eB (hca.kept (ow.keep hk).kept) fN)) (cE (by kernel_rfl)) (Nat.le_of_ble_eq_true rfl) CQ).mono fun _ _ ⟨he, hk2⟩ => ⟨_, he, rfl, hk2⟩) rfl
      ) <|
    ua (rpt (zd 26) (zd 30)) rfl <|
    uq2 31 rfl rfl <|
    ud 32 (rc1 zc az) (fun hk => bv 30000 _) rfl <|
    uw 32 (rln 9 ow 5 (zt s1)) rfl <|
    uw 32 (rmo (zt s6)) rfl <|
    tI (wg (j := 32) (b := true) rfl rfl rfl) (fun aa ww hk bs hd => eP (F := 44) (u := .int .i64 9) rfl (dp hd 35 rfl) rfl (aJ _ _)) (fun aa ww hk bs hd => dz 9 90000 rfl (by decide) (by decide) ww) rfl <|
    mJ (wg (j := 32) (b := true) rfl rfl rfl) (fun aa ww hk bs hd => Bf rfl (dp hd 34 rfl) (dp hd 36 rfl) (by kernel_rfl)) rfl <|
    arm (fun aa ww hk bs hd => by
      have d32 := dp hd 32 rfl; have d33 := dp hd 33 rfl; have d37 := dL hd 37 rfl; obtain ⟨g37, e37, _, h37⟩ := d37; exact aB (db (j := 32) (b := true) rfl d32) (dv (u := al (⟨1, 30000, []⟩ : Vl)) (v := .int .u8 17) (s := .slice (some ⟨g37, 0, none⟩) 2 2) rfl (d33) rfl e37 (ax _ _)) ((bR (⟨1, 30000, []⟩ : Vl) 17 (some ⟨g37, 0, none⟩) 2 [(⟨true, ⟨0, 0, []⟩, ⟨1, 1, 2, 2⟩, aI⟩ : Ar), (⟨false, ⟨1, 90000, []⟩, ⟨0, 0, 0, 0⟩, []⟩ : Ar)] ww mx (hm1.kept (ow.keep hk).kept) (bh (L := [((⟨true, ⟨0, 0, []⟩, ⟨1, 1, 2, 2⟩, aI⟩ : Ar), .slice (some ⟨gx, 0, none⟩) 3 3), ((⟨false, ⟨1, 90000, []⟩, ⟨0, 0, 0, 0⟩, []⟩ : Ar), .slice none 0 0)]) h37 (eB (hca.kept (ow.keep hk).kept) (nm fN))) (cE (by kernel_rfl)) (Nat.le_of_ble_eq_true rfl) CR).mono fun _ _ ⟨he, hk2⟩ => ⟨_, he, rfl, hk2⟩) rfl
      ) <|
    ua (rpt (zd 32) (zd 38)) rfl <|
    uq2 39 rfl rfl <|
    ud 40 (rc1 zc az) (fun hk => bv 15000 _) rfl <|
    uw 40 (rln 9 ow 5 (zt s1)) rfl <|
    uw 40 (rmo (zt s6)) rfl <|
    tI (wg (j := 40) (b := true) rfl rfl rfl) (fun aa ww hk bs hd => eP (F := 44) (u := .int .i64 2) rfl (dp hd 43 rfl) rfl (aJ _ _)) (fun aa ww hk bs hd => dz 2 20000 rfl (by decide) (by decide) ww) rfl <|
    mJ (wg (j := 40) (b := true) rfl rfl rfl) (fun aa ww hk bs hd => Bf rfl (dp hd 42 rfl) (dp hd 44 rfl) (by kernel_rfl)) rfl <|
    arm (fun aa ww hk bs hd => by
      have d40 := dp hd 40 rfl; have d41 := dp hd 41 rfl; have d45 := dL hd 45 rfl; obtain ⟨g45, e45, _, h45⟩ := d45; exact aB (db (j := 40) (b := true) rfl d40) (dv (u := al (⟨1, 15000, []⟩ : Vl)) (v := .int .u8 18) (s := .slice (some ⟨g45, 0, none⟩) 2 2) rfl (d41) rfl e45 (ax _ _)) ((bR (⟨1, 15000, []⟩ : Vl) 18 (some ⟨g45, 0, none⟩) 2 [(⟨true, ⟨0, 0, []⟩, ⟨1, 1, 2, 2⟩, aI⟩ : Ar), (⟨false, ⟨1, 20000, []⟩, ⟨0, 0, 0, 0⟩, []⟩ : Ar)] ww mx (hm1.kept (ow.keep hk).kept) (bh (L := [((⟨true, ⟨0, 0, []⟩, ⟨1, 1, 2, 2⟩, aI⟩ : Ar), .slice (some ⟨gx, 0, none⟩) 3 3), ((⟨false, ⟨1, 20000, []⟩, ⟨0, 0, 0, 0⟩, []⟩ : Ar), .slice none 0 0)]) h45 (eB (hca.kept (ow.keep hk).kept) (nm fN))) (cE (by kernel_rfl)) (Nat.le_of_ble_eq_true rfl) CS).mono fun _ _ ⟨he, hk2⟩ => ⟨_, he, rfl, hk2⟩) rfl
      ) <|
    ua (rpt (zd 40) (zd 46)) rfl <|
    uq2 47 rfl rfl <|
    rm (wg (j := 48) (b := true) rfl rfl rfl) (fun aa ww hk bs hd => xb2 rfl rfl rfl (by kernel_rfl)) rfl <|
    uw 48 (rln 9 ow 5 (zt s1)) rfl <|
    uw 48 (rmo (zt s6)) rfl <|
    tI (wg (j := 48) (b := true) rfl rfl rfl) (fun aa ww hk bs hd => eP (F := 44) (u := .int .i64 3) rfl (dp hd 51 rfl) rfl (aJ _ _)) (fun aa ww hk bs hd => dz 3 30000 rfl (by decide) (by decide) ww) rfl <|
    mJ (wg (j := 48) (b := true) rfl rfl rfl) (fun aa ww hk bs hd => Bf rfl (dp hd 50 rfl) (dp hd 52 rfl) (by kernel_rfl)) rfl <|
    arm (fun aa ww hk bs hd => by
      have d48 := dp hd 48 rfl; have d49 := dp hd 49 rfl; have d53 := dL hd 53 rfl; obtain ⟨g53, e53, _, h53⟩ := d53; exact aB (db (j := 48) (b := true) rfl d48) (dv (u := al (⟨4, 3, []⟩ : Vl)) (v := .int .u8 19) (s := .slice (some ⟨g53, 0, none⟩) 2 2) rfl (d49) rfl e53 (ax _ _)) ((bR (⟨4, 3, []⟩ : Vl) 19 (some ⟨g53, 0, none⟩) 2 [(⟨true, ⟨0, 0, []⟩, ⟨1, 1, 2, 2⟩, aI⟩ : Ar), (⟨false, ⟨1, 30000, []⟩, ⟨0, 0, 0, 0⟩, []⟩ : Ar)] ww mx (hm1.kept (ow.keep hk).kept) (bh (L := [((⟨true, ⟨0, 0, []⟩, ⟨1, 1, 2, 2⟩, aI⟩ : Ar), .slice (some ⟨gx, 0, none⟩) 3 3), ((⟨false, ⟨1, 30000, []⟩, ⟨0, 0, 0, 0⟩, []⟩ : Ar), .slice none 0 0)]) h53 (eB (hca.kept (ow.keep hk).kept) (nm fN))) (cE (by kernel_rfl)) (Nat.le_of_ble_eq_true rfl) CT).mono fun _ _ ⟨he, hk2⟩ => ⟨_, he, rfl, hk2⟩) rfl
      ) <|
    ua (rpt (zd 48) (zd 54)) rfl <|
    uq2 55 rfl rfl <|
    ud 56 (rc1 zc az) (fun hk => bv 0 _) rfl <|
    uw 56 (rln 9 ow 1 (zt s5)) rfl <|
    mJ (wg (j := 56) (b := true) rfl rfl rfl) (fun aa ww hk bs hd => zC rfl (dp hd 58 rfl) (by kernel_rfl)) rfl <|
    arm (fun aa ww hk bs hd => by
      have d56 := dp hd 56 rfl; have d57 := dp hd 57 rfl; have d59 := dL hd 59 rfl; obtain ⟨g59, e59, _, h59⟩ := d59; exact aB (db (j := 56) (b := true) rfl d56) (dv (u := al (⟨1, 0, []⟩ : Vl)) (v := .int .u8 15) (s := .slice (some ⟨g59, 0, none⟩) 1 1) rfl (d57) rfl e59 (ax _ _)) ((bR (⟨1, 0, []⟩ : Vl) 15 (some ⟨g59, 0, none⟩) 1 [(⟨true, ⟨0, 0, []⟩, ⟨1, 1, 1, 1⟩, []⟩ : Ar)] ww mx (hm1.kept (ow.keep hk).kept) (bh (L := [((⟨true, ⟨0, 0, []⟩, ⟨1, 1, 1, 1⟩, []⟩ : Ar), .slice none 0 0)]) h59 (nm fN)) (cE (by kernel_rfl)) (Nat.le_of_ble_eq_true rfl) CU).mono fun _ _ ⟨he, hk2⟩ => ⟨_, he, rfl, hk2⟩) rfl
      ) <|
    ua (rpt (zd 56) (zd 60)) rfl <|
    uq2 61 rfl rfl <|
    rm (wg (j := 62) (b := true) rfl rfl rfl) (fun aa ww hk bs hd => xb2 rfl rfl rfl (by kernel_rfl)) rfl <|
    uw 62 (rln 9 ow 1 (zt s5)) rfl <|
    mJ (wg (j := 62) (b := true) rfl rfl rfl) (fun aa ww hk bs hd => zC rfl (dp hd 64 rfl) (by kernel_rfl)) rfl <|
    arm (fun aa ww hk bs hd => by
      have d62 := dp hd 62 rfl; have d63 := dp hd 63 rfl; have d65 := dL hd 65 rfl; obtain ⟨g65, e65, _, h65⟩ := d65; exact aB (db (j := 62) (b := true) rfl d62) (dv (u := al (⟨4, 1, []⟩ : Vl)) (v := .int .u8 48) (s := .slice (some ⟨g65, 0, none⟩) 1 1) rfl (d63) rfl e65 (ax _ _)) ((bR (⟨4, 1, []⟩ : Vl) 48 (some ⟨g65, 0, none⟩) 1 [(⟨true, ⟨0, 0, []⟩, ⟨1, 1, 1, 1⟩, []⟩ : Ar)] ww mx (hm1.kept (ow.keep hk).kept) (bh (L := [((⟨true, ⟨0, 0, []⟩, ⟨1, 1, 1, 1⟩, []⟩ : Ar), .slice none 0 0)]) h65 (nm fN)) (cE (by kernel_rfl)) (Nat.le_of_ble_eq_true rfl) CW).mono fun _ _ ⟨he, hk2⟩ => ⟨_, he, rfl, hk2⟩) rfl
      ) <|
    ua (rpt (zd 62) (zd 66)) rfl <|
    uq2 67 rfl rfl <|
    rm (wg (j := 68) (b := true) rfl rfl rfl) (fun aa ww hk bs hd => xb2 rfl rfl rfl (by kernel_rfl)) rfl <|
    uw 68 (rln 9 ow 1 (zt s5)) rfl <|
    mJ (wg (j := 68) (b := true) rfl rfl rfl) (fun aa ww hk bs hd => zC rfl (dp hd 70 rfl) (by kernel_rfl)) rfl <|
    arm (fun aa ww hk bs hd => by
      have d68 := dp hd 68 rfl; have d69 := dp hd 69 rfl; have d71 := dL hd 71 rfl; obtain ⟨g71, e71, _, h71⟩ := d71; exact aB (db (j := 68) (b := true) rfl d68) (dv (u := al (⟨4, 3, []⟩ : Vl)) (v := .int .u8 17) (s := .slice (some ⟨g71, 0, none⟩) 1 1) rfl (d69) rfl e71 (ax _ _)) ((bR (⟨4, 3, []⟩ : Vl) 17 (some ⟨g71, 0, none⟩) 1 [(⟨true, ⟨0, 0, []⟩, ⟨1, 1, 1, 1⟩, []⟩ : Ar)] ww mx (hm1.kept (ow.keep hk).kept) (bh (L := [((⟨true, ⟨0, 0, []⟩, ⟨1, 1, 1, 1⟩, []⟩ : Ar), .slice none 0 0)]) h71 (nm fN)) (cE (by kernel_rfl)) (Nat.le_of_ble_eq_true rfl) Bi).mono fun _ _ ⟨he, hk2⟩ => ⟨_, he, rfl, hk2⟩) rfl
      ) <|
    ua (rpt (zd 68) (zd 72)) rfl <|
    uq2 73 rfl rfl <|
    ud 74 (rc1 zc az) (fun hk => bv 0 _) rfl <|
    uw 74 (rln 9 ow 1 (zt s5)) rfl <|
    mJ (wg (j := 74) (b := true) rfl rfl rfl) (fun aa ww hk bs hd => zC rfl (dp hd 76 rfl) (by kernel_rfl)) rfl <|
    arm (fun aa ww hk bs hd => by
      have d74 := dp hd 74 rfl; have d75 := dp hd 75 rfl; have d77 := dL hd 77 rfl; obtain ⟨g77, e77, _, h77⟩ := d77; exact aB (db (j := 74) (b := true) rfl d74) (dv (u := al (⟨1, 0, []⟩ : Vl)) (v := .int .u8 10) (s := .slice (some ⟨g77, 0, none⟩) 1 1) rfl (d75) rfl e77 (ax _ _)) ((bR (⟨1, 0, []⟩ : Vl) 10 (some ⟨g77, 0, none⟩) 1 [(⟨true, ⟨0, 0, []⟩, ⟨1, 1, 1, 1⟩, []⟩ : Ar)] ww mx (hm1.kept (ow.keep hk).kept) (bh (L := [((⟨true, ⟨0, 0, []⟩, ⟨1, 1, 1, 1⟩, []⟩ : Ar), .slice none 0 0)]) h77 (nm fN)) (cE (by kernel_rfl)) (Nat.le_of_ble_eq_true rfl) Bj).mono fun _ _ ⟨he, hk2⟩ => ⟨_, he, rfl, hk2⟩) rfl
      ) <|
    ua (rpt (zd 74) (zd 78)) rfl <|
    uq2 79 rfl rfl <|
    rm (wg (j := 80) (b := true) rfl rfl rfl) (fun aa ww hk bs hd => xb2 rfl rfl rfl (by kernel_rfl)) rfl <|
    uw 80 (rln 9 ow 5 (zt s1)) rfl <|
    uw 80 (rmo (zt s6)) rfl <|
    tI (wg (j := 80) (b := true) rfl rfl rfl) (fun aa ww hk bs hd => eP (F := 44) (u := .int .i64 2) rfl (dp hd 83 rfl) rfl (aJ _ _)) (fun aa ww hk bs hd => dz 2 20000 rfl (by decide) (by decide) ww) rfl <|
    mJ (wg (j := 80) (b := true) rfl rfl rfl) (fun aa ww hk bs hd => Bf rfl (dp hd 82 rfl) (dp hd 84 rfl) (by kernel_rfl)) rfl <|
    arm (fun aa ww hk bs hd => by
      have d80 := dp hd 80 rfl; have d81 := dp hd 81 rfl; have d85 := dL hd 85 rfl; obtain ⟨g85, e85, _, h85⟩ := d85; exact aB (db (j := 80) (b := true) rfl d80) (dv (u := al (⟨3, 0, [120]⟩ : Vl)) (v := .int .u8 43) (s := .slice (some ⟨g85, 0, none⟩) 2 2) rfl (d81) rfl e85 (ax _ _)) ((bR (⟨3, 0, [120]⟩ : Vl) 43 (some ⟨g85, 0, none⟩) 2 [(⟨true, ⟨0, 0, []⟩, ⟨1, 1, 2, 2⟩, aI⟩ : Ar), (⟨false, ⟨1, 20000, []⟩, ⟨0, 0, 0, 0⟩, []⟩ : Ar)] ww mx (hm1.kept (ow.keep hk).kept) (bh (L := [((⟨true, ⟨0, 0, []⟩, ⟨1, 1, 2, 2⟩, aI⟩ : Ar), .slice (some ⟨gx, 0, none⟩) 3 3), ((⟨false, ⟨1, 20000, []⟩, ⟨0, 0, 0, 0⟩, []⟩ : Ar), .slice none 0 0)]) h85 (eB (hca.kept (ow.keep hk).kept) (nm fN))) (cE (by kernel_rfl)) (Nat.le_of_ble_eq_true rfl) Bk).mono fun _ _ ⟨he, hk2⟩ => ⟨_, he, rfl, hk2⟩) rfl
      ) <|
    ua (rpt (zd 80) (zd 86)) rfl <|
    uq2 87 rfl rfl <|
    rm (wg (j := 88) (b := true) rfl rfl rfl) (fun aa ww hk bs hd => bP (us := #[]) rfl (by simp) (by kernel_rfl)) rfl <|
    uw 88 (rln 9 ow 5 (zt s1)) rfl <|
    uw 88 (rmo (zt s6)) rfl <|
    tI (wg (j := 88) (b := true) rfl rfl rfl) (fun aa ww hk bs hd => eP (F := 44) (u := .int .i64 2) rfl (dp hd 91 rfl) rfl (aJ _ _)) (fun aa ww hk bs hd => dz 2 20000 rfl (by decide) (by decide) ww) rfl <|
    uw 88 (rmo (zt s6)) rfl <|
    tI (wg (j := 88) (b := true) rfl rfl rfl) (fun aa ww hk bs hd => eP (F := 44) (u := .int .i64 1) rfl (dp hd 93 rfl) rfl (aJ _ _)) (fun aa ww hk bs hd => dz 1 10000 rfl (by decide) (by decide) ww) rfl <|
    mJ (wg (j := 88) (b := true) rfl rfl rfl) (fun aa ww hk bs hd => CH rfl (dp hd 90 rfl) (dp hd 92 rfl) (dp hd 94 rfl) (by kernel_rfl)) rfl <|
    arm (fun aa ww hk bs hd => by
      have d88 := dp hd 88 rfl; have d89 := dp hd 89 rfl; have d95 := dL hd 95 rfl; obtain ⟨g95, e95, _, h95⟩ := d95; exact aB (db (j := 88) (b := true) rfl d88) (dv (u := al (⟨0, 0, []⟩ : Vl)) (v := .int .u8 43) (s := .slice (some ⟨g95, 0, none⟩) 3 3) rfl (d89) rfl e95 (ax _ _)) ((bR (⟨0, 0, []⟩ : Vl) 43 (some ⟨g95, 0, none⟩) 3 [(⟨true, ⟨0, 0, []⟩, ⟨1, 1, 2, 2⟩, aI⟩ : Ar), (⟨false, ⟨1, 20000, []⟩, ⟨0, 0, 0, 0⟩, []⟩ : Ar), (⟨false, ⟨1, 10000, []⟩, ⟨0, 0, 0, 0⟩, []⟩ : Ar)] ww mx (hm1.kept (ow.keep hk).kept) (bh (L := [((⟨true, ⟨0, 0, []⟩, ⟨1, 1, 2, 2⟩, aI⟩ : Ar), .slice (some ⟨gx, 0, none⟩) 3 3), ((⟨false, ⟨1, 20000, []⟩, ⟨0, 0, 0, 0⟩, []⟩ : Ar), .slice none 0 0), ((⟨false, ⟨1, 10000, []⟩, ⟨0, 0, 0, 0⟩, []⟩ : Ar), .slice none 0 0)]) h95 (eB (hca.kept (ow.keep hk).kept) (nm (nm fN)))) (cE (by kernel_rfl)) (Nat.le_of_ble_eq_true rfl) Bl).mono fun _ _ ⟨he, hk2⟩ => ⟨_, he, rfl, hk2⟩) rfl
      ) <|
    ua (rpt (zd 88) (zd 96)) rfl <|
    uq2 97 rfl rfl <|
    rm (wg (j := 98) (b := true) rfl rfl rfl) (fun aa ww hk bs hd => xb2 rfl rfl rfl (by kernel_rfl)) rfl <|
    uw 98 (rln 9 ow 5 (zt s1)) rfl <|
    uw 98 (rmo (zt s6)) rfl <|
    tI (wg (j := 98) (b := true) rfl rfl rfl) (fun aa ww hk bs hd => eP (F := 44) (u := .int .i64 3) rfl (dp hd 101 rfl) rfl (aJ _ _)) (fun aa ww hk bs hd => dz 3 30000 rfl (by decide) (by decide) ww) rfl <|
    uw 98 (rmo (zt s6)) rfl <|
    tI (wg (j := 98) (b := true) rfl rfl rfl) (fun aa ww hk bs hd => eP (F := 44) (u := .int .i64 1) rfl (dp hd 103 rfl) rfl (aJ _ _)) (fun aa ww hk bs hd => dz 1 10000 rfl (by decide) (by decide) ww) rfl <|
    mJ (wg (j := 98) (b := true) rfl rfl rfl) (fun aa ww hk bs hd => CH rfl (dp hd 100 rfl) (dp hd 102 rfl) (dp hd 104 rfl) (by kernel_rfl)) rfl <|
    arm (fun aa ww hk bs hd => by
      have d98 := dp hd 98 rfl; have d99 := dp hd 99 rfl; have d105 := dL hd 105 rfl; obtain ⟨g105, e105, _, h105⟩ := d105; exact aB (db (j := 98) (b := true) rfl d98) (dv (u := al (⟨4, 5, []⟩ : Vl)) (v := .int .u8 43) (s := .slice (some ⟨g105, 0, none⟩) 3 3) rfl (d99) rfl e105 (ax _ _)) ((bR (⟨4, 5, []⟩ : Vl) 43 (some ⟨g105, 0, none⟩) 3 [(⟨true, ⟨0, 0, []⟩, ⟨1, 1, 2, 2⟩, aI⟩ : Ar), (⟨false, ⟨1, 30000, []⟩, ⟨0, 0, 0, 0⟩, []⟩ : Ar), (⟨false, ⟨1, 10000, []⟩, ⟨0, 0, 0, 0⟩, []⟩ : Ar)] ww mx (hm1.kept (ow.keep hk).kept) (bh (L := [((⟨true, ⟨0, 0, []⟩, ⟨1, 1, 2, 2⟩, aI⟩ : Ar), .slice (some ⟨gx, 0, none⟩) 3 3), ((⟨false, ⟨1, 30000, []⟩, ⟨0, 0, 0, 0⟩, []⟩ : Ar), .slice none 0 0), ((⟨false, ⟨1, 10000, []⟩, ⟨0, 0, 0, 0⟩, []⟩ : Ar), .slice none 0 0)]) h105 (eB (hca.kept (ow.keep hk).kept) (nm (nm fN)))) (cE (by kernel_rfl)) (Nat.le_of_ble_eq_true rfl) Bm).mono fun _ _ ⟨he, hk2⟩ => ⟨_, he, rfl, hk2⟩) rfl
      ) <|
    ua (rpt (zd 98) (zd 106)) rfl <|
    uq2 107 rfl rfl <|
    ud 108 (rc1 zc az) (fun hk => bv 20000 _) rfl <|
    uw 108 (rln 9 ow 0 (zt s7)) rfl <|
    uw 108 (rln 9 ow 5 (zt s1)) rfl <|
    mJ (wg (j := 108) (b := true) rfl rfl rfl) (fun aa ww hk bs hd => Bf rfl (dp hd 110 rfl) (dp hd 111 rfl) (by kernel_rfl)) rfl <|
    arm (fun aa ww hk bs hd => by
      have d108 := dp hd 108 rfl; have d109 := dp hd 109 rfl; have d112 := dL hd 112 rfl; obtain ⟨g112, e112, _, h112⟩ := d112; exact aB (db (j := 108) (b := true) rfl d108) (dv (u := al (⟨1, 20000, []⟩ : Vl)) (v := .int .u8 44) (s := .slice (some ⟨g112, 0, none⟩) 2 2) rfl (d109) rfl e112 (ax _ _)) ((bR (⟨1, 20000, []⟩ : Vl) 44 (some ⟨g112, 0, none⟩) 2 [(⟨false, ⟨3, 0, [88]⟩, ⟨0, 0, 0, 0⟩, []⟩ : Ar), (⟨true, ⟨0, 0, []⟩, ⟨1, 1, 2, 2⟩, aI⟩ : Ar)] ww mx (hm1.kept (ow.keep hk).kept) (bh (L := [((⟨false, ⟨3, 0, [88]⟩, ⟨0, 0, 0, 0⟩, []⟩ : Ar), .slice none 0 0), ((⟨true, ⟨0, 0, []⟩, ⟨1, 1, 2, 2⟩, aI⟩ : Ar), .slice (some ⟨gx, 0, none⟩) 3 3)]) h112 (nm (eB (hca.kept (ow.keep hk).kept) fN))) (cE (by kernel_rfl)) (Nat.le_of_ble_eq_true rfl) Bn).mono fun _ _ ⟨he, hk2⟩ => ⟨_, he, rfl, hk2⟩) rfl
      ) <|
    ua (rpt (zd 108) (zd 113)) rfl <|
    uq2 114 rfl rfl <|
    ud 115 (rc1 zc az) (fun hk => bv 30000 _) rfl <|
    rm (wg (j := 115) (b := true) rfl rfl rfl) (fun aa ww hk bs hd => bP (us := #[]) rfl (by simp) (by kernel_rfl)) rfl <|
    uw 115 (rln 9 ow 5 (zt s1)) rfl <|
    mJ (wg (j := 115) (b := true) rfl rfl rfl) (fun aa ww hk bs hd => Bf rfl (dp hd 117 rfl) (dp hd 118 rfl) (by kernel_rfl)) rfl <|
    arm (fun aa ww hk bs hd => by
      have d115 := dp hd 115 rfl; have d116 := dp hd 116 rfl; have d119 := dL hd 119 rfl; obtain ⟨g119, e119, _, h119⟩ := d119; exact aB (db (j := 115) (b := true) rfl d115) (dv (u := al (⟨1, 30000, []⟩ : Vl)) (v := .int .u8 44) (s := .slice (some ⟨g119, 0, none⟩) 2 2) rfl (d116) rfl e119 (ax _ _)) ((bR (⟨1, 30000, []⟩ : Vl) 44 (some ⟨g119, 0, none⟩) 2 [(⟨false, ⟨0, 0, []⟩, ⟨0, 0, 0, 0⟩, []⟩ : Ar), (⟨true, ⟨0, 0, []⟩, ⟨1, 1, 2, 2⟩, aI⟩ : Ar)] ww mx (hm1.kept (ow.keep hk).kept) (bh (L := [((⟨false, ⟨0, 0, []⟩, ⟨0, 0, 0, 0⟩, []⟩ : Ar), .slice none 0 0), ((⟨true, ⟨0, 0, []⟩, ⟨1, 1, 2, 2⟩, aI⟩ : Ar), .slice (some ⟨gx, 0, none⟩) 3 3)]) h119 (nm (eB (hca.kept (ow.keep hk).kept) fN))) (cE (by kernel_rfl)) (Nat.le_of_ble_eq_true rfl) Bo).mono fun _ _ ⟨he, hk2⟩ => ⟨_, he, rfl, hk2⟩) rfl
      ) <|
    ua (rpt (zd 115) (zd 120)) rfl <|
    uq2 121 rfl rfl <|
    ud 122 (rc1 zc az) (fun hk => bv 10000 _) rfl <|
    uw 122 (rln 9 ow 5 (zt s1)) rfl <|
    uw 122 (rmo (zt s6)) rfl <|
    tI (wg (j := 122) (b := true) rfl rfl rfl) (fun aa ww hk bs hd => eP (F := 44) (u := .int .i64 3) rfl (dp hd 125 rfl) rfl (aJ _ _)) (fun aa ww hk bs hd => dz 3 30000 rfl (by decide) (by decide) ww) rfl <|
    mJ (wg (j := 122) (b := true) rfl rfl rfl) (fun aa ww hk bs hd => Bf rfl (dp hd 124 rfl) (dp hd 126 rfl) (by kernel_rfl)) rfl <|
    arm (fun aa ww hk bs hd => by
      have d122 := dp hd 122 rfl; have d123 := dp hd 123 rfl; have d127 := dL hd 127 rfl; obtain ⟨g127, e127, _, h127⟩ := d127; exact aB (db (j := 122) (b := true) rfl d122) (dv (u := al (⟨1, 10000, []⟩ : Vl)) (v := .int .u8 45) (s := .slice (some ⟨g127, 0, none⟩) 2 2) rfl (d123) rfl e127 (ax _ _)) ((bR (⟨1, 10000, []⟩ : Vl) 45 (some ⟨g127, 0, none⟩) 2 [(⟨true, ⟨0, 0, []⟩, ⟨1, 1, 2, 2⟩, aI⟩ : Ar), (⟨false, ⟨1, 30000, []⟩, ⟨0, 0, 0, 0⟩, []⟩ : Ar)] ww mx (hm1.kept (ow.keep hk).kept) (bh (L := [((⟨true, ⟨0, 0, []⟩, ⟨1, 1, 2, 2⟩, aI⟩ : Ar), .slice (some ⟨gx, 0, none⟩) 3 3), ((⟨false, ⟨1, 30000, []⟩, ⟨0, 0, 0, 0⟩, []⟩ : Ar), .slice none 0 0)]) h127 (eB (hca.kept (ow.keep hk).kept) (nm fN))) (cE (by kernel_rfl)) (Nat.le_of_ble_eq_true rfl) Bp).mono fun _ _ ⟨he, hk2⟩ => ⟨_, he, rfl, hk2⟩) rfl
      ) <|
    ua (rpt (zd 122) (zd 128)) rfl <|
    uq2 129 rfl rfl <|
    ud 130 (rc1 zc az) (fun hk => bv 45000 _) rfl <|
    uw 130 (rln 9 ow 5 (zt s1)) rfl <|
    mJ (wg (j := 130) (b := true) rfl rfl rfl) (fun aa ww hk bs hd => zC rfl (dp hd 132 rfl) (by kernel_rfl)) rfl <|
    arm (fun aa ww hk bs hd => by
      have d130 := dp hd 130 rfl; have d131 := dp hd 131 rfl; have d133 := dL hd 133 rfl; obtain ⟨g133, e133, _, h133⟩ := d133; exact aB (db (j := 130) (b := true) rfl d130) (dv (u := al (⟨1, 45000, []⟩ : Vl)) (v := .int .u8 46) (s := .slice (some ⟨g133, 0, none⟩) 1 1) rfl (d131) rfl e133 (ax _ _)) ((bR (⟨1, 45000, []⟩ : Vl) 46 (some ⟨g133, 0, none⟩) 1 [(⟨true, ⟨0, 0, []⟩, ⟨1, 1, 2, 2⟩, aI⟩ : Ar)] ww mx (hm1.kept (ow.keep hk).kept) (bh (L := [((⟨true, ⟨0, 0, []⟩, ⟨1, 1, 2, 2⟩, aI⟩ : Ar), .slice (some ⟨gx, 0, none⟩) 3 3)]) h133 (eB (hca.kept (ow.keep hk).kept) fN)) (cE (by kernel_rfl)) (Nat.le_of_ble_eq_true rfl) Bq).mono fun _ _ ⟨he, hk2⟩ => ⟨_, he, rfl, hk2⟩) rfl
      ) <|
    ua (rpt (zd 130) (zd 134)) rfl <|
    uq3 135 rfl rfl <|
    ah) fun fa fw bs hv ap z q ow => ?_
  have s0 := zh hv 136; refine wp_ret ?_; refine am rfl (ak s0) q ?_; exact ⟨rfl, o0.kept.trans ow.kept⟩
