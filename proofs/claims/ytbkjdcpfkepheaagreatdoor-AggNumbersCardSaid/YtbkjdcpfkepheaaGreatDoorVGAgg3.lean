/- Layer 16: an argument as an area; is it valid? (printed by wip/mkagg3.py) -/
import Derived.Test.YtbkjdcpfkepheaaGreatDoorVGAgg2
set_option maxHeartbeats 4000000
namespace Go.Proofs.YtbkjdcpfkepheaaGreatDoor
section
set_option linter.unusedVariables false
set_option linter.unusedSimpArgs false
open Go.RowKit Lv
set_option maxRecDepth 100000
theorem Own.only {w0 w : World} {H : List Th} (h : Own w0 H w) (k : Nat) {t : Th} (e : H[k]? = some t) : Own w0 [t] w := by
  have hm := List.mem_of_getElem? e; exact ⟨h.kept, fun s hs => by rw [List.mem_singleton.1 hs]; exact h.has t hm, fun s hs => by rw [List.mem_singleton.1 hs]; exact h.old t hm, List.pairwise_singleton _ _⟩
theorem Own.both {w0 w w' : World} {H T : List Th} (h : Own w0 H w) (t : Own w T w') : Own w0 (H ++ T) w' := by
  have h' := h.keep t.kept; refine ⟨h'.kept, fun s hs => (List.mem_append.1 hs).elim (h'.has s) (t.has s), fun s hs => (List.mem_append.1 hs).elim (h'.old s) (fun c g e => Nat.le_trans h.kept.size (t.old s c g e)), List.pairwise_append.2 ⟨h'.apart, t.apart, fun s hs u hu g e c => ?_⟩⟩; have h1 := s.ins w (h.has s hs) g e; have h2 := t.old u hu g c
  omega
def gq (a : Ar) (A0 : Option Addr) (w : World) (e : Ending) (w' : World) : Prop := ∃ T A1 c1, e = .returned (.agg #[.int .i64 (av a).1.c1, .int .i64 (av a).1.r1, .int .i64 (av a).1.c2, .int .i64 (av a).1.r2, .slice A1 (av a).2.length c1]) ∧ Own w T w' ∧ (av a).2.length ≤ c1 ∧ ∀ base z, RowK 5 clV z A0 a.l → Own base T z → RowK 5 clV z A1 (av a).2
theorem vG {a : Ar} {A1 : Option Addr} {c1 : Nat} {w w' : World} {H : List Th} {e : Ending} (o : Own w H w') (he : e = .returned (.agg #[.int .i64 a.x.c1, .int .i64 a.x.r1, .int .i64 a.x.c2, .int .i64 a.x.r2, .slice A1 a.l.length c1])) (h : a.w = true) (hc : a.l.length ≤ c1) : gq a A1 w e w' := by
  have e16 : av a = (a.x, a.l) := by unfold av; rw [if_pos h]
  unfold gq; rw [e16]; exact ⟨[], A1, c1, he, o.drop, hc, fun _ _ r _ => r⟩
theorem vH {a : Ar} {A1 : Option Addr} {w w' : World} {H : List Th} {e : Ending} (o : Own w H w') (he : e = .returned (.agg #[.int .i64 1, .int .i64 1, .int .i64 1, .int .i64 1, .slice none 0 0])) (h : a.w = false) (hk : ¬ ((a.v.k : Int) ≠ (0 : Int))) : gq a A1 w e w' := by
  have e16 : av a = (⟨1, 1, 1, 1⟩, []) := by unfold av; rw [if_neg (by rw [h]; decide), if_pos (by omega)]
  unfold gq; rw [e16]; exact ⟨[], none, 0, he, o.drop, Nat.le_refl _, fun _ _ _ _ => RowK.nil⟩
theorem yd {a : Ar} {A1 : Option Addr} {g : Nat} {w w' : World} {H : List Th} {e : Ending} (o : Own w H w') (he : e = .returned (.agg #[.int .i64 1, .int .i64 1, .int .i64 1, .int .i64 1, .slice (some ⟨g, 0, none⟩) 1 1])) (h : a.w = false) (hk : (a.v.k : Int) ≠ (0 : Int)) (t : Own w [Th.obj g (.cells #[.int .i64 1, .int .i64 1, .int .u8 a.v.k, .int .i64 a.v.n, .string ⟨a.v.t.toArray⟩] 46 (0, 0))] w') : gq a A1 w e w' := by
  have e16 : av a = (⟨1, 1, 1, 1⟩, [⟨1, 1, a.v⟩]) := by unfold av; rw [if_neg (by rw [h]; decide), if_neg (by omega)]
  unfold gq; rw [e16]; exact ⟨_, _, 1, he, t, Nat.le_refl _, fun _ _ _ q => RowK.box (q.box 0 rfl) dW rfl⟩
theorem rz {v : Vl} (h : (cx v : Int) ≠ (0 : Int)) : vOk v = false := by
  unfold cx at h
  cases e : vOk v with
  | false => rfl
  | true => rw [e] at h; exact absurd rfl h
theorem rA {v : Vl} (h : ¬ ((cx v : Int) ≠ (0 : Int))) : vOk v = true := by
  unfold cx at h
  cases e : vOk v with
  | true => rfl
  | false => rw [e] at h; exact absurd (by decide) h
theorem ye {v : Vl} : decide ((cx v : Int) = (0 : Int)) = vOk v := by
  unfold cx
  cases vOk v <;> rfl
theorem oE {a : Ar} (h : a.w = false) : ((decide ((cx a.v : Int) = (0 : Int)) && decide (a.x = (⟨0, 0, 0, 0⟩ : Rc))) && decide (((a.l.length : Nat) : Int) = (0 : Int))) = br a := by
  unfold br; rw [if_neg (by rw [h]; decide), ye, show decide (((a.l.length : Nat) : Int) = (0 : Int)) = decide (a.l.length = 0) from decide_eq_decide.2 (by omega)]
  rfl
theorem oG {v : Vl} : gj v (⟨0, 0, []⟩ : Vl) = true ↔ (v.k = 0 ∧ v.n = 0 ∧ v.t = []) := by
  unfold gj
  simp [and_assoc]
theorem rB {a : Ar} (h : a.w = true) (b : (¬ (gj a.v (⟨0, 0, []⟩ : Vl) = true)) ∨ ((fX a.x : Int) ≠ (0 : Int))) : br a = false := by
  unfold br; rw [if_pos h]; rcases b with b | b
  · rw [oG] at b
    rw [decide_eq_false b]; rfl
  · rw [rv b, Bool.and_false, Bool.false_and]
theorem rC {a : Ar} (b : ¬ ((¬ (gj a.v (⟨0, 0, []⟩ : Vl) = true)) ∨ ((fX a.x : Int) ≠ (0 : Int)))) : (a.v.k = 0 ∧ a.v.n = 0 ∧ a.v.t = []) ∧ okR a.x = true := by
  rw [not_or, Classical.not_not, oG] at b; exact ⟨b.1, mN b.2⟩
theorem gL {a : Ar} {b : Bool} (h : a.w = true) (o : (a.v.k = 0 ∧ a.v.n = 0 ∧ a.v.t = []) ∧ okR a.x = true) (e : cQ a.x (-1) a.l = b) : br a = b := by
  unfold br; rw [if_pos h, decide_eq_true o.1, o.2, e]; rfl
theorem zu {h b c : Bool} (e : ((!h || b) || c) = false) : h = true := by revert e; cases h <;> cases b <;> cases c <;> decide
theorem yf {x : Rc} {n : Int} {c : Cl} (h : ¬ ((((¬ (gU x c.c c.r = true)) ∨ ((c.v.k : Int) = (0 : Int))) ∨ ((cx c.v : Int) ≠ (0 : Int))) ∨ ((cJ x c.c c.r : Int) ≤ (n : Int)))) : gU x c.c c.r = true := by
  simp only [not_or, Classical.not_not] at h
  exact h.1.1.1
theorem vI {x : Rc} {n : Int} {l : List Cl} {k : Nat} {c : Cl} (e : l[k]? = some c) (h : (((¬ (gU x c.c c.r = true)) ∨ ((c.v.k : Int) = (0 : Int))) ∨ ((cx c.v : Int) ≠ (0 : Int))) ∨ ((cJ x c.c c.r : Int) ≤ (n : Int))) : cQ x n (l.drop k) = false := by
  rw [dJ e, cQ]
  have : kI x n c = false := by
    unfold kI; rcases h with ((h | h) | h) | h
    · rw [Bool.eq_false_iff.2 h]; rfl
    · rw [decide_eq_false (p := c.v.k ≠ 0) (by omega), Bool.and_false]; rfl
    · rw [rz h, Bool.and_false]; rfl
    · rw [decide_eq_false (p := n < cJ x c.c c.r) (by omega), Bool.and_false]
  rw [this]; rfl
theorem yg {x : Rc} {n : Int} {l : List Cl} {k : Nat} {c : Cl} (e : l[k]? = some c) (h : ¬ ((((¬ (gU x c.c c.r = true)) ∨ ((c.v.k : Int) = (0 : Int))) ∨ ((cx c.v : Int) ≠ (0 : Int))) ∨ ((cJ x c.c c.r : Int) ≤ (n : Int)))) : cQ x n (l.drop k) = cQ x (cJ x c.c c.r) (l.drop (k + 1)) := by
  rw [dJ e, cQ]
  simp only [not_or] at h
  have : kI x n c = true := by
    unfold kI; rw [Classical.not_not.1 h.1.1.1, decide_eq_true (p := c.v.k ≠ 0) (by have := h.1.1.2; omega), rA h.1.2, decide_eq_true (p := n < cJ x c.c c.r) (by have := h.2; omega)]; rfl
  rw [this, Bool.true_and]
theorem sV {x : Rc} {n : Int} {l : List Cl} {k : Nat} (h : l.length ≤ k) : cQ x n (l.drop k) = true := by
  rw [List.drop_eq_nil_of_le h]; rfl
theorem ql : En 61 := by intro args w; go_simp
theorem jJ : En 27 := by intro args w; go_simp
theorem oH (a : Ar) (A1 : Option Addr) (c1 : Nat) (w : World) (hc : a.l.length ≤ c1) :
    Calls Tryz.prog 66 #[.agg #[.bool a.w, .int .u8 a.v.k, .int .i64 a.v.n, .string ⟨a.v.t.toArray⟩, .int .i64 a.x.c1, .int .i64 a.x.r1, .int .i64 a.x.c2, .int .i64 a.x.r2, .slice A1 a.l.length c1]] w fun e w' => gq a A1 w e w' := by
  go_enter Tryz.func66, Tryz.ntmps66
  refine rgx [bJ w.heap.size (.cells #[.bool a.w, .int .u8 a.v.k, .int .i64 a.v.n, .string ⟨a.v.t.toArray⟩, .int .i64 a.x.c1, .int .i64 a.x.r1, .int .i64 a.x.c2, .int .i64 a.x.r2, .slice A1 a.l.length c1] 39 (0, 0)), bJ w.heap.size (.cells #[.int .i64 0, .int .i64 0, .int .i64 0, .int .i64 0, .slice none 0 0] 37 (0, 0))] 2 21 rfl rfl (Own.start w) (
    ux (t := 0) rfl <|
    uq4 <|
    ah) fun fa fw bs hv ap z q ov => ?_
  obtain ⟨gb1, s1, bgb1, hgb1⟩ := zn hv 0; have ov := ov.hc (Own.start w) bgb1 hgb1; obtain ⟨gb2, s2, bgb2, hgb2⟩ := zn hv 1; have ov := ov.cons hgb2 (Nat.le_trans (Own.start w).kept.size bgb2) (bG (cr ap 0 1 rfl rfl rfl s1 rfl s2 rfl) ((Own.start w).below bgb2)); have ow := ov; refine sq fun hK2 => ?_
  refine rgx [yV (.pointer (some ⟨gb1, 0, none⟩)), yV _] 2 21 z q ow (
    ua (rfa (zt s1)) rfl <|
    ua (rlb ow 1 (zd 0)) rfl <|
    ah) fun fa fw bs hv ap z q ow => ?_
  obtain ⟨s1, s2⟩ := b2 bs s1 s2; have s5 := zh hv 1
  by_cases hc1 : a.w = true
  ·refine ct s5 ((Iff.rfl).2 hc1) ?_
   have hw := hc1; refine sq fun hK4 => ?_
   refine ro [yV (.pointer (some ⟨gb1, 4, none⟩)), yV (.agg #[.int .i64 a.x.c1, .int .i64 a.x.r1, .int .i64 a.x.c2, .int .i64 a.x.r2, .slice A1 a.l.length c1])] 2 21 z q ow (
     ua (rfa (zt s1)) rfl <|
     ua (rln 5 ow 1 (zd 0)) rfl <|
     ah) fun fa fw bs hv ap z q ow => ?_
   obtain ⟨s1, s2⟩ := b2 bs s1 s2; have s7 := zh hv 1; refine ws ow 0 0 s2 s7 fun fw ow => ?_; refine wt hK4 ?_; refine wp_ret ?_; refine ao ?_; refine am rfl (bo (n := 5) _ s2 (by kernel_rfl) (by kernel_rfl) (ow.box 0 rfl) (Nat.le_of_ble_eq_true rfl) rfl) q ?_; exact vG ow rfl hw hc
  refine cf s5 (Iff.rfl) hc1 ?_; have hw := Bool.eq_false_iff.2 hc1; refine wp_skip ?_; refine tn hK2 ?_; refine sq fun hK5 => ?_
  refine ro [yV (.agg #[.int .i64 1, .int .i64 1, .int .i64 1, .int .i64 1]), yV (.agg #[.int .i64 1, .int .i64 1, .int .i64 1, .int .i64 1, .slice none 0 0]), bJ fw.heap.size (.cells #[.int .i64 0, .int .i64 0, .int .i64 0, .int .i64 0, .slice none 0 0] 37 (0, 0))] 3 21 z q ow (
    aS (fun hk bs hd => bP (us := #[(0, .int .i64 1), (1, .int .i64 1), (2, .int .i64 1), (3, .int .i64 1)]) rfl (by simp only [List.map_toArray, List.map_cons, List.map_nil]; rfl) (by kernel_rfl)) rfl <|
    arm (fun aa ww hk bs hd => by
      have d0 : aa.eval (.tmp 8) = .agg #[.int .i64 1, .int .i64 1, .int .i64 1, .int .i64 1] := fy hd 0 rfl; exact bS (v := .agg #[.int .i64 1, .int .i64 1, .int .i64 1, .int .i64 1, .slice none 0 0]) (ag rfl) (bP (us := #[(0, .agg #[.int .i64 1, .int .i64 1, .int .i64 1, .int .i64 1])]) rfl (by simp only [List.map_toArray, List.map_cons, List.map_nil, d0]) (by kernel_rfl)) rfl rfl
      ) <|
    uq4 <|
    ah) fun fa fw bs hv ap z q ov => ?_
  obtain ⟨s1, s2⟩ := b2 bs s1 s2; have s9 := zh hv 1; obtain ⟨gb3, s3, bgb3, hgb3⟩ := zn hv 2; have ov := ov.hc ow bgb3 hgb3; have ow := ov; refine ws ow 0 0 s3 s9 fun fw ow => ?_; refine wt hK5 ?_; refine sq fun hK6 => ?_
  refine rgx [yV (.pointer (some ⟨gb1, 1, none⟩)), yV (.pointer (some ⟨gb1, 1, none⟩)), yV _, yV _] 4 21 z q ow (
    ua (rfa (zt s1)) rfl <|
    ua (rfa (zd 0)) rfl <|
    ua (rlb ow 2 (zd 1)) rfl <|
    ua (rne (zd 2) zc) rfl <|
    ah) fun fa fw bs hv ap z q ow => ?_
  obtain ⟨s1, s2, s3⟩ := b3 bs s1 s2 s3; have s13 := zh hv 3
  by_cases hc2 : (a.v.k : Int) ≠ (0 : Int)
  ·refine ct s13 ((decide_eq_true_iff).2 hc2) ?_
   have hk0 := hc2
   refine ro [yV (.agg #[.int .i64 1, .int .i64 1]), yV (.pointer (some ⟨gb1, 1, none⟩)), yV (al a.v), yV (.agg #[.int .i64 1, .int .i64 1, .int .u8 a.v.k, .int .i64 a.v.n, .string ⟨a.v.t.toArray⟩]), bT fw.heap.size 1 (.cells #[.int .i64 1, .int .i64 1, .int .u8 a.v.k, .int .i64 a.v.n, .string ⟨a.v.t.toArray⟩] 46 (0, 0)), yV (.pointer (some ⟨gb3, 4, none⟩))] 6 21 z q ow (
     aS (fun hk bs hd => bP (us := #[(0, .int .i64 1), (1, .int .i64 1)]) rfl (by simp only [List.map_toArray, List.map_cons, List.map_nil]; rfl) (by kernel_rfl)) rfl <|
     ua (rfa (zt s1)) rfl <|
     ua (rln 3 ow 2 (zd 1)) rfl <|
     arm (fun aa ww hk bs hd => by
       have d0 : aa.eval (.tmp 14) = .agg #[.int .i64 1, .int .i64 1] := fy hd 0 rfl; have d2 : aa.eval (.tmp 16) = al a.v := fy hd 2 rfl; exact bS (v := .agg #[.int .i64 1, .int .i64 1, .int .u8 a.v.k, .int .i64 a.v.n, .string ⟨a.v.t.toArray⟩]) (ag rfl) (bP (us := #[(0, .agg #[.int .i64 1, .int .i64 1]), (1, al a.v)]) rfl (by simp only [List.map_toArray, List.map_cons, List.map_nil, d0, d2]) (by kernel_rfl)) rfl rfl
       ) <|
     arm (fun aa ww hk bs hd => by
       have d3 : aa.eval (.tmp 17) = .agg #[.int .i64 1, .int .i64 1, .int .u8 a.v.k, .int .i64 a.v.n, .string ⟨a.v.t.toArray⟩] := fy hd 3 rfl; exact cZ _ (ag rfl) (bU (us := #[(0, .agg #[.int .i64 1, .int .i64 1, .int .u8 a.v.k, .int .i64 a.v.n, .string ⟨a.v.t.toArray⟩])]) (b := .cells #[.int .i64 1, .int .i64 1, .int .u8 a.v.k, .int .i64 a.v.n, .string ⟨a.v.t.toArray⟩] 46 (0, 0)) rfl (by simp only [List.map_toArray, List.map_cons, List.map_nil, d3]) (by kernel_rfl)) ⟨_, rfl, hk.size, Go.heap_alloc_new _ _⟩ ((Kept.refl _).alloc _) rfl (Nat.le_refl _)
       ) <|
     ua (rfa (zt s3)) rfl <|
     ah) fun fa fw bs hv ap z q ov => ?_
   obtain ⟨s2, s3⟩ := b2 bs s2 s3; obtain ⟨gb4, s18, bgb4, hgb4⟩ := Ac hv 4 rfl rfl rfl; have ov := ov.hc ow bgb4 hgb4; have s19 := zh hv 5; have ow := ov; refine ws ow 1 4 s19 s18 fun fw ow => ?_; refine wt hK6 ?_; refine sq fun hK8 => ?_
   refine ro [yV (.agg #[.int .i64 1, .int .i64 1, .int .i64 1, .int .i64 1, .slice (some ⟨gb4, 0, none⟩) 1 1])] 1 21 z q ow (
     ua (rln 5 ow 1 (zt s3)) rfl <|
     ah) fun fa fw bs hv ap z q ow => ?_
   have s2 := bg bs s2; have s20 := zh hv 0; refine ws ow 2 0 s2 s20 fun fw ow => ?_; refine wt hK8 ?_; refine wp_ret ?_; refine am rfl (bo (n := 5) _ s2 (by kernel_rfl) (by kernel_rfl) (ow.box 2 rfl) (Nat.le_of_ble_eq_true rfl) rfl) q ?_; exact yd ow rfl hw hk0 (ow.only 0 rfl)
  refine cf s13 (decide_eq_true_iff) hc2 ?_; have hk0 := hc2; refine wp_skip ?_; refine tn hK6 ?_; refine sq fun hK9 => ?_
  refine ro [yV (.agg #[.int .i64 1, .int .i64 1, .int .i64 1, .int .i64 1, .slice none 0 0])] 1 21 z q ow (
    ua (rln 5 ow 0 (zt s3)) rfl <|
    ah) fun fa fw bs hv ap z q ow => ?_
  have s2 := bg bs s2; have s20 := zh hv 0; refine ws ow 1 0 s2 s20 fun fw ow => ?_; refine wt hK9 ?_; refine wp_ret ?_; refine am rfl (bo (n := 5) _ s2 (by kernel_rfl) (by kernel_rfl) (ow.box 1 rfl) (Nat.le_of_ble_eq_true rfl) rfl) q ?_; exact vH ow rfl hw hk0
theorem jK (a : Ar) (A1 : Option Addr) (c1 : Nat) (w : World) (hr : RowK 5 clV w A1 a.l) (hl : a.l.length ≤ 1000000) (hsv : Small a.v) (hs : ∀ c ∈ a.l, Small c.v) :
    Calls Tryz.prog 32 #[.agg #[.bool a.w, .int .u8 a.v.k, .int .i64 a.v.n, .string ⟨a.v.t.toArray⟩, .int .i64 a.x.c1, .int .i64 a.x.r1, .int .i64 a.x.c2, .int .i64 a.x.r2, .slice A1 a.l.length c1]] w fun e w' => e = .returned (.bool (br a)) ∧ Kept w w' := by
  go_enter Tryz.func32, Tryz.ntmps32
  refine rgx [bJ w.heap.size (.cells #[.bool a.w, .int .u8 a.v.k, .int .i64 a.v.n, .string ⟨a.v.t.toArray⟩, .int .i64 a.x.c1, .int .i64 a.x.r1, .int .i64 a.x.c2, .int .i64 a.x.r2, .slice A1 a.l.length c1] 39 (0, 0)), yV _] 2 80 rfl rfl (Own.start w) (
    ux (t := 0) rfl <|
    uq1 rfl rfl rfl <|
    ah) fun fa fw bs hv ap z q ov => ?_
  obtain ⟨gb1, s1, bgb1, hgb1⟩ := zn hv 0; have ov := ov.hc (Own.start w) bgb1 hgb1; have s2 := zh hv 1; have ow := ov; refine sq fun hK2 => ?_
  refine rgx [yV (.pointer (some ⟨gb1, 0, none⟩)), yV _, yV _] 3 80 z q ow (
    ua (rfa (zt s1)) rfl <|
    ua (rlb ow 0 (zd 0)) rfl <|
    ua (rno (zd 1)) rfl <|
    ah) fun fa fw bs hv ap z q ow => ?_
  obtain ⟨s1, s2⟩ := b2 bs s1 s2; have s8 := zh hv 2
  by_cases hc1 : ¬ (a.w = true)
  ·refine ct s8 ((dX (Iff.rfl)).2 hc1) ?_
   have hw : a.w = false := by simpa using hc1
   refine rgx [yV (.pointer (some ⟨gb1, 1, none⟩)), yV (al a.v), yV (.int .i64 (cx a.v)), yV _, yV _, yIf _ (yV (.pointer (some ⟨gb1, 4, none⟩))), yIf _ (yV (.pointer (some ⟨gb1, 4, none⟩))), yIf _ (yV (.agg #[.int .i64 a.x.c1, .int .i64 a.x.r1, .int .i64 a.x.c2, .int .i64 a.x.r2])), yIf _ (yV (.agg #[.int .i64 0, .int .i64 0, .int .i64 0, .int .i64 0])), yIf _ (yV _), yV _, yV _, yIf _ (yV (.pointer (some ⟨gb1, 4, none⟩))), yIf _ (yV (.pointer (some ⟨gb1, 8, none⟩))), yIf _ (yV _), yIf _ (yV _), yIf _ (yV _), yV _, yV _] 19 80 z q ow (
     ua (rfa (zt s1)) rfl <|
     ua (rln 3 ow 0 (zd 0)) rfl <|
     uc (rc1 (zd 1) jJ) (fun hk => cN a.v _ (by first | exact hsv.1 | exact hsc.1) (by first | exact Nat.le_trans hsv.2 (by decide) | exact Nat.le_trans hsc.2 (by decide))) rfl <|
     ua (req (zd 2) zc) rfl <|
     uq2 3 rfl rfl <|
     ui (gd1 4) (rfa (zt s1)) rfl <|
     ui (gd1 4) (rfa (zi 5)) rfl <|
     ui (gd1 4) (rln 4 ow 0 (zi 6)) rfl <|
     ai (gd1 4) (fun hk bs hd hz => bP (us := #[]) rfl (by simp) (by kernel_rfl)) rfl <|
     ai (gd1 4) (fun hk bs hd hz => Ai (u := a.x) (v := (⟨0, 0, 0, 0⟩ : Rc)) rfl (di hd 7 rfl hz) (di hd 8 rfl hz)) rfl <|
     ua (ran (zd 4) (zi 9)) rfl <|
     uq2 10 rfl rfl <|
     ui (gd1 11) (rfa (zt s1)) rfl <|
     ui (gd1 11) (rfa (zi 12)) rfl <|
     ui (gd1 11) (rlb ow 0 (zi 13)) rfl <|
     ui (gd1 11) (rle Tryz.underlying35 (zi 14)) rfl <|
     ui (gd1 11) (req (zi 15) zc) rfl <|
     ua (ran (zd 11) (zi 16)) rfl <|
     uq3 17 rfl rfl <|
     ah) fun fa fw bs hv ap z q ow => ?_
   have s1 := bg bs s1; have s2 := zh hv 18; refine wp_ret ?_; refine ao ?_; refine am rfl (ak s2) q ?_; exact ⟨(congrArg (fun b => Ending.returned (.bool b)) (show _ = br a by exact oE hw)), ow.kept⟩
  refine cf s8 (dX (Iff.rfl)) hc1 ?_; have hw : a.w = true := by simpa using hc1
  refine wp_skip ?_; refine tn hK2 ?_; refine sq fun hK5 => ?_
  refine rgx [yV (.pointer (some ⟨gb1, 1, none⟩)), yV (al a.v), yV (al (⟨0, 0, []⟩ : Vl)), yV _, yV _, yIf _ (yV (.pointer (some ⟨gb1, 4, none⟩))), yIf _ (yV (.pointer (some ⟨gb1, 4, none⟩))), yIf _ (yV (.agg #[.int .i64 a.x.c1, .int .i64 a.x.r1, .int .i64 a.x.c2, .int .i64 a.x.r2])), yIf _ (yV (.int .i64 (fX a.x))), yIf _ (yV _), yV _] 11 80 z q ow (
    ua (rfa (zt s1)) rfl <|
    ua (rln 3 ow 0 (zd 0)) rfl <|
    aS (fun hk bs hd => bP (us := #[]) rfl (by simp) (by kernel_rfl)) rfl <|
    aS (fun hk bs hd => C6 rfl (dp hd 1 rfl) (dp hd 2 rfl)) rfl <|
    uq2 3 rfl rfl <|
    ui (gd1 4) (rfa (zt s1)) rfl <|
    ui (gd1 4) (rfa (zi 5)) rfl <|
    ui (gd1 4) (rln 4 ow 0 (zi 6)) rfl <|
    uq6 (gd1 4) (rc1 (zi 7) iV) (fun hk hz => mn a.x _) rfl <|
    ui (gd1 4) (rne (zi 8) zc) rfl <|
    ua (ron (zd 4) (zi 9)) rfl <|
    ah) fun fa fw bs hv ap z q ow => ?_
  obtain ⟨s1, s2⟩ := b2 bs s1 s2; have s37 := zh hv 10
  by_cases hc2 : (¬ ((gj a.v (⟨0, 0, []⟩ : Vl)) = true)) ∨ ((fX a.x : Int) ≠ (0 : Int))
  ·refine ct s37 ((bor (dX (Iff.rfl)) (decide_eq_true_iff)).2 hc2) ?_
   have hbad := hc2
   refine rgx [yV _] 1 80 z q ow (
     uq1 rfl rfl rfl <|
     ah) fun fa fw bs hv ap z q ow => ?_
   have s1 := bg bs s1; have s2 := zh hv 0; refine wp_ret ?_; refine ao ?_; refine am rfl (ak s2) q ?_; exact ⟨(congrArg (fun b => Ending.returned (.bool b)) (show _ = br a by exact (rB hw hbad).symm)), ow.kept⟩
  refine cf s37 (bor (dX (Iff.rfl)) (decide_eq_true_iff)) hc2 ?_; have hok := rC hc2; refine wp_skip ?_; refine tn hK5 ?_
  refine rgx [yV _] 1 80 z q ow (
    uq1 rfl rfl rfl <|
    ah) fun fa fw bs hv ap z q ow => ?_
  obtain ⟨s1, s2⟩ := b2 bs s1 s2; have s3 := zh hv 0; refine sq fun hK9 => ?_
  refine rgx [yV (.pointer (some ⟨gb1, 4, none⟩)), yV (.pointer (some ⟨gb1, 8, none⟩)), yV _, yV _, yV _] 5 80 z q ow (
    ua (rfa (zt s1)) rfl <|
    ua (rfa (zd 0)) rfl <|
    ua (rlb ow 0 (zd 1)) rfl <|
    ua (rle Tryz.underlying35 (zd 2)) rfl <|
    ua (rmo zc) rfl <|
    ah) fun fa fw bs hv ap z q ow => ?_
  obtain ⟨s1, s2, s3⟩ := b3 bs s1 s2 s3; have s40 := zh hv 2; have s41 := zh hv 3; have s42 := zh hv 4; refine wp_block ?_; refine bc (fun (k : Nat) fr u => ∃ (n : Int), (k ≤ a.l.length) ∧ (cQ a.x (-1) a.l = cQ a.x n (a.l.drop k)) ∧ (-1 ≤ n ∧ n ≤ 1048576) ∧ fr.tmps.size = 80 ∧ fr.defers = [] ∧ Own w [Th.obj gb1 (.cells #[.bool a.w, .int .u8 a.v.k, .int .i64 a.v.n, .string ⟨a.v.t.toArray⟩, .int .i64 a.x.c1, .int .i64 a.x.r1, .int .i64 a.x.c2, .int .i64 a.x.r2, .slice A1 a.l.length c1] 39 (0, 0))] u ∧ fr.eval (.tmp 1) = .pointer (some ⟨gb1, 0, none⟩) ∧ fr.eval (.tmp 2) = .bool false ∧ fr.eval (.tmp 3) = .int .i64 n ∧ fr.eval (.tmp 40) = .slice A1 a.l.length c1 ∧ fr.eval (.tmp 41) = .int .i64 ((a.l.length : Nat) : Int) ∧ fr.eval (.tmp 42) = .int .i64 (k : Int)) (fun k => a.l.length - k) 0 ⟨(-1), (Nat.zero_le _), rfl, ⟨by decide, by decide⟩, z, q, ow, s1, s2, s3, s40, s41, s42⟩ (fun k b_ u_ hI => ?_)
  revert b_ u_; intro fa fw hI
  obtain ⟨n, hk0, hoc, hnb, z, q, ow, s1, s2, s3, s40, s41, s42⟩ := hI
  refine rgx [yV _] 1 80 z q ow (
    ua (rlt (zt s42) (zt s41)) rfl <|
    ah) fun fa fw bs hv ap z q ow => ?_
  obtain ⟨s1, s2, s3, s40, s41, s42⟩ := b6 bs s1 s2 s3 s40 s41 s42; have s43 := zh hv 0; refine sq fun hK12 => ?_
  by_cases hc3 : (k : Int) < ((a.l.length : Nat) : Int)
  ·refine ct s43 ((decide_eq_true_iff).2 hc3) ?_
   refine wp_skip ?_; refine tn hK12 ?_; refine sq fun hK13 => ?_; refine wp_block ?_; refine sq fun hK14 => ?_; have hltk : k < a.l.length := by omega
   obtain ⟨cl, hcl⟩ := bQ hltk; obtain ⟨bcl, ocl, Acl, ecl⟩ := hr.elem hcl; have hsc := hs cl (List.mem_of_getElem? hcl)
   refine ro [yV _, yV (.agg #[.int .i64 cl.c, .int .i64 cl.r, .int .u8 cl.v.k, .int .i64 cl.v.n, .string ⟨cl.v.t.toArray⟩]), bJ fw.heap.size (.cells #[.int .i64 0, .int .i64 0, .int .u8 0, .int .i64 0, .string ⟨[].toArray⟩] 46 (0, 0))] 3 80 z q ow (
     ua (rpl 5 Tryz.underlying35 Acl (zt s40) (zt s42) hltk) rfl <|
     ua (rpk 5 0 ecl ow (zd 0)) rfl <|
     uq4 <|
     ah) fun fa fw bs hv ap z q ov => ?_
   obtain ⟨s1, s2, s3, s40, s41, s42⟩ := b6 bs s1 s2 s3 s40 s41 s42; have s45 := zh hv 1; obtain ⟨gb2, s5, bgb2, hgb2⟩ := zn hv 2; have ov := ov.hc ow bgb2 hgb2; have ow := ov; refine ws ow 0 0 s5 s45 fun fw ow => ?_; refine wt hK14 ?_; refine sq fun hK15 => ?_
   refine rgx [yV (.pointer (some ⟨gb1, 4, none⟩)), yV (.pointer (some ⟨gb1, 4, none⟩)), yV (.agg #[.int .i64 a.x.c1, .int .i64 a.x.r1, .int .i64 a.x.c2, .int .i64 a.x.r2]), yV (.pointer (some ⟨gb2, 0, none⟩)), yV (.agg #[.int .i64 cl.c, .int .i64 cl.r]), yV (.bool (gU a.x cl.c cl.r)), yV _, yV _, yIf _ (yV (.pointer (some ⟨gb2, 2, none⟩))), yIf _ (yV (.pointer (some ⟨gb2, 2, none⟩))), yIf _ (yV _), yIf _ (yV _), yV _, yV _, yIf _ (yV (.pointer (some ⟨gb2, 2, none⟩))), yIf _ (yV (al cl.v)), yIf _ (yV (.int .i64 (cx cl.v))), yIf _ (yV _), yV _, yV _, yIf _ (yV (.pointer (some ⟨gb1, 4, none⟩))), yIf _ (yV (.agg #[.int .i64 a.x.c1, .int .i64 a.x.r1, .int .i64 a.x.c2, .int .i64 a.x.r2, .slice A1 a.l.length c1])), yIf _ (yV (.pointer (some ⟨gb2, 0, none⟩))), yIf _ (yV (.agg #[.int .i64 cl.c, .int .i64 cl.r])), yIf _ (yV (.int .i64 (cJ a.x cl.c cl.r))), yIf _ (yV _), yIf _ (yV _), yV _] 28 80 z q ow (
     ua (rfa (zt s1)) rfl <|
     ua (rfa (zd 0)) rfl <|
     ua (rln 4 ow 1 (zd 1)) rfl <|
     ua (rfa (zt s5)) rfl <|
     ua (rln 2 ow 0 (zd 3)) rfl <|
     uc (rc2 (zd 2) (zd 4) ql) (fun hk => ya a.x cl.c cl.r _) rfl <|
     ua (rno (zd 5)) rfl <|
     uq2 6 rfl rfl <|
     ui (gd1 7) (rfa (zt s5)) rfl <|
     ui (gd1 7) (rfa (zi 8)) rfl <|
     ui (gd1 7) (rlb ow 0 (zi 9)) rfl <|
     ui (gd1 7) (req (zi 10) zc) rfl <|
     ua (ron (zd 7) (zi 11)) rfl <|
     uq2 12 rfl rfl <|
     ui (gd1 13) (rfa (zt s5)) rfl <|
     ui (gd1 13) (rln 3 ow 0 (zi 14)) rfl <|
     uq6 (gd1 13) (rc1 (zi 15) jJ) (fun hk hz => cN cl.v _ (by first | exact hsv.1 | exact hsc.1) (by first | exact Nat.le_trans hsv.2 (by decide) | exact Nat.le_trans hsc.2 (by decide))) rfl <|
     ui (gd1 13) (rne (zi 16) zc) rfl <|
     ua (ron (zd 13) (zi 17)) rfl <|
     uq2 18 rfl rfl <|
     ui (gd1 19) (rfa (zt s1)) rfl <|
     ui (gd1 19) (rln 5 ow 1 (zi 20)) rfl <|
     ui (gd1 19) (rfa (zt s5)) rfl <|
     ui (gd1 19) (rln 2 ow 0 (zi 22)) rfl <|
     uq6 (gd1 19) (rc2 (zi 21) (zi 23) gp) (fun hk hz => jz a.x _ _ _ cl.c cl.r _ hok.2 (by first | exact hfc | exact zu hz)) rfl <|
     ui (gd1 19) (rmo (zt s3)) rfl <|
     ui (gd1 19) (rlq (zi 24) (zi 25)) rfl <|
     ua (ron (zd 19) (zi 26)) rfl <|
     ah) fun fa fw bs hv ap z q ow => ?_
   obtain ⟨s1, s2, s3, s40, s41, s42, s5⟩ := b7 bs s1 s2 s3 s40 s41 s42 s5; have s73 := zh hv 27
   by_cases hc4 : (((¬ ((gU a.x cl.c cl.r) = true)) ∨ ((cl.v.k : Int) = (0 : Int))) ∨ ((cx cl.v : Int) ≠ (0 : Int))) ∨ ((cJ a.x cl.c cl.r : Int) ≤ (n : Int))
   ·refine ct s73 ((bor (bor (bor (dX (Iff.rfl)) (decide_eq_true_iff)) (decide_eq_true_iff)) (decide_eq_true_iff)).2 hc4) ?_
    have hcb := hc4
    refine rgx [yV _] 1 80 z q ow (
      uq1 rfl rfl rfl <|
      ah) fun fa fw bs hv ap z q ow => ?_
    obtain ⟨s1, s3, s40, s41, s42, s5⟩ := b6 bs s1 s3 s40 s41 s42 s5; have s2 := zh hv 0; refine wp_ret ?_; refine ao ?_; refine aD ?_; refine ao ?_; refine ao ?_; refine aD ?_; refine ao ?_; refine am rfl (ak s2) q ?_; exact ⟨(congrArg (fun b => Ending.returned (.bool b)) (show _ = br a by exact (gL hw hok (hoc.trans (vI hcl hcb))).symm)), ow.kept⟩
   refine cf s73 (bor (bor (bor (dX (Iff.rfl)) (decide_eq_true_iff)) (decide_eq_true_iff)) (decide_eq_true_iff)) hc4 ?_; have hcg := hc4; have hfc := yf hcg; have hix := vz hok.2 hfc; refine wp_skip ?_; refine tn hK15 ?_
   refine ro [yV (.pointer (some ⟨gb1, 4, none⟩)), yV (.agg #[.int .i64 a.x.c1, .int .i64 a.x.r1, .int .i64 a.x.c2, .int .i64 a.x.r2, .slice A1 a.l.length c1]), yV (.pointer (some ⟨gb2, 0, none⟩)), yV (.agg #[.int .i64 cl.c, .int .i64 cl.r]), yV (.int .i64 (cJ a.x cl.c cl.r)), yV _] 6 80 z q ow (
     ua (rfa (zt s1)) rfl <|
     ua (rln 5 ow 1 (zd 0)) rfl <|
     ua (rfa (zt s5)) rfl <|
     ua (rln 2 ow 0 (zd 2)) rfl <|
     uc (rc2 (zd 1) (zd 3) gp) (fun hk => jz a.x _ _ _ cl.c cl.r _ hok.2 (by first | exact hfc | exact zu hz)) rfl <|
     uq3 4 rfl rfl <|
     ah) fun fa fw bs hv ap z q ow => ?_
   obtain ⟨s1, s2, s40, s41, s42⟩ := b5 bs s1 s2 s40 s41 s42; have s3 := zh hv 5; refine bp ?_; refine bn ?_; refine tn hK13 ?_
   refine ro [yV (.int .i64 ((k + 1 : Nat) : Int))] 1 80 z q ow (
     ua (rad (zt s42) zc) rfl <|
     ah) fun fa fw bs hv ap z q ow => ?_
   obtain ⟨s1, s2, s40, s41, s42, s3⟩ := b6 bs s1 s2 s40 s41 s42 s3; have s79 := zh hv 0; refine ae (v := .int .i64 ((k + 1 : Nat) : Int)) (ag rfl) (ce rfl s79) ?_; refine gp5 z q ow s1 s2 s40 s41 s3 fun fa fw z q ow s1 s2 s40 s41 s3 s42 => ?_; refine bp ?_; exact bK ⟨(k + 1), ⟨(cJ a.x cl.c cl.r), hltk, (hoc.trans (yg hcl hcg)), (by omega), z, q, ow.tail, s1, s2, s3, s40, s41, s42⟩, (show a.l.length - (k + 1) < a.l.length - k by omega)⟩
  refine cf s43 (decide_eq_true_iff) hc3 ?_; refine wp_exit ?_; refine aX ?_; refine aX ?_; refine aP ?_; refine tn hK9 ?_
  refine rgx [yV _] 1 80 z q ow (
    uq1 rfl rfl rfl <|
    ah) fun fa fw bs hv ap z q ow => ?_
  have s2 := zh hv 0; refine wp_ret ?_; refine am rfl (ak s2) q ?_; exact ⟨(congrArg (fun b => Ending.returned (.bool b)) (show _ = br a by exact (gL hw hok (hoc.trans (sV (by omega)))).symm)), ow.kept⟩
