/- Layer 16: functions of numbers: the program's (printed by wip/mkagg6.py). -/
import Derived.Test.YtbkjdcpfkepheaaGreatDoorVMixAS
set_option maxHeartbeats 4000000
namespace Go.Proofs.YtbkjdcpfkepheaaGreatDoor
section
set_option linter.unusedVariables false
set_option linter.unusedSimpArgs false
open Go.RowKit Lv
set_option maxRecDepth 100000
def p16 (v : Vl) : Int × Vl × Bool := if isE (bB v) then (0, bB v, false) else (mM v, aG, true)
theorem Dw {v : Vl} (h : isE (bB v) = true) : p16 v = (0, bB v, false) := by unfold p16; rw [if_pos h]
theorem Dx {v : Vl} (h : isE (bB v) = false) : p16 v = (mM v, aG, true) := by unfold p16; rw [if_neg (by rw [h]; decide)]
theorem Row.kept16 {w w' : World} {A : Option Addr} {zs : List Int} (h : Row w A zs) (k : Kept w w') : Row w' A zs := fun i hi => by
  obtain ⟨b, off, e, hb, hc⟩ := h i hi; exact ⟨b, off, e, Nat.lt_of_lt_of_le hb k.size, (k.cell (p := ⟨b, _, none⟩) hb).trans hc⟩
theorem rI (l : List Int) : i64 (dT l).1 := by
  unfold dT
  split
  · exact ⟨by decide, by decide⟩
  · exact qd _
theorem kU {l : List Int} (h64 : All64 l) (h : l ≠ []) : i64 (fH l) := h64 _ (sZ h).1
theorem kV {l : List Int} (h64 : All64 l) (h : l ≠ []) : i64 (fI l) := h64 _ (ta h).1
theorem yn (l : List Int) (h : l ≠ []) : Lib.minOf l = fH l := by
  cases l with
  | nil => exact absurd rfl h
  | cons a l =>
    show (a :: l).foldl min a = l.foldl min a; rw [List.foldl_cons, show min a a = a by omega]
theorem yo (l : List Int) (h : l ≠ []) : Lib.maxOf l = fI l := by
  cases l with
  | nil => exact absurd rfl h
  | cons a l =>
    show (a :: l).foldl max a = l.foldl max a; rw [List.foldl_cons, show max a a = a by omega]
theorem yr (A : Option Addr) (cap : Nat) (l : List Int) (w : World) (hr : Row w A l) (h0 : 0 < l.length) (hl : l.length ≤ 1000000) :
    Calls Tryz.prog 135 #[.slice A l.length cap] w fun e w' => e = .returned (.int .i64 (fH l)) ∧ Kept w w' := by
  obtain ⟨b, off, rfl, hb, _⟩ := hr 0 h0; refine (Tryz.slices_Min_int b off l.length cap l w h0 (Nat.le_refl _) (by omega) (fun j hj => ?_)).mono ?_
  · obtain ⟨b', off', e, _, hc⟩ := hr j hj
    cases e
    exact hc
  · rintro e w' ⟨rfl, rfl⟩
    exact ⟨by rw [List.take_length, yn l (List.length_pos_iff.1 h0)], Kept.refl _⟩
theorem yt (A : Option Addr) (cap : Nat) (l : List Int) (w : World) (hr : Row w A l) (h0 : 0 < l.length) (hl : l.length ≤ 1000000) :
    Calls Tryz.prog 136 #[.slice A l.length cap] w fun e w' => e = .returned (.int .i64 (fI l)) ∧ Kept w w' := by
  obtain ⟨b, off, rfl, hb, _⟩ := hr 0 h0; refine (Tryz.slices_Max_int b off l.length cap l w h0 (Nat.le_refl _) (by omega) (fun j hj => ?_)).mono ?_
  · obtain ⟨b', off', e, _, hc⟩ := hr j hj
    cases e
    exact hc
  · rintro e w' ⟨rfl, rfl⟩
    exact ⟨by rw [List.take_length, yo l (List.length_pos_iff.1 h0)], Kept.refl _⟩
theorem fJ {l : List Int} {k : Nat} (h : k < l.length) : l.getD k 0 ∈ l := by
  rw [show l.getD k 0 = l[k] by simp [List.getD, h]]; exact List.getElem_mem h
theorem tc (l : List Int) : l.headD 0 = l.getD 0 0 := by cases l <;> rfl
theorem oJ {l : List Int} {k : Nat} (h : k + 1 < l.length) : l.tail.drop k = l.getD (k + 1) 0 :: l.tail.drop (k + 1) := by
  cases l with
  | nil => simp at h
  | cons a l =>
    have hk : k < l.length := by simpa using h
    show l.drop k = l.getD k 0 :: l.drop (k + 1); rw [List.drop_eq_getElem_cons hk, show l.getD k 0 = l[k] by simp [List.getD, hk]]
theorem AE {l : List Int} {k : Nat} {x : Int} (h : k + 1 < l.length) (ok : (mB x (l.getD (k + 1) 0)).2 = true) : gm x (l.tail.drop k) = gm (mB x (l.getD (k + 1) 0)).1 (l.tail.drop (k + 1)) := by
  rw [oJ h, gm, if_pos ok]
theorem AF {l : List Int} {k : Nat} {x : Int} (h : k + 1 < l.length) (ok : (mB x (l.getD (k + 1) 0)).2 = false) : mL (gm x (l.tail.drop k)) = aW 3 := by
  rw [oJ h, gm, if_neg (by rw [ok]; decide)]
  rfl
theorem yu {l : List Int} {k : Nat} {x : Int} (h : l.length - 1 ≤ k) : mL (gm x (l.tail.drop k)) = aK x := by
  rw [List.drop_eq_nil_of_le (by rw [List.length_tail]; exact h)]
  rfl
section
variable {a : Act} {w : World} {o : Oper}
theorem ix {x y : Operand} {A : Option Addr} {b0 o0 n c k : Nat} (ho : o.op = .indexAddr 54 x y) (hA : A = some ⟨b0, o0, none⟩) (hx : a.eval x = .slice A n c) (hy : a.eval y = .int .i64 (k : Nat)) (hk : k < n) : (execOp a.eval o).run Tryz.prog w = .ok (.value (.pointer (some ⟨b0, o0 + k, none⟩))) w := by
  subst hA; exact mc ho hx hy (sO Tryz.underlying54 (by kernel_rfl) hk)
theorem Cq {T : TypeId} {x : Operand} {A : Option Addr} {l : List Int} {b0 o0 k : Nat} (ho : o.op = .load T x) (ha : (isAgg T).run Tryz.prog w = .ok false w) (hx : a.eval x = .pointer (some ⟨b0, o0 + k, none⟩)) (hr : Row w A l) (hA : A = some ⟨b0, o0, none⟩) (hk : k < l.length) : (execOp a.eval o).run Tryz.prog w = .ok (.value (.int .i64 (l.getD k 0))) w := by
  obtain ⟨b, off, e, _, hc⟩ := hr k hk; rw [hA] at e
  cases e
  exact rd ho ha hx hc
theorem AG {x : Operand} {b0 o0 o1 k : Nat} (h : o1 = o0 + 1) (hx : a.eval x = .pointer (some ⟨b0, o1 + k, none⟩)) : a.eval x = .pointer (some ⟨b0, o0 + (k + 1), none⟩) := by
  rw [hx, h, Nat.add_assoc, Nat.add_comm 1 k]
theorem Cr {x : Operand} {A : Option Addr} {b0 o0 o1 n cap : Nat} (ho : o.op = .slice 54 x (some (.const (.int .i64 1))) none none) (hA : A = some ⟨b0, o0, none⟩) (h1 : o1 = if cap = 1 then o0 else o0 + 1) (hx : a.eval x = .slice A n cap) (hn : 1 ≤ n) (hc : n ≤ cap) : (execOp a.eval o).run Tryz.prog w = .ok (.value (.slice (some ⟨b0, o1, none⟩) (n - 1) (cap - 1))) w := by
  subst hA; have hr := run_underlying (w := w) Tryz.underlying54; have hz : (sizeOf 2).run Tryz.prog w = .ok 1 w := by kernel_rfl
  have c1 : (1 : Int) ≤ (n : Int) := by omega
  have c2 : (n : Int) ≤ (cap : Int) := by omega
  unfold execOp; rw [ho]
  simp only [hx, Option.map_some, Option.map_none, show a.eval (.const (.int .i64 1)) = .int .i64 1 from rfl]
  go_simp
  by_cases c : cap = 1
  · subst c
    rw [if_pos rfl] at h1; subst h1
    simp
  · rw [if_neg c] at h1
    subst h1; have c3 : ¬ cap - 1 = 0 := by omega
    have c4 : ¬ cap ≤ 1 := by omega
    rw [if_neg c, if_neg c]
end
def dU (fn : Nat) : Int × Int × Int := if fn = 13 ∨ (46 ≤ fn ∧ fn ≤ 50) then (1, 1, 0) else if fn = 18 ∨ fn = 19 ∨ fn = 45 then (2, 2, 0) else if fn = 43 then (2, 3, 0) else if fn = 44 then (2, 2, 1) else (1, 16, -1)
theorem fK : En 131 := by intro args w; go_simp
theorem kW : En 134 := by intro args w; go_simp
theorem td : En 133 := by intro args w; go_simp
theorem te : En 132 := by intro args w; go_simp
theorem ei : En 136 := by intro args w; go_simp
theorem el : En 135 := by intro args w; go_simp
theorem en_val_ToNumber : En 122 := by intro args w; go_simp
theorem em (v : Vl) (w : World) (mx : Int) (HM : Mx w mx) (hs : Small v) :
    Calls Tryz.prog 100 #[al v] w fun e w' => e = .returned (.tuple #[.int .i64 (p16 v).1, al (p16 v).2.1, .bool (p16 v).2.2]) ∧ Kept w w' := by
  go_enter Tryz.func100, Tryz.ntmps100
  refine rgx [bJ w.heap.size (.cells #[.int .u8 v.k, .int .i64 v.n, .string ⟨v.t.toArray⟩] 25 (0, 0)), yV _, bJ w.heap.size (.cells #[.int .u8 0, .int .i64 0, .string ⟨[].toArray⟩] 25 (0, 0)), yV _] 4 16 rfl rfl (Own.start w) (
    ux (t := 0) rfl <|
    uq1 rfl rfl rfl <|
    uq4 <|
    uq1 rfl rfl rfl <|
    ah) fun fa fw bs hv ap z q ov => ?_
  obtain ⟨gb1, s1, bgb1, hgb1⟩ := zn hv 0; have ov := ov.hc (Own.start w) bgb1 hgb1; have s2 := zh hv 1; obtain ⟨gb2, s3, bgb2, hgb2⟩ := zn hv 2; have ov := ov.cons hgb2 (Nat.le_trans (Own.start w).kept.size bgb2) (bG (cr ap 0 2 rfl rfl rfl s1 rfl s3 rfl) ((Own.start w).below bgb2)); have s4 := zh hv 3; have ow := ov; refine sq fun hK2 => ?_
  refine ro [yV (al v), yV (al (bB v)), bJ fw.heap.size (.cells #[.int .u8 0, .int .i64 0, .string ⟨[].toArray⟩] 25 (0, 0))] 3 16 z q ow (
    ua (rln 3 ow 1 (zt s1)) rfl <|
    uc (rc1 (zd 0) en_val_ToNumber) (fun hk => oh v _ mx (HM.kept (ow.keep hk).kept) hs.1 hs.2) rfl <|
    uq4 <|
    ah) fun fa fw bs hv ap z q ov => ?_
  obtain ⟨s2, s3, s4⟩ := b3 bs s2 s3 s4; have s7 := zh hv 1; obtain ⟨gb3, s5, bgb3, hgb3⟩ := zn hv 2; have ov := ov.hc ow bgb3 hgb3; have ow := ov; refine ws ow 0 0 s5 s7 fun fw ow => ?_; refine wt hK2 ?_; refine sq fun hK3 => ?_
  refine rgx [yV (.pointer (some ⟨gb3, 0, none⟩)), yV _, yV _] 3 16 z q ow (
    ua (rfa (zt s5)) rfl <|
    ua (rlb ow 0 (zd 0)) rfl <|
    ua (req (zd 1) zc) rfl <|
    ah) fun fa fw bs hv ap z q ow => ?_
  obtain ⟨s2, s3, s4, s5⟩ := b4 bs s2 s3 s4 s5; have s10 := zh hv 2
  by_cases hc1 : ((bB v).k : Int) = (4 : Int)
  ·refine ct s10 ((decide_eq_true_iff).2 hc1) ?_
   have hie := rF hc1; refine sq fun hK5 => ?_
   refine ro [yV (al (bB v)), yV _] 2 16 z q ow (
     ua (rln 3 ow 0 (zt s5)) rfl <|
     uq1 rfl rfl rfl <|
     ah) fun fa fw bs hv ap z q ow => ?_
   obtain ⟨s3, s4, s5⟩ := b3 bs s3 s4 s5; have s11 := zh hv 0; have s2 := zh hv 1; refine ws ow 1 0 s3 s11 fun fw ow => ?_; refine ae (v := .bool false) (ag rfl) (aq rfl rfl) ?_; refine gp3 z q ow s3 s5 s2 fun fa fw z q ow s3 s5 s2 s4 => ?_; refine wt hK5 ?_; refine wp_ret ?_; refine ao ?_; refine aU (v := .tuple #[.int .i64 0, al (bB v), .bool false]) rfl (.cons (ak s2) (.cons (bo (n := 3) _ s3 (by kernel_rfl) (by kernel_rfl) (ow.box 1 rfl) (Nat.le_of_ble_eq_true rfl) rfl) (.cons (ak s4) .nil))) rfl q ?_; exact ⟨(by rw [Dw hie]), ow.kept⟩
  refine cf s10 (decide_eq_true_iff) hc1 ?_; have hie := mQ hc1; have hr0 := vn hie hs.1; have hq := Ae (y := (bB v).n) ⟨by omega, by omega⟩; have hq1 := hq.1; have hq2 := hq.2; refine wp_skip ?_; refine tn hK3 ?_; refine sq fun hK6 => ?_
  refine ro [yV (.pointer (some ⟨gb3, 1, none⟩)), yV _, yV _, yV (al (⟨0, 0, []⟩ : Vl)), yV _] 5 16 z q ow (
    ua (rfa (zt s5)) rfl <|
    ua (rlb ow 0 (zd 0)) rfl <|
    aS (fun hk bs hd => Dq (Or.inr rfl) rfl (dp hd 1 rfl) rfl (by decide) (by omega) (by omega)) rfl <|
    aS (fun hk bs hd => bP (us := #[]) rfl (by simp) (by kernel_rfl)) rfl <|
    uq3 2 rfl rfl <|
    ah) fun fa fw bs hv ap z q ow => ?_
  obtain ⟨s3, s4⟩ := b2 bs s3 s4; have s15 := zh hv 3; have s2 := zh hv 4; refine ws ow 1 0 s3 s15 fun fw ow => ?_; refine ae (v := .bool true) (ag rfl) (aq rfl rfl) ?_; refine gp2 z q ow s3 s2 fun fa fw z q ow s3 s2 s4 => ?_; refine wt hK6 ?_; refine wp_ret ?_; refine aU (v := .tuple #[.int .i64 (Int.tdiv ((bB v).n) 10000), al (⟨0, 0, []⟩ : Vl), .bool true]) rfl (.cons (ak s2) (.cons (bo (n := 3) _ s3 (by kernel_rfl) (by kernel_rfl) (ow.box 1 rfl) (Nat.le_of_ble_eq_true rfl) rfl) (.cons (ak s4) .nil))) rfl q ?_; exact ⟨(by rw [Dx hie]; rfl), ow.kept⟩
theorem rJ (A : Option Addr) (cap : Nat) (l : List Int) (w : World) (hr : Row w A l) (h64 : All64 l) (hl : l.length ≤ 1000000) :
    Calls Tryz.prog 94 #[.slice A l.length cap] w fun e w' => e = .returned (al (mL (tJ l))) ∧ Kept w w' := by
  go_enter Tryz.func94, Tryz.ntmps94
  refine rgx [bJ w.heap.size (.cells #[.int .u8 0, .int .i64 0, .string ⟨[].toArray⟩] 25 (0, 0))] 1 8 rfl rfl (Own.start w) (
    uq4 <|
    ah) fun fa fw bs hv ap z q ov => ?_
  have s0 := bs.get 0 rfl rfl; obtain ⟨gb1, s2, bgb1, hgb1⟩ := zn hv 0; have ov := ov.hc (Own.start w) bgb1 hgb1; have ow := ov; refine sq fun hK2 => ?_
  refine ro [yV _, yV (.tuple #[.int .i64 ((tJ l).1), .bool ((tJ l).2)]), yV _, yV _, yV (al (mL ((tJ l).1, (tJ l).2)))] 5 8 z q ow (
    um s0 rfl <|
    uc (rc1 (zd 0) te) (fun hk => AB A cap l _ (Row.kept16 hr (ow.keep hk).kept) h64 (by omega)) rfl <|
    ua (rex (zd 1)) rfl <|
    ua (rex (zd 1)) rfl <|
    uc (rc2 (zd 2) (zd 3) fK) (fun hk => iv ((tJ l).1) ((tJ l).2) _ (fun _ => qd _)) rfl <|
    ah) fun fa fw bs hv ap z q ow => ?_
  have s2 := bg bs s2; have s7 := zh hv 4; refine ws ow 0 0 s2 s7 fun fw ow => ?_; refine wt hK2 ?_; refine wp_ret ?_; refine rs3 s2 (ow.box 0 rfl) q ?_; exact ⟨rfl, ow.kept⟩
theorem jO (A : Option Addr) (cap : Nat) (l : List Int) (w : World) (hr : Row w A l) (h64 : All64 l) (hl : l.length ≤ 1000000) :
    Calls Tryz.prog 96 #[.slice A l.length cap] w fun e w' => e = .returned (al (if l = [] then aW 1 else mL (dT l))) ∧ Kept w w' := by
  go_enter Tryz.func96, Tryz.ntmps96
  refine rgx [bJ w.heap.size (.cells #[.int .u8 0, .int .i64 0, .string ⟨[].toArray⟩] 25 (0, 0))] 1 12 rfl rfl (Own.start w) (
    uq4 <|
    ah) fun fa fw bs hv ap z q ov => ?_
  have s0 := bs.get 0 rfl rfl; obtain ⟨gb1, s2, bgb1, hgb1⟩ := zn hv 0; have ov := ov.hc (Own.start w) bgb1 hgb1; have ow := ov; refine sq fun hK2 => ?_
  refine rgx [yV _, yV _, yV _] 3 12 z q ow (
    um s0 rfl <|
    ua (rle Tryz.underlying54 (zd 0)) rfl <|
    ua (req (zd 1) zc) rfl <|
    ah) fun fa fw bs hv ap z q ow => ?_
  obtain ⟨s0, s2⟩ := b2 bs s0 s2; have s5 := zh hv 2
  by_cases hc1 : ((l.length : Nat) : Int) = (0 : Int)
  ·refine ct s5 ((decide_eq_true_iff).2 hc1) ?_
   refine sq fun hK4 => ?_
   refine ro [yV (al (aW 1))] 1 12 z q ow (
     uc (rc1 zc cD) (fun hk => cj 1 _) rfl <|
     ah) fun fa fw bs hv ap z q ow => ?_
   obtain ⟨s0, s2⟩ := b2 bs s0 s2; have s6 := zh hv 0; refine ws ow 0 0 s2 s6 fun fw ow => ?_; refine wt hK4 ?_; refine wp_ret ?_; refine ao ?_; refine rs3 s2 (ow.box 0 rfl) q ?_; exact ⟨congrArg (fun v => Ending.returned (al v)) (by rw [if_pos (show l = [] from List.eq_nil_of_length_eq_zero (by omega))]), ow.kept⟩
  refine cf s5 (decide_eq_true_iff) hc1 ?_; have hne := hc1; refine wp_skip ?_; refine tn hK2 ?_; refine sq fun hK5 => ?_
  refine ro [yV _, yV (.tuple #[.int .i64 ((dT l).1), .bool ((dT l).2)]), yV _, yV _, yV (al (mL ((dT l).1, (dT l).2)))] 5 12 z q ow (
    um s0 rfl <|
    uc (rc1 (zd 0) kW) (fun hk => rH A cap l _ (Row.kept16 hr (ow.keep hk).kept) h64 (by omega)) rfl <|
    ua (rex (zd 1)) rfl <|
    ua (rex (zd 1)) rfl <|
    uc (rc2 (zd 2) (zd 3) fK) (fun hk => iv ((dT l).1) ((dT l).2) _ (fun _ => rI l)) rfl <|
    ah) fun fa fw bs hv ap z q ow => ?_
  have s2 := bg bs s2; have s11 := zh hv 4; refine ws ow 0 0 s2 s11 fun fw ow => ?_; refine wt hK5 ?_; refine wp_ret ?_; refine rs3 s2 (ow.box 0 rfl) q ?_; exact ⟨congrArg (fun v => Ending.returned (al v)) (by rw [if_neg (fun c => hne (by rw [c]; rfl))]), ow.kept⟩
theorem mp (A : Option Addr) (cap : Nat) (l : List Int) (w : World) (hr : Row w A l) (h64 : All64 l) (hl : l.length ≤ 1000000) :
    Calls Tryz.prog 97 #[.slice A l.length cap] w fun e w' => e = .returned (al (if l = [] then aK 0 else aK (fH l))) ∧ Kept w w' := by
  go_enter Tryz.func97, Tryz.ntmps97
  refine rgx [bJ w.heap.size (.cells #[.int .u8 0, .int .i64 0, .string ⟨[].toArray⟩] 25 (0, 0))] 1 10 rfl rfl (Own.start w) (
    uq4 <|
    ah) fun fa fw bs hv ap z q ov => ?_
  have s0 := bs.get 0 rfl rfl; obtain ⟨gb1, s2, bgb1, hgb1⟩ := zn hv 0; have ov := ov.hc (Own.start w) bgb1 hgb1; have ow := ov; refine sq fun hK2 => ?_
  refine rgx [yV _, yV _, yV _] 3 10 z q ow (
    um s0 rfl <|
    ua (rle Tryz.underlying54 (zd 0)) rfl <|
    ua (req (zd 1) zc) rfl <|
    ah) fun fa fw bs hv ap z q ow => ?_
  obtain ⟨s0, s2⟩ := b2 bs s0 s2; have s5 := zh hv 2
  by_cases hc1 : ((l.length : Nat) : Int) = (0 : Int)
  ·refine ct s5 ((decide_eq_true_iff).2 hc1) ?_
   refine sq fun hK4 => ?_
   refine ro [yV (al (aK (0 * 10000)))] 1 10 z q ow (
     uc (rc1 zc cC) (fun hk => dn 0 _ (by omega) (by omega)) rfl <|
     ah) fun fa fw bs hv ap z q ow => ?_
   obtain ⟨s0, s2⟩ := b2 bs s0 s2; have s6 := zh hv 0; refine ws ow 0 0 s2 s6 fun fw ow => ?_; refine wt hK4 ?_; refine wp_ret ?_; refine ao ?_; refine rs3 s2 (ow.box 0 rfl) q ?_; exact ⟨congrArg (fun v => Ending.returned (al v)) (by rw [if_pos (show l = [] from List.eq_nil_of_length_eq_zero (by omega))]; rfl), ow.kept⟩
  refine cf s5 (decide_eq_true_iff) hc1 ?_; have hne := hc1; refine wp_skip ?_; refine tn hK2 ?_; refine sq fun hK5 => ?_
  refine ro [yV _, yV (.int .i64 (fH l)), yV (al (aK (fH l)))] 3 10 z q ow (
    um s0 rfl <|
    uc (rc1 (zd 0) el) (fun hk => yr A cap l _ (Row.kept16 hr (ow.keep hk).kept) (by omega) hl) rfl <|
    uc (rc1 (zd 1) cS) (fun hk => cY (fH l) _ (kU h64 (fun c => hne (by rw [c]; rfl))).1 (kU h64 (fun c => hne (by rw [c]; rfl))).2) rfl <|
    ah) fun fa fw bs hv ap z q ow => ?_
  have s2 := bg bs s2; have s9 := zh hv 2; refine ws ow 0 0 s2 s9 fun fw ow => ?_; refine wt hK5 ?_; refine wp_ret ?_; refine rs3 s2 (ow.box 0 rfl) q ?_; exact ⟨congrArg (fun v => Ending.returned (al v)) (by rw [if_neg (fun c => hne (by rw [c]; rfl))]), ow.kept⟩
theorem iX (A : Option Addr) (cap : Nat) (l : List Int) (w : World) (hr : Row w A l) (h64 : All64 l) (hl : l.length ≤ 1000000) :
    Calls Tryz.prog 98 #[.slice A l.length cap] w fun e w' => e = .returned (al (if l = [] then aK 0 else aK (fI l))) ∧ Kept w w' := by
  go_enter Tryz.func98, Tryz.ntmps98
  refine rgx [bJ w.heap.size (.cells #[.int .u8 0, .int .i64 0, .string ⟨[].toArray⟩] 25 (0, 0))] 1 10 rfl rfl (Own.start w) (
    uq4 <|
    ah) fun fa fw bs hv ap z q ov => ?_
  have s0 := bs.get 0 rfl rfl; obtain ⟨gb1, s2, bgb1, hgb1⟩ := zn hv 0; have ov := ov.hc (Own.start w) bgb1 hgb1; have ow := ov; refine sq fun hK2 => ?_
  refine rgx [yV _, yV _, yV _] 3 10 z q ow (
    um s0 rfl <|
    ua (rle Tryz.underlying54 (zd 0)) rfl <|
    ua (req (zd 1) zc) rfl <|
    ah) fun fa fw bs hv ap z q ow => ?_
  obtain ⟨s0, s2⟩ := b2 bs s0 s2; have s5 := zh hv 2
  by_cases hc1 : ((l.length : Nat) : Int) = (0 : Int)
  ·refine ct s5 ((decide_eq_true_iff).2 hc1) ?_
   refine sq fun hK4 => ?_
   refine ro [yV (al (aK (0 * 10000)))] 1 10 z q ow (
     uc (rc1 zc cC) (fun hk => dn 0 _ (by omega) (by omega)) rfl <|
     ah) fun fa fw bs hv ap z q ow => ?_
   obtain ⟨s0, s2⟩ := b2 bs s0 s2; have s6 := zh hv 0; refine ws ow 0 0 s2 s6 fun fw ow => ?_; refine wt hK4 ?_; refine wp_ret ?_; refine ao ?_; refine rs3 s2 (ow.box 0 rfl) q ?_; exact ⟨congrArg (fun v => Ending.returned (al v)) (by rw [if_pos (show l = [] from List.eq_nil_of_length_eq_zero (by omega))]; rfl), ow.kept⟩
  refine cf s5 (decide_eq_true_iff) hc1 ?_; have hne := hc1; refine wp_skip ?_; refine tn hK2 ?_; refine sq fun hK5 => ?_
  refine ro [yV _, yV (.int .i64 (fI l)), yV (al (aK (fI l)))] 3 10 z q ow (
    um s0 rfl <|
    uc (rc1 (zd 0) ei) (fun hk => yt A cap l _ (Row.kept16 hr (ow.keep hk).kept) (by omega) hl) rfl <|
    uc (rc1 (zd 1) cS) (fun hk => cY (fI l) _ (kV h64 (fun c => hne (by rw [c]; rfl))).1 (kV h64 (fun c => hne (by rw [c]; rfl))).2) rfl <|
    ah) fun fa fw bs hv ap z q ow => ?_
  have s2 := bg bs s2; have s9 := zh hv 2; refine ws ow 0 0 s2 s9 fun fw ow => ?_; refine wt hK5 ?_; refine wp_ret ?_; refine rs3 s2 (ow.box 0 rfl) q ?_; exact ⟨congrArg (fun v => Ending.returned (al v)) (by rw [if_neg (fun c => hne (by rw [c]; rfl))]), ow.kept⟩
theorem oK (A : Option Addr) (cap : Nat) (l : List Int) (w : World) (hr : Row w A l) (h64 : All64 l) (hl : l.length ≤ 1000000) (hc : l.length ≤ cap) :
    Calls Tryz.prog 95 #[.slice A l.length cap] w fun e w' => e = .returned (al (if l = [] then aK 0 else mL (gm (l.headD 0) l.tail))) ∧ Kept w w' := by
  go_enter Tryz.func95, Tryz.ntmps95
  refine rgx [bJ w.heap.size (.cells #[.int .u8 0, .int .i64 0, .string ⟨[].toArray⟩] 25 (0, 0))] 1 33 rfl rfl (Own.start w) (
    uq4 <|
    ah) fun fa fw bs hv ap z q ov => ?_
  have s0 := bs.get 0 rfl rfl; obtain ⟨gb1, s2, bgb1, hgb1⟩ := zn hv 0; have ov := ov.hc (Own.start w) bgb1 hgb1; have ow := ov; refine sq fun hK2 => ?_
  refine rgx [yV _, yV _, yV _] 3 33 z q ow (
    um s0 rfl <|
    ua (rle Tryz.underlying54 (zd 0)) rfl <|
    ua (req (zd 1) zc) rfl <|
    ah) fun fa fw bs hv ap z q ow => ?_
  obtain ⟨s0, s2⟩ := b2 bs s0 s2; have s9 := zh hv 2
  by_cases hc1 : ((l.length : Nat) : Int) = (0 : Int)
  ·refine ct s9 ((decide_eq_true_iff).2 hc1) ?_
   refine sq fun hK4 => ?_
   refine ro [yV (al (aK (0 * 10000)))] 1 33 z q ow (
     uc (rc1 zc cC) (fun hk => dn 0 _ (by omega) (by omega)) rfl <|
     ah) fun fa fw bs hv ap z q ow => ?_
   obtain ⟨s0, s2⟩ := b2 bs s0 s2; have s10 := zh hv 0; refine ws ow 0 0 s2 s10 fun fw ow => ?_; refine wt hK4 ?_; refine wp_ret ?_; refine ao ?_; refine rs3 s2 (ow.box 0 rfl) q ?_; exact ⟨congrArg (fun v => Ending.returned (al v)) (by rw [if_pos (show l = [] from List.eq_nil_of_length_eq_zero (by omega))]; rfl), ow.kept⟩
  refine cf s9 (decide_eq_true_iff) hc1 ?_; have hne := hc1; obtain ⟨b0, o0, hA0, _⟩ := hr 0 (by omega); obtain ⟨o1, ho1⟩ : ∃ o1, o1 = (if cap = 1 then o0 else o0 + 1) := ⟨_, rfl⟩; have ho2 : 1 < l.length → o1 = o0 + 1 := fun h => by rw [ho1, if_neg (by omega)]
  refine wp_skip ?_; refine tn hK2 ?_
  refine rgx [yV _, yV _, yV _, yV _, yV _] 5 33 z q ow (
    um s0 rfl <|
    aS (fun hk bs hd => ix (k := 0) rfl hA0 (dp hd 0 rfl) rfl (by omega)) rfl <|
    aS (fun hk bs hd => Cq rfl (by kernel_rfl) (dp hd 1 rfl) (Row.kept16 hr (ow.keep hk).kept) hA0 (by omega)) rfl <|
    uq3 2 rfl rfl <|
    uq1 rfl rfl rfl <|
    ah) fun fa fw bs hv ap z q ow => ?_
  obtain ⟨s0, s2⟩ := b2 bs s0 s2; have s3 := zh hv 3; have s4 := zh hv 4; refine sq fun hK6 => ?_
  refine rgx [yV _, yV _, yV _, yV _] 4 33 z q ow (
    um s0 rfl <|
    aS (fun hk bs hd => Cr rfl hA0 ho1 (dp hd 0 rfl) (by omega) hc) rfl <|
    ua (rle Tryz.underlying54 (zd 1)) rfl <|
    ua (rmo zc) rfl <|
    ah) fun fa fw bs hv ap z q ow => ?_
  obtain ⟨s2, s3, s4⟩ := b3 bs s2 s3 s4; have s15 := zh hv 1; have s16 := zh hv 2; have s17 := zh hv 3; refine wp_block ?_; refine bc (fun (k : Nat) fr u => ∃ (x : Int), (k ≤ l.length - 1) ∧ (gm (l.headD 0) l.tail = gm x (l.tail.drop k)) ∧ (i64 x) ∧ fr.tmps.size = 33 ∧ fr.defers = [] ∧ Own w [Th.obj gb1 (.cells #[.int .u8 0, .int .i64 0, .string ⟨[].toArray⟩] 25 (0, 0))] u ∧ fr.eval (.tmp 2) = .pointer (some ⟨gb1, 0, none⟩) ∧ fr.eval (.tmp 15) = .slice (some ⟨b0, o1, none⟩) (l.length - 1) (cap - 1) ∧ fr.eval (.tmp 16) = .int .i64 (((l.length - 1) : Nat) : Int) ∧ fr.eval (.tmp 3) = .int .i64 x ∧ fr.eval (.tmp 17) = .int .i64 (k : Int)) (fun k => l.length - 1 - k) 0 ⟨(l.getD 0 0), (Nat.zero_le _), (by rw [List.drop_zero, tc]), (h64 _ (fJ (by omega))), z, q, ow, s2, s15, s16, s3, s17⟩ (fun k b_ u_ hI => ?_)
  revert b_ u_; intro fa fw hI
  obtain ⟨x, hk0, hp, hx, z, q, ow, s2, s15, s16, s3, s17⟩ := hI
  refine rgx [yV _] 1 33 z q ow (
    ua (rlt (zt s17) (zt s16)) rfl <|
    ah) fun fa fw bs hv ap z q ow => ?_
  obtain ⟨s2, s15, s16, s3, s17⟩ := b5 bs s2 s15 s16 s3 s17; have s18 := zh hv 0; refine sq fun hK9 => ?_
  by_cases hc2 : (k : Int) < (((l.length - 1) : Nat) : Int)
  ·refine ct s18 ((decide_eq_true_iff).2 hc2) ?_
   refine wp_skip ?_; refine tn hK9 ?_; refine sq fun hK10 => ?_; refine wp_block ?_; refine sq fun hK11 => ?_; have hlt : k + 1 < l.length := by omega
   have hyx : i64 (l.getD (k + 1) 0) := h64 _ (fJ hlt)
   refine ro [yV _, yV _, yV _] 3 33 z q ow (
     aS (fun hk bs hd => ix (k := k) rfl rfl (bg bs s15) (bg bs s17) (by omega)) rfl <|
     aS (fun hk bs hd => Cq (k := k + 1) rfl (by kernel_rfl) (AG (ho2 (by omega)) (dp hd 0 rfl)) (Row.kept16 hr (ow.keep hk).kept) hA0 (by omega)) rfl <|
     uq3 1 rfl rfl <|
     ah) fun fa fw bs hv ap z q ow => ?_
   obtain ⟨s2, s15, s16, s3, s17⟩ := b5 bs s2 s15 s16 s3 s17; have s6 := zh hv 2; refine wt hK11 ?_; refine sq fun hK12 => ?_
   refine ro [yV _, yV _, yV (.tuple #[.int .i64 ((mB x (l.getD (k + 1) 0)).1), .bool ((mB x (l.getD (k + 1) 0)).2)]), yV _, yV _, yV _] 6 33 z q ow (
     um s3 rfl <|
     um s6 rfl <|
     uc (rc2 (zd 0) (zd 1) td) (fun hk => vg (Aq x (l.getD (k + 1) 0) _ hx hyx)) rfl <|
     uq2 2 rfl rfl <|
     ua (rex (zd 3)) rfl <|
     ua (rex (zd 3)) rfl <|
     ah) fun fa fw bs hv ap z q ow => ?_
   obtain ⟨s2, s15, s16, s3, s17⟩ := b5 bs s2 s15 s16 s3 s17; have s25 := zh hv 4; have s26 := zh hv 5; refine ae (v := .int .i64 ((mB x (l.getD (k + 1) 0)).1)) (ag rfl) (aq rfl s25) ?_; refine ae (v := .bool ((mB x (l.getD (k + 1) 0)).2)) (ag rfl) (aq rfl (pb 3 s26 rfl)) ?_; refine gt6 (ab (ab z)) (ac (ac q)) ow 2 (pb 4 (pb 3 s2 rfl) rfl) 15 (pb 4 (pb 3 s15 rfl) rfl) 16 (pb 4 (pb 3 s16 rfl) rfl) 17 (pb 4 (pb 3 s17 rfl) rfl) 3 (pb 4 (af (t := 3) z rfl) rfl) 4 (af (t := 4) (ab z) rfl) fun fa fw z q ow s2 s15 s16 s17 s3 s4 => ?_; refine wt hK12 ?_
   refine rgx [yV _, yV _] 2 33 z q ow (
     um s4 rfl <|
     ua (rno (zd 0)) rfl <|
     ah) fun fa fw bs hv ap z q ow => ?_
   obtain ⟨s2, s15, s16, s17, s3⟩ := b5 bs s2 s15 s16 s17 s3; have s28 := zh hv 1
   by_cases hc3 : ¬ (((mB x (l.getD (k + 1) 0)).2) = true)
   ·refine ct s28 ((dX (Iff.rfl)).2 hc3) ?_
    have hno : (mB x (l.getD (k + 1) 0)).2 = false := by simpa using hc3
    refine sq fun hK14 => ?_
    refine ro [yV (al (aW 3))] 1 33 z q ow (
      uc (rc1 zc cD) (fun hk => cj 3 _) rfl <|
      ah) fun fa fw bs hv ap z q ow => ?_
    obtain ⟨s2, s15, s16, s17, s3⟩ := b5 bs s2 s15 s16 s17 s3; have s29 := zh hv 0; refine ws ow 0 0 s2 s29 fun fw ow => ?_; refine wt hK14 ?_; refine wp_ret ?_; refine aD ?_; refine ao ?_; refine ao ?_; refine aD ?_; refine ao ?_; refine rs3 s2 (ow.box 0 rfl) q ?_; exact ⟨congrArg (fun v => Ending.returned (al v)) (by rw [if_neg (fun c => hne (by rw [c]; rfl)), hp, AF (by omega) hno]), ow.kept⟩
   refine cf s28 (dX (Iff.rfl)) hc3 ?_; have hok : (mB x (l.getD (k + 1) 0)).2 = true := by simpa using hc3
   refine wp_skip ?_; refine bn ?_; refine tn hK10 ?_
   refine ro [yV (.int .i64 ((k + 1 : Nat) : Int))] 1 33 z q ow (
     ua (rad (zt s17) zc) rfl <|
     ah) fun fa fw bs hv ap z q ow => ?_
   obtain ⟨s2, s15, s16, s17, s3⟩ := b5 bs s2 s15 s16 s17 s3; have s30 := zh hv 0; refine ae (v := .int .i64 ((k + 1 : Nat) : Int)) (ag rfl) (ce rfl s30) ?_; refine gp4 z q ow s2 s15 s16 s3 fun fa fw z q ow s2 s15 s16 s3 s17 => ?_; refine bp ?_; exact bK ⟨(k + 1), ⟨((mB x (l.getD (k + 1) 0)).1), (by omega), (hp.trans (AE (by omega) hok)), (xW _ _), z, q, ow, s2, s15, s16, s3, s17⟩, (show l.length - 1 - (k + 1) < l.length - 1 - k by omega)⟩
  refine cf s18 (decide_eq_true_iff) hc2 ?_; refine wp_exit ?_; refine aX ?_; refine aX ?_; refine aP ?_; refine tn hK6 ?_; refine sq fun hK15 => ?_
  refine ro [yV _, yV (al (aK x))] 2 33 z q ow (
    um s3 rfl <|
    uc (rc1 (zd 0) cS) (fun hk => cY x _ (by have := hx.1; omega) (by have := hx.2; omega)) rfl <|
    ah) fun fa fw bs hv ap z q ow => ?_
  have s2 := bg bs s2; have s32 := zh hv 1; refine ws ow 0 0 s2 s32 fun fw ow => ?_; refine wt hK15 ?_; refine wp_ret ?_; refine rs3 s2 (ow.box 0 rfl) q ?_; exact ⟨congrArg (fun v => Ending.returned (al v)) (by rw [if_neg (fun c => hne (by rw [c]; rfl)), hp, yu (by omega)]), ow.kept⟩
theorem mT (fn : Nat) (w : World) :
    Calls Tryz.prog 30 #[.int .u8 fn] w fun e w' => e = .returned (.bool (eR fn)) ∧ Kept w w' := by
  go_enter Tryz.func30, Tryz.ntmps30
  refine rgx [yV _] 1 17 rfl rfl (Own.start w) (
    uq1 rfl rfl rfl <|
    ah) fun fa fw bs hv ap z q ow => ?_
  have s0 := bs.get 0 rfl rfl; have s2 := zh hv 0
  refine rgx [yV _, yV _, yV _, yIf _ (yV _), yIf _ (yV _), yV _, yV _, yIf _ (yV _), yIf _ (yV _), yIf _ (yV _), yIf _ (yV _), yIf _ (yV _), yIf _ (yV _), yV _, yV _] 15 17 z q ow (
    um s0 rfl <|
    ua (rgq (zd 0) zc) rfl <|
    uq2 1 rfl rfl <|
    ui (gd1 2) (rmo (zt s0)) rfl <|
    ui (gd1 2) (rlq (zi 3) zc) rfl <|
    ua (ran (zd 2) (zi 4)) rfl <|
    uq2 5 rfl rfl <|
    ui (gd1 6) (rmo (zt s0)) rfl <|
    ui (gd1 6) (rgq (zi 7) zc) rfl <|
    ui (gd1 6) (rmo (zi 8)) rfl <|
    ui (gd2 9) (rmo (zt s0)) rfl <|
    ui (gd2 9) (rlq (zi 10) zc) rfl <|
    ui (gd1 6) (rai (zi 9) (zi 11)) rfl <|
    ua (ron (zd 6) (zi 12)) rfl <|
    uq3 13 rfl rfl <|
    ah) fun fa fw bs hv ap z q ow => ?_
  have s2 := zh hv 14; refine wp_ret ?_; refine am rfl (ak s2) q ?_; exact ⟨(congrArg (fun b => Ending.returned (.bool b)) (show _ = eR fn by unfold eR; rw [Bool.eq_iff_iff]; simp only [Bool.or_eq_true, Bool.and_eq_true, decide_eq_true_eq]; omega)), ow.kept⟩
theorem tf (fn : Nat) (w : World) :
    Calls Tryz.prog 31 #[.int .u8 fn] w fun e w' => e = .returned (.tuple #[.int .i64 (dU fn).1, .int .i64 (dU fn).2.1, .int .i64 (dU fn).2.2]) ∧ Kept w w' := by
  go_enter Tryz.func31, Tryz.ntmps31
  refine rgx [yV _, yV _, yV _] 3 21 rfl rfl (Own.start w) (
    uq1 rfl rfl rfl <|
    uq1 rfl rfl rfl <|
    uq1 rfl rfl rfl <|
    ah) fun fa fw bs hv ap z q ow => ?_
  have s0 := bs.get 0 rfl rfl; have s2 := zh hv 0; have s3 := zh hv 1; have s4 := zh hv 2; refine sq fun hK2 => ?_
  refine rgx [yV _] 1 21 z q ow (
    um s0 rfl <|
    ah) fun fa fw bs hv ap z q ow => ?_
  obtain ⟨s2, s3, s4⟩ := b3 bs s2 s3 s4; have s5 := zh hv 0; refine wp_block ?_; refine sq fun hK4 => ?_
  refine rgx [yV _, yV _] 2 21 z q ow (
    ua (req (zt s5) zc) rfl <|
    uq3 0 rfl rfl <|
    ah) fun fa fw bs hv ap z q ow => ?_
  obtain ⟨s2, s3, s4, s5⟩ := b4 bs s2 s3 s4 s5; have s6 := zh hv 1
  by_cases hc1 : (fn : Int) = (13 : Int)
  ·refine ct s6 ((decide_eq_true_iff).2 hc1) ?_
   refine wp_skip ?_; refine tn hK4 ?_; refine ct s6 ((decide_eq_true_iff).2 hc1) ?_
   refine rgx [yV _, yV _, yV _] 3 21 z q ow (
     uq1 rfl rfl rfl <|
     uq1 rfl rfl rfl <|
     uq1 rfl rfl rfl <|
     ah) fun fa fw bs hv ap z q ow => ?_
   have s2 := zh hv 0; have s3 := zh hv 1; have s4 := zh hv 2; refine wp_ret ?_; refine aD ?_; refine ao ?_; refine aU (v := .tuple #[.int .i64 1, .int .i64 1, .int .i64 0]) rfl (.cons (ak s2) (.cons (ak s3) (.cons (ak s4) .nil))) rfl q ?_; exact ⟨(congrArg (fun t : Int × Int × Int => Ending.returned (.tuple #[.int .i64 t.1, .int .i64 t.2.1, .int .i64 t.2.2])) (show (1, 1, 0) = dU fn by unfold dU; (repeat' split) <;> first | rfl | omega)), ow.kept⟩
  refine cf s6 (decide_eq_true_iff) hc1 ?_
  refine rgx [yV _, yV _] 2 21 z q ow (
    ua (req (zt s5) zc) rfl <|
    uq3 0 rfl rfl <|
    ah) fun fa fw bs hv ap z q ow => ?_
  obtain ⟨s2, s3, s4, s5⟩ := b4 bs s2 s3 s4 s5; have s6 := zh hv 1
  by_cases hc2 : (fn : Int) = (46 : Int)
  ·refine ct s6 ((decide_eq_true_iff).2 hc2) ?_
   refine wp_skip ?_; refine tn hK4 ?_; refine ct s6 ((decide_eq_true_iff).2 hc2) ?_
   refine rgx [yV _, yV _, yV _] 3 21 z q ow (
     uq1 rfl rfl rfl <|
     uq1 rfl rfl rfl <|
     uq1 rfl rfl rfl <|
     ah) fun fa fw bs hv ap z q ow => ?_
   have s2 := zh hv 0; have s3 := zh hv 1; have s4 := zh hv 2; refine wp_ret ?_; refine aD ?_; refine ao ?_; refine aU (v := .tuple #[.int .i64 1, .int .i64 1, .int .i64 0]) rfl (.cons (ak s2) (.cons (ak s3) (.cons (ak s4) .nil))) rfl q ?_; exact ⟨(congrArg (fun t : Int × Int × Int => Ending.returned (.tuple #[.int .i64 t.1, .int .i64 t.2.1, .int .i64 t.2.2])) (show (1, 1, 0) = dU fn by unfold dU; (repeat' split) <;> first | rfl | omega)), ow.kept⟩
  refine cf s6 (decide_eq_true_iff) hc2 ?_
  refine rgx [yV _, yV _] 2 21 z q ow (
    ua (req (zt s5) zc) rfl <|
    uq3 0 rfl rfl <|
    ah) fun fa fw bs hv ap z q ow => ?_
  obtain ⟨s2, s3, s4, s5⟩ := b4 bs s2 s3 s4 s5; have s6 := zh hv 1
  by_cases hc3 : (fn : Int) = (47 : Int)
  ·refine ct s6 ((decide_eq_true_iff).2 hc3) ?_
   refine wp_skip ?_; refine tn hK4 ?_; refine ct s6 ((decide_eq_true_iff).2 hc3) ?_
   refine rgx [yV _, yV _, yV _] 3 21 z q ow (
     uq1 rfl rfl rfl <|
     uq1 rfl rfl rfl <|
     uq1 rfl rfl rfl <|
     ah) fun fa fw bs hv ap z q ow => ?_
   have s2 := zh hv 0; have s3 := zh hv 1; have s4 := zh hv 2; refine wp_ret ?_; refine aD ?_; refine ao ?_; refine aU (v := .tuple #[.int .i64 1, .int .i64 1, .int .i64 0]) rfl (.cons (ak s2) (.cons (ak s3) (.cons (ak s4) .nil))) rfl q ?_; exact ⟨(congrArg (fun t : Int × Int × Int => Ending.returned (.tuple #[.int .i64 t.1, .int .i64 t.2.1, .int .i64 t.2.2])) (show (1, 1, 0) = dU fn by unfold dU; (repeat' split) <;> first | rfl | omega)), ow.kept⟩
  refine cf s6 (decide_eq_true_iff) hc3 ?_
  refine rgx [yV _, yV _] 2 21 z q ow (
    ua (req (zt s5) zc) rfl <|
    uq3 0 rfl rfl <|
    ah) fun fa fw bs hv ap z q ow => ?_
  obtain ⟨s2, s3, s4, s5⟩ := b4 bs s2 s3 s4 s5; have s6 := zh hv 1
  by_cases hc4 : (fn : Int) = (48 : Int)
  ·refine ct s6 ((decide_eq_true_iff).2 hc4) ?_
   refine wp_skip ?_; refine tn hK4 ?_; refine ct s6 ((decide_eq_true_iff).2 hc4) ?_
   refine rgx [yV _, yV _, yV _] 3 21 z q ow (
     uq1 rfl rfl rfl <|
     uq1 rfl rfl rfl <|
     uq1 rfl rfl rfl <|
     ah) fun fa fw bs hv ap z q ow => ?_
   have s2 := zh hv 0; have s3 := zh hv 1; have s4 := zh hv 2; refine wp_ret ?_; refine aD ?_; refine ao ?_; refine aU (v := .tuple #[.int .i64 1, .int .i64 1, .int .i64 0]) rfl (.cons (ak s2) (.cons (ak s3) (.cons (ak s4) .nil))) rfl q ?_; exact ⟨(congrArg (fun t : Int × Int × Int => Ending.returned (.tuple #[.int .i64 t.1, .int .i64 t.2.1, .int .i64 t.2.2])) (show (1, 1, 0) = dU fn by unfold dU; (repeat' split) <;> first | rfl | omega)), ow.kept⟩
  refine cf s6 (decide_eq_true_iff) hc4 ?_
  refine rgx [yV _, yV _] 2 21 z q ow (
    ua (req (zt s5) zc) rfl <|
    uq3 0 rfl rfl <|
    ah) fun fa fw bs hv ap z q ow => ?_
  obtain ⟨s2, s3, s4, s5⟩ := b4 bs s2 s3 s4 s5; have s6 := zh hv 1
  by_cases hc5 : (fn : Int) = (49 : Int)
  ·refine ct s6 ((decide_eq_true_iff).2 hc5) ?_
   refine wp_skip ?_; refine tn hK4 ?_; refine ct s6 ((decide_eq_true_iff).2 hc5) ?_
   refine rgx [yV _, yV _, yV _] 3 21 z q ow (
     uq1 rfl rfl rfl <|
     uq1 rfl rfl rfl <|
     uq1 rfl rfl rfl <|
     ah) fun fa fw bs hv ap z q ow => ?_
   have s2 := zh hv 0; have s3 := zh hv 1; have s4 := zh hv 2; refine wp_ret ?_; refine aD ?_; refine ao ?_; refine aU (v := .tuple #[.int .i64 1, .int .i64 1, .int .i64 0]) rfl (.cons (ak s2) (.cons (ak s3) (.cons (ak s4) .nil))) rfl q ?_; exact ⟨(congrArg (fun t : Int × Int × Int => Ending.returned (.tuple #[.int .i64 t.1, .int .i64 t.2.1, .int .i64 t.2.2])) (show (1, 1, 0) = dU fn by unfold dU; (repeat' split) <;> first | rfl | omega)), ow.kept⟩
  refine cf s6 (decide_eq_true_iff) hc5 ?_
  refine ro [yV _, yV _] 2 21 z q ow (
    ua (req (zt s5) zc) rfl <|
    uq3 0 rfl rfl <|
    ah) fun fa fw bs hv ap z q ow => ?_
  obtain ⟨s2, s3, s4, s5⟩ := b4 bs s2 s3 s4 s5; have s6 := zh hv 1; refine wt hK4 ?_
  by_cases hc6 : (fn : Int) = (50 : Int)
  ·refine ct s6 ((decide_eq_true_iff).2 hc6) ?_
   refine rgx [yV _, yV _, yV _] 3 21 z q ow (
     uq1 rfl rfl rfl <|
     uq1 rfl rfl rfl <|
     uq1 rfl rfl rfl <|
     ah) fun fa fw bs hv ap z q ow => ?_
   have s2 := zh hv 0; have s3 := zh hv 1; have s4 := zh hv 2; refine wp_ret ?_; refine aD ?_; refine ao ?_; refine aU (v := .tuple #[.int .i64 1, .int .i64 1, .int .i64 0]) rfl (.cons (ak s2) (.cons (ak s3) (.cons (ak s4) .nil))) rfl q ?_; exact ⟨(congrArg (fun t : Int × Int × Int => Ending.returned (.tuple #[.int .i64 t.1, .int .i64 t.2.1, .int .i64 t.2.2])) (show (1, 1, 0) = dU fn by unfold dU; (repeat' split) <;> first | rfl | omega)), ow.kept⟩
  refine cf s6 (decide_eq_true_iff) hc6 ?_; refine sq fun hK16 => ?_
  refine rgx [yV _, yV _] 2 21 z q ow (
    ua (req (zt s5) zc) rfl <|
    uq3 0 rfl rfl <|
    ah) fun fa fw bs hv ap z q ow => ?_
  obtain ⟨s2, s3, s4, s5⟩ := b4 bs s2 s3 s4 s5; have s13 := zh hv 1
  by_cases hc7 : (fn : Int) = (18 : Int)
  ·refine ct s13 ((decide_eq_true_iff).2 hc7) ?_
   refine wp_skip ?_; refine tn hK16 ?_; refine ct s13 ((decide_eq_true_iff).2 hc7) ?_
   refine rgx [yV _, yV _, yV _] 3 21 z q ow (
     uq1 rfl rfl rfl <|
     uq1 rfl rfl rfl <|
     uq1 rfl rfl rfl <|
     ah) fun fa fw bs hv ap z q ow => ?_
   have s2 := zh hv 0; have s3 := zh hv 1; have s4 := zh hv 2; refine wp_ret ?_; refine aD ?_; refine ao ?_; refine aU (v := .tuple #[.int .i64 2, .int .i64 2, .int .i64 0]) rfl (.cons (ak s2) (.cons (ak s3) (.cons (ak s4) .nil))) rfl q ?_; exact ⟨(congrArg (fun t : Int × Int × Int => Ending.returned (.tuple #[.int .i64 t.1, .int .i64 t.2.1, .int .i64 t.2.2])) (show (2, 2, 0) = dU fn by unfold dU; (repeat' split) <;> first | rfl | omega)), ow.kept⟩
  refine cf s13 (decide_eq_true_iff) hc7 ?_
  refine rgx [yV _, yV _] 2 21 z q ow (
    ua (req (zt s5) zc) rfl <|
    uq3 0 rfl rfl <|
    ah) fun fa fw bs hv ap z q ow => ?_
  obtain ⟨s2, s3, s4, s5⟩ := b4 bs s2 s3 s4 s5; have s13 := zh hv 1
  by_cases hc8 : (fn : Int) = (19 : Int)
  ·refine ct s13 ((decide_eq_true_iff).2 hc8) ?_
   refine wp_skip ?_; refine tn hK16 ?_; refine ct s13 ((decide_eq_true_iff).2 hc8) ?_
   refine rgx [yV _, yV _, yV _] 3 21 z q ow (
     uq1 rfl rfl rfl <|
     uq1 rfl rfl rfl <|
     uq1 rfl rfl rfl <|
     ah) fun fa fw bs hv ap z q ow => ?_
   have s2 := zh hv 0; have s3 := zh hv 1; have s4 := zh hv 2; refine wp_ret ?_; refine aD ?_; refine ao ?_; refine aU (v := .tuple #[.int .i64 2, .int .i64 2, .int .i64 0]) rfl (.cons (ak s2) (.cons (ak s3) (.cons (ak s4) .nil))) rfl q ?_; exact ⟨(congrArg (fun t : Int × Int × Int => Ending.returned (.tuple #[.int .i64 t.1, .int .i64 t.2.1, .int .i64 t.2.2])) (show (2, 2, 0) = dU fn by unfold dU; (repeat' split) <;> first | rfl | omega)), ow.kept⟩
  refine cf s13 (decide_eq_true_iff) hc8 ?_
  refine ro [yV _, yV _] 2 21 z q ow (
    ua (req (zt s5) zc) rfl <|
    uq3 0 rfl rfl <|
    ah) fun fa fw bs hv ap z q ow => ?_
  obtain ⟨s2, s3, s4, s5⟩ := b4 bs s2 s3 s4 s5; have s13 := zh hv 1; refine wt hK16 ?_
  by_cases hc9 : (fn : Int) = (45 : Int)
  ·refine ct s13 ((decide_eq_true_iff).2 hc9) ?_
   refine rgx [yV _, yV _, yV _] 3 21 z q ow (
     uq1 rfl rfl rfl <|
     uq1 rfl rfl rfl <|
     uq1 rfl rfl rfl <|
     ah) fun fa fw bs hv ap z q ow => ?_
   have s2 := zh hv 0; have s3 := zh hv 1; have s4 := zh hv 2; refine wp_ret ?_; refine aD ?_; refine ao ?_; refine aU (v := .tuple #[.int .i64 2, .int .i64 2, .int .i64 0]) rfl (.cons (ak s2) (.cons (ak s3) (.cons (ak s4) .nil))) rfl q ?_; exact ⟨(congrArg (fun t : Int × Int × Int => Ending.returned (.tuple #[.int .i64 t.1, .int .i64 t.2.1, .int .i64 t.2.2])) (show (2, 2, 0) = dU fn by unfold dU; (repeat' split) <;> first | rfl | omega)), ow.kept⟩
  refine cf s13 (decide_eq_true_iff) hc9 ?_
  refine rgx [yV _, yV _] 2 21 z q ow (
    ua (req (zt s5) zc) rfl <|
    uq3 0 rfl rfl <|
    ah) fun fa fw bs hv ap z q ow => ?_
  obtain ⟨s2, s3, s4, s5⟩ := b4 bs s2 s3 s4 s5; have s17 := zh hv 1
  by_cases hc10 : (fn : Int) = (43 : Int)
  ·refine ct s17 ((decide_eq_true_iff).2 hc10) ?_
   refine rgx [yV _, yV _, yV _] 3 21 z q ow (
     uq1 rfl rfl rfl <|
     uq1 rfl rfl rfl <|
     uq1 rfl rfl rfl <|
     ah) fun fa fw bs hv ap z q ow => ?_
   have s2 := zh hv 0; have s3 := zh hv 1; have s4 := zh hv 2; refine wp_ret ?_; refine aD ?_; refine ao ?_; refine aU (v := .tuple #[.int .i64 2, .int .i64 3, .int .i64 0]) rfl (.cons (ak s2) (.cons (ak s3) (.cons (ak s4) .nil))) rfl q ?_; exact ⟨(congrArg (fun t : Int × Int × Int => Ending.returned (.tuple #[.int .i64 t.1, .int .i64 t.2.1, .int .i64 t.2.2])) (show (2, 3, 0) = dU fn by unfold dU; (repeat' split) <;> first | rfl | omega)), ow.kept⟩
  refine cf s17 (decide_eq_true_iff) hc10 ?_
  refine rgx [yV _, yV _] 2 21 z q ow (
    ua (req (zt s5) zc) rfl <|
    uq3 0 rfl rfl <|
    ah) fun fa fw bs hv ap z q ow => ?_
  obtain ⟨s2, s3, s4⟩ := b3 bs s2 s3 s4; have s19 := zh hv 1
  by_cases hc11 : (fn : Int) = (44 : Int)
  ·refine ct s19 ((decide_eq_true_iff).2 hc11) ?_
   refine rgx [yV _, yV _, yV _] 3 21 z q ow (
     uq1 rfl rfl rfl <|
     uq1 rfl rfl rfl <|
     uq1 rfl rfl rfl <|
     ah) fun fa fw bs hv ap z q ow => ?_
   have s2 := zh hv 0; have s3 := zh hv 1; have s4 := zh hv 2; refine wp_ret ?_; refine aD ?_; refine ao ?_; refine aU (v := .tuple #[.int .i64 2, .int .i64 2, .int .i64 1]) rfl (.cons (ak s2) (.cons (ak s3) (.cons (ak s4) .nil))) rfl q ?_; exact ⟨(congrArg (fun t : Int × Int × Int => Ending.returned (.tuple #[.int .i64 t.1, .int .i64 t.2.1, .int .i64 t.2.2])) (show (2, 2, 1) = dU fn by unfold dU; (repeat' split) <;> first | rfl | omega)), ow.kept⟩
  refine cf s19 (decide_eq_true_iff) hc11 ?_; refine wp_skip ?_; refine bn ?_; refine tn hK2 ?_
  refine rgx [yV _, yV _, yV _] 3 21 z q ow (
    uq1 rfl rfl rfl <|
    uq1 rfl rfl rfl <|
    uq1 rfl rfl rfl <|
    ah) fun fa fw bs hv ap z q ow => ?_
  have s2 := zh hv 0; have s3 := zh hv 1; have s4 := zh hv 2; refine wp_ret ?_; refine aU (v := .tuple #[.int .i64 1, .int .i64 16, .int .i64 (-1)]) rfl (.cons (ak s2) (.cons (ak s3) (.cons (ak s4) .nil))) rfl q ?_; exact ⟨(congrArg (fun t : Int × Int × Int => Ending.returned (.tuple #[.int .i64 t.1, .int .i64 t.2.1, .int .i64 t.2.2])) (show (1, 16, (-1)) = dU fn by unfold dU; (repeat' split) <;> first | rfl | omega)), ow.kept⟩
