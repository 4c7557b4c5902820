/- Layer 16: median, LARGE and SMALL: the program's (printed by wip/mkagg7.py). -/
import Derived.Test.YtbkjdcpfkepheaaGreatDoorVMixAU
import Derived.Test.YtbkjdcpfkepheaaGreatDoorVGColl
set_option maxHeartbeats 4000000
namespace Go.Proofs.YtbkjdcpfkepheaaGreatDoor
section
set_option linter.unusedVariables false
set_option linter.unusedSimpArgs false
open Go.RowKit Lv
set_option maxRecDepth 100000
theorem Cy {x y : Int} (hx : i64 x) (hy : i64 y) : All64 [x, y] := fun z hz => by
  simp only [List.mem_cons, List.not_mem_nil, or_false] at hz
  rcases hz with rfl | rfl
  · exact hx
  · exact hy
theorem num64 {v : Vl} (h : i64 v.n) : i64 (bB v).n := by
  obtain ⟨h1, h2⟩ := h
  by_cases ok : vOk v = true
  · rcases gF ok with rfl | ⟨n, hn, rfl⟩ | rfl | rfl | ⟨t, ht, rfl⟩ | ⟨c, c1, c2, rfl⟩
    · exact ⟨by decide, by decide⟩
    · unfold bB; rw [ok]; exact ⟨h1, h2⟩
    · exact ⟨by decide, by decide⟩
    · exact ⟨by decide, by decide⟩
    · unfold bB; rw [ok]; exact (mh t).1
    · unfold bB; rw [ok]; exact ⟨h1, h2⟩
  · unfold bB; rw [if_pos (by simpa using ok)]; exact ⟨by decide, by decide⟩
theorem qv {l : List Ar} (h : ∀ a ∈ l, bI a) : All64 ((aF l).map Vl.n) := fun x hx => by
  obtain ⟨v, hv, rfl⟩ := List.mem_map.1 hx; obtain ⟨L, hL, hvL⟩ := List.mem_flatten.1 hv; obtain ⟨a, ha, rfl⟩ := List.mem_map.1 hL; unfold rq at hvL
  split at hvL
  · obtain ⟨c, hc, rfl⟩ := List.mem_map.1 (List.mem_filter.1 hvL).1
    exact ((h a ha).2 c hc).1
  · rw [List.mem_singleton.1 hvL]
    exact num64 (h a ha).1.1
theorem AV (a : Ar) : (aF [a]).length ≤ a.l.length + 1 := by
  rw [rE, show aF [] = [] from rfl, List.append_nil]; unfold rq
  split
  · have := List.length_filter_le (fun v : Vl => decide (v.k = 1 ∨ v.k = 4)) (a.l.map Cl.v)
    rw [List.length_map] at this
    omega
  · exact Nat.succ_le_succ (Nat.zero_le _)
theorem ArgsAt.take1 {w : World} {A : Option Addr} {a b : Ar} (h : ArgsAt w A [a, b]) : ArgsAt w A [a] := by
  obtain ⟨L, e, r, c⟩ := h; refine ⟨L.take 1, by rw [List.map_take, e]; rfl, r.take 1, fun p hp => c p (List.mem_of_mem_take hp)⟩
theorem wC {a : Act} {w : World} {o : Oper} {x : Operand} {A : Option Addr} {b off n cap : Nat} (ho : o.op = .slice 22 x none (some (.const (.int .i64 1))) none) (hA : A = some ⟨b, off, none⟩) (hx : a.eval x = .slice A n cap) (hc : 1 ≤ cap) : (execOp a.eval o).run Tryz.prog w = .ok (.value (.slice A 1 cap)) w := by
  subst hA; have hr := run_underlying (w := w) Tryz.underlying22; have hz : (sizeOf 39).run Tryz.prog w = .ok 9 w := by kernel_rfl
  have c1 : (1 : Int) ≤ (cap : Int) := by omega
  have c2 : ¬ cap = 0 := by omega
  unfold execOp; rw [ho]
  simp only [hx, Option.map_some, Option.map_none, show a.eval (.const (.int .i64 1)) = .int .i64 1 from rfl]
  go_simp
theorem gA {L : List Int} {k : Nat} (h : All64 L) (hk : k < L.length) : i64 (L.getD k 0) := h _ (fJ hk)
theorem lh {l : List Ar} {x : Vl} (h : aN (aF l) = some x) : eJ l = ([], x, false) := by unfold eJ; rw [h]
theorem gB {l : List Ar} (h : aN (aF l) = none) : eJ l = ((aF l).map Vl.n, aG, true) := by unfold eJ; rw [h]
theorem yL {a : Ar} {k x : Vl} {d : Bool} (h : aN (aF [a]) = some x) : eK a k d = x := by
  unfold eK; rw [lh h, if_pos rfl]
theorem wD {k : Vl} (h : (p16 k).2.2 = false) : isE (bB k) = true ∧ (p16 k).2.1 = bB k := by
  unfold p16 at *
  split at h
  · rename_i e; rw [if_pos e]; exact ⟨e, rfl⟩
  · cases h
theorem jC {k : Vl} (h : (p16 k).2.2 = true) : isE (bB k) = false ∧ (p16 k).1 = mM k := by
  unfold p16 at *
  split at h
  · cases h
  · rename_i e; rw [if_neg e]; exact ⟨by simpa using e, rfl⟩
theorem yM {a : Ar} {k : Vl} {d : Bool} (h : aN (aF [a]) = none) (p : (p16 k).2.2 = false) : (p16 k).2.1 = eK a k d := by
  obtain ⟨h1, h2⟩ := wD p; unfold eK; rw [gB h, if_neg (fun c => by cases c), if_pos h1, h2]
theorem rank_out {a : Ar} {k : Vl} {d : Bool} {L : List Int} (h : aN (aF [a]) = none) (p : (p16 k).2.2 = true) (hL : L = (aF [a]).map Vl.n) (o : ((p16 k).1 : Int) < (1 : Int) ∨ ((L.length : Nat) : Int) < ((p16 k).1 : Int)) : aW 3 = eK a k d := by
  obtain ⟨h1, h2⟩ := jC p; unfold eK; rw [gB h, if_neg (fun c => by cases c), if_neg (by rw [h1]; decide), ← hL, if_pos (by rw [← h2]; exact o)]
theorem wE {a : Ar} {k : Vl} {d e : Bool} {L : List Int} {m : Nat} (h : aN (aF [a]) = none) (p : (p16 k).2.2 = true) (hL : L = (aF [a]).map Vl.n) (o : ¬ (((p16 k).1 : Int) < (1 : Int) ∨ ((L.length : Nat) : Int) < ((p16 k).1 : Int))) (hm : (p16 k).1 = (m : Int) + 1) (hd : d = e) : eK a k d = aK ((if e then (aV L).reverse else aV L).getD m 0) := by
  obtain ⟨h1, h2⟩ := jC p; subst hd; unfold eK; rw [gB h, if_neg (fun c => by cases c), if_neg (by rw [h1]; decide), ← hL, if_neg (by rw [← h2]; exact o), ← h2, hm, show ((m : Int) + 1 - 1).toNat = m by omega]
theorem eV : En 57 := by intro args w; go_simp
theorem dy : En 100 := by intro args w; go_simp
theorem dC : En 102 := by intro args w; go_simp
theorem cI : En 101 := by intro args w; go_simp
theorem pj (w0 w : World) (T : List Th) (b g cap : Nat) (l : List Int) (ow : Own w0 (Th.row b 2 1 (.slice (some ⟨g, 0, none⟩) l.length cap) l.length (l.map dV) :: T) w) (h0 : 0 < l.length) (h64 : All64 l) (hl : l.length ≤ 1000000) :
    Calls Tryz.prog 99 #[.slice (some ⟨g, 0, none⟩) l.length cap] w fun e w' => e = .returned (al (if l.length % 2 = 1 then aK ((aV l).getD (l.length / 2) 0) else mL (dT [(aV l).getD (l.length / 2 - 1) 0, (aV l).getD (l.length / 2) 0]))) ∧ Own w0 T w' := by
  have hs64 := vR h64; have hsl := aM l; go_enter Tryz.func99, Tryz.ntmps99
  refine rgx [bJ w.heap.size (.cells #[.int .u8 0, .int .i64 0, .string ⟨[].toArray⟩] 25 (0, 0))] 1 36 rfl rfl ow (
    uq4 <|
    ah) fun fa fw bs hv ap z q ov => ?_
  have s0 := bs.get 0 rfl rfl; obtain ⟨gb1, s2, bgb1, hgb1⟩ := zn hv 0; have ov := ov.hc ow bgb1 hgb1; have ow := ov; refine sq fun hK2 => ?_
  refine rgx [yV _, yV _, yV (.bool false)] 3 36 z q ow (
    um s0 rfl <|
    ua (rle Tryz.underlying54 (zd 0)) rfl <|
    ue (req (zd 1) zc) (congrArg Value.bool (by rw [decide_eq_false_iff_not]; omega)) rfl <|
    ah) fun fa fw bs hv ap z q ow => ?_
  obtain ⟨s0, s2⟩ := b2 bs s0 s2; have s6 := zh hv 2; refine wp_cond_false (s6) ?_; refine wp_skip ?_; refine tn hK2 ?_; refine sq fun hK4 => ?_
  refine ro [yV _] 1 36 z q ow (
    um s0 rfl <|
    ah) fun fa fw bs hv ap z q ow => ?_
  obtain ⟨s0, s2⟩ := b2 bs s0 s2; have s8 := zh hv 0; refine aO (ag rfl) (cz (u := .slice (some ⟨g, 0, none⟩) l.length cap) rfl s8 (cI _ _)) ((tg ow (by first | rfl | (simp only [aM, List.length_reverse])) (by first | assumption | (simp only [aM, List.length_reverse]; assumption))).mono ?_); rintro _ fw ⟨rfl, hO⟩; refine ⟨_, rfl, ?_⟩; rcases (rfl : (0 : Nat) = 0) with _
  have ow := hO; refine gt2 (ab z) (ac q) ow 0 (pb 9 s0 rfl) 2 (pb 9 s2 rfl) fun fa fw z q ow s0 s2 => ?_; refine wt hK4 ?_
  refine rgx [yV _, yV _, yV (.int .i64 ((l.length / 2 : Nat) : Int)), yV _] 4 36 z q ow (
    um s0 rfl <|
    ua (rle Tryz.underlying54 (zd 0)) rfl <|
    aE (fun hk bs hd => Dq (Or.inl rfl) rfl (dp hd 1 rfl) rfl (by omega) (by omega) (by omega)) (congrArg (Value.int .i64) (Dy l.length)) rfl <|
    uq3 2 rfl rfl <|
    ah) fun fa fw bs hv ap z q ow => ?_
  obtain ⟨s0, s2⟩ := b2 bs s0 s2; have s3 := zh hv 3; refine sq fun hK6 => ?_
  refine rgx [yV _, yV _, yV (.int .i64 (((l.length) % 2 : Nat) : Int)), yV _] 4 36 z q ow (
    um s0 rfl <|
    ua (rle Tryz.underlying54 (zd 0)) rfl <|
    aS (fun hk bs hd => Dn (Or.inl rfl) rfl (dp hd 1 rfl) rfl (by omega) (by omega)) rfl <|
    ua (req (zd 2) zc) rfl <|
    ah) fun fa fw bs hv ap z q ow => ?_
  obtain ⟨s0, s2, s3⟩ := b3 bs s0 s2 s3; have s16 := zh hv 3
  by_cases hc1 : (((l.length) % 2 : Nat) : Int) = (1 : Int)
  ·refine ct s16 ((decide_eq_true_iff).2 hc1) ?_
   refine sq fun hK8 => ?_
   refine ro [yV _, yV _, yV _, yV _, yV (al (aK ((aV l).getD (l.length / 2) 0)))] 5 36 z q ow (
     um s0 rfl <|
     um s3 rfl <|
     aS (fun hk bs hd => ix (k := (l.length / 2)) rfl rfl (dp hd 0 rfl) (dp hd 1 rfl) (by omega)) rfl <|
     aS (fun hk bs hd => vQ rfl (by kernel_rfl) (dp hd 2 rfl) ((ow.keep hk).row 1 rfl) (by first | omega | (simp only [aM, List.length_reverse]; omega))) rfl <|
     uc (rc1 (zd 3) cS) (fun hk => cY ((aV l).getD (l.length / 2) 0) _ (hs64 _ (fJ (by omega))).1 (hs64 _ (fJ (by omega))).2) rfl <|
     ah) fun fa fw bs hv ap z q ow => ?_
   obtain ⟨s0, s2, s3⟩ := b3 bs s0 s2 s3; have s21 := zh hv 4; refine ws ow 0 0 s2 s21 fun fw ow => ?_; refine wt hK8 ?_; refine wp_ret ?_; refine ao ?_; refine rs3 s2 (ow.box 0 rfl) q ?_; exact ⟨congrArg (fun v => Ending.returned (al v)) (by rw [if_pos (by omega)]), ow.tail.tail⟩
  refine cf s16 (decide_eq_true_iff) hc1 ?_; refine wp_skip ?_; refine tn hK6 ?_; refine sq fun hK9 => ?_
  refine ro [yV _, yV _, yV (.int .i64 ((l.length / 2 - 1 : Nat) : Int)), yV _, yV _, yV _, yV _, yV _, yV _, bT fw.heap.size 2 (.cells #[.int .i64 ((aV l).getD (l.length / 2 - 1) 0), .int .i64 ((aV l).getD (l.length / 2) 0)] 2 (0, 0)), yV (.tuple #[.int .i64 ((dT [(aV l).getD (l.length / 2 - 1) 0, (aV l).getD (l.length / 2) 0]).1), .bool ((dT [(aV l).getD (l.length / 2 - 1) 0, (aV l).getD (l.length / 2) 0]).2)]), yV _, yV _, yV (al (mL ((dT [(aV l).getD (l.length / 2 - 1) 0, (aV l).getD (l.length / 2) 0]).1, (dT [(aV l).getD (l.length / 2 - 1) 0, (aV l).getD (l.length / 2) 0]).2)))] 14 36 z q ow (
    um s0 rfl <|
    um s3 rfl <|
    ue (rsb (zd 1) zc) (congrArg (Value.int .i64) (by omega)) rfl <|
    aS (fun hk bs hd => ix (k := (l.length / 2 - 1)) rfl rfl (dp hd 0 rfl) (dp hd 2 rfl) (by omega)) rfl <|
    aS (fun hk bs hd => vQ rfl (by kernel_rfl) (dp hd 3 rfl) ((ow.keep hk).row 1 rfl) (by first | omega | (simp only [aM, List.length_reverse]; omega))) rfl <|
    um s0 rfl <|
    um s3 rfl <|
    aS (fun hk bs hd => ix (k := (l.length / 2)) rfl rfl (dp hd 5 rfl) (dp hd 6 rfl) (by omega)) rfl <|
    aS (fun hk bs hd => vQ rfl (by kernel_rfl) (dp hd 7 rfl) ((ow.keep hk).row 1 rfl) (by first | omega | (simp only [aM, List.length_reverse]; omega))) rfl <|
    arm (fun aa ww hk bs hd => by
      have d4 : aa.eval (.tmp 26) = .int .i64 ((aV l).getD (l.length / 2 - 1) 0) := fy hd 4 rfl; have d8 : aa.eval (.tmp 30) = .int .i64 ((aV l).getD (l.length / 2) 0) := fy hd 8 rfl; exact cZ _ (ag rfl) (bU (us := #[(0, .int .i64 ((aV l).getD (l.length / 2 - 1) 0)), (1, .int .i64 ((aV l).getD (l.length / 2) 0))]) (b := .cells #[.int .i64 ((aV l).getD (l.length / 2 - 1) 0), .int .i64 ((aV l).getD (l.length / 2) 0)] 2 (0, 0)) rfl (by simp only [List.map_toArray, List.map_cons, List.map_nil, d4, d8]) (by kernel_rfl)) ⟨_, rfl, hk.size, Go.heap_alloc_new _ _⟩ ((Kept.refl _).alloc _) rfl (Nat.le_refl _)
      ) <|
    arm (fun aa ww hk bs hd => by
      have d9 := dL hd 9 rfl; obtain ⟨g9, e9, _, h9⟩ := d9; exact aB (ag rfl) (cz (u := .slice (some ⟨g9, 0, none⟩) 2 2) rfl e9 (kW _ _)) ((rH (some ⟨g9, 0, none⟩) 2 [(aV l).getD (l.length / 2 - 1) 0, (aV l).getD (l.length / 2) 0] ww (AH h9) (Cy (hs64 _ (fJ (by omega))) (hs64 _ (fJ (by omega)))) (Nat.le_of_ble_eq_true rfl)).mono fun _ _ ⟨he, hk2⟩ => ⟨_, he, rfl, hk2⟩) rfl
      ) <|
    ua (rex (zd 10)) rfl <|
    ua (rex (zd 10)) rfl <|
    uc (rc2 (zd 11) (zd 12) fK) (fun hk => iv ((dT [(aV l).getD (l.length / 2 - 1) 0, (aV l).getD (l.length / 2) 0]).1) ((dT [(aV l).getD (l.length / 2 - 1) 0, (aV l).getD (l.length / 2) 0]).2) _ (fun _ => rI _)) rfl <|
    ah) fun fa fw bs hv ap z q ow => ?_
  have s2 := bg bs s2; have s35 := zh hv 13; refine ws ow 0 0 s2 s35 fun fw ow => ?_; refine wt hK9 ?_; refine wp_ret ?_; refine rs3 s2 (ow.box 0 rfl) q ?_; exact ⟨congrArg (fun v => Ending.returned (al v)) (by rw [if_neg (by omega)]), ow.tail.tail⟩
theorem li (A : Option Addr) (cap : Nat) (a b : Ar) (desc : Bool) (w : World) (mx : Int) (HM : Mx w mx) (hr : ArgsAt w A [a, b]) (ha : bI a) (hb : bI b) (hla : a.l.length ≤ 900000) (hc : 2 ≤ cap) :
    Calls Tryz.prog 64 #[.slice A 2 cap, .bool desc] w fun e w' => e = .returned (al (eK a b.v desc)) ∧ Kept w w' := by
  obtain ⟨b0, o0, S0, z0, hA0, e0, q0, y0⟩ := hr.elem (i := 0) rfl; obtain ⟨b1, o1, S1, z1, hA1, e1, q1, y1⟩ := hr.elem (i := 1) rfl; have hs1 : ∀ x ∈ [a], bI x := fun x hx => by rw [List.mem_singleton.1 hx]; exact ha
  have hl1 : ∀ x ∈ [a], x.l.length ≤ 1000000 := fun x hx => by rw [List.mem_singleton.1 hx]; omega
  have hn1 : (aF [a]).length ≤ 1000000 := by have := AV a; omega
  go_enter Tryz.func64, Tryz.ntmps64
  refine rgx [bJ w.heap.size (.cells #[.int .u8 0, .int .i64 0, .string ⟨[].toArray⟩] 25 (0, 0))] 1 51 rfl rfl (Own.start w) (
    uq4 <|
    ah) fun fa fw bs hv ap z q ov => ?_
  have s0 := bs.get 0 rfl rfl; have s1 := bs.get 1 rfl rfl; obtain ⟨gb1, s4, bgb1, hgb1⟩ := zn hv 0; have ov := ov.hc (Own.start w) bgb1 hgb1; have ow := ov; refine sq fun hK2 => ?_
  refine ro [yV _, yV _] 2 51 z q ow (
    um s0 rfl <|
    aS (fun hk bs hd => wC rfl hA0 (dp hd 0 rfl) (by omega)) rfl <|
    ah) fun fa fw bs hv ap z q ow => ?_
  obtain ⟨s0, s1, s4⟩ := b3 bs s0 s1 s4; have s11 := zh hv 1; refine aO (ag rfl) (cz (u := .slice A 1 cap) rfl s11 (eV _ _)) ((gz A cap [a] _ mx (HM.kept ow.kept) (ArgsAt.take1 (hr.kept ow.kept)) hs1 (by simp) hl1 hn1).mono ?_); rintro _ fw ⟨v, x, b, rfl, hk, hcv⟩; refine ⟨_, rfl, ?_⟩; rcases hcv with ⟨rfl, rfl, hfst⟩ | ⟨rfl, rfl, hfst, hown⟩
  ·skip
   have ow := ow.keep hk; clear hk; refine ae (v := .tuple #[.slice none 0 0, al x, .bool false]) (ag rfl) (ce rfl (af (t := 12) z rfl)) ?_; refine ae (v := .slice none 0 0) (ag rfl) (aR rfl (af (t := 9) (ab z) rfl) rfl) ?_; refine ae (v := al x) (ag rfl) (aR rfl (pb 13 (af (t := 9) (ab z) rfl) rfl) rfl) ?_; refine ae (v := .bool false) (ag rfl) (aR rfl (pb 14 (pb 13 (af (t := 9) (ab z) rfl) rfl) rfl) rfl) ?_; refine eQ ow (ag rfl) (gg (b := .cells #[.int .u8 0, .int .i64 0, .string ⟨[].toArray⟩] 25 (0, 0)) rfl (by kernel_rfl)) fun gb2 fw ow => ?_; refine gt7 (ab (ab (ab (ab (ab (ab z)))))) (ac (ac (ac (ac (ac (ac q)))))) ow 0 (pb 6 (pb 15 (pb 14 (pb 13 (pb 9 (pb 12 s0 rfl) rfl) rfl) rfl) rfl) rfl) 1 (pb 6 (pb 15 (pb 14 (pb 13 (pb 9 (pb 12 s1 rfl) rfl) rfl) rfl) rfl) rfl) 4 (pb 6 (pb 15 (pb 14 (pb 13 (pb 9 (pb 12 s4 rfl) rfl) rfl) rfl) rfl) rfl) 13 (pb 6 (pb 15 (pb 14 (af (t := 13) (ab (ab z)) rfl) rfl) rfl) rfl) 14 (pb 6 (pb 15 (af (t := 14) (ab (ab (ab z))) rfl) rfl) rfl) 15 (pb 6 (af (t := 15) (ab (ab (ab (ab z)))) rfl) rfl) 6 (af (t := 6) (ab (ab (ab (ab (ab z))))) rfl) fun fa fw z q ow s0 s1 s4 s13 s14 s15 s6 => ?_; refine ae (v := .slice none 0 0) (ag rfl) (aq rfl s13) ?_; refine cc ow 0 0 (ag rfl) rfl rfl (pb 5 s6 rfl) (pb 5 s14 rfl) (by kernel_rfl) rfl rfl rfl fun fw ow => ?_
   refine ae (v := .bool false) (ag rfl) (aq rfl (pb 5 s15 rfl)) ?_; refine gt6 (ab (ab z)) (ac (ac q)) ow 0 (pb 7 (pb 5 s0 rfl) rfl) 1 (pb 7 (pb 5 s1 rfl) rfl) 4 (pb 7 (pb 5 s4 rfl) rfl) 6 (pb 7 (pb 5 s6 rfl) rfl) 5 (pb 7 (af (t := 5) z rfl) rfl) 7 (af (t := 7) (ab z) rfl) fun fa fw z q ow s0 s1 s4 s6 s5 s7 => ?_; refine wt hK2 ?_; refine sq fun hK3 => ?_
   refine rgx [yV _, yV _] 2 51 z q ow (
     um s7 rfl <|
     ua (rno (zd 0)) rfl <|
     ah) fun fa fw bs hv ap z q ow => ?_
   obtain ⟨s0, s1, s4, s6, s5, s7⟩ := b6 bs s0 s1 s4 s6 s5 s7; have s17 := zh hv 1; refine wp_cond_true (s17) ?_; refine sq fun hK5 => ?_
   refine ro [yV (al x)] 1 51 z q ow (
     ua (rln 3 ow 0 (zt s6)) rfl <|
     ah) fun fa fw bs hv ap z q ow => ?_
   obtain ⟨s0, s1, s4, s6, s5, s7⟩ := b6 bs s0 s1 s4 s6 s5 s7; have s18 := zh hv 0; refine ws ow 1 0 s4 s18 fun fw ow => ?_; refine wt hK5 ?_; refine wp_ret ?_; refine ao ?_; refine rs3 s4 (ow.box 1 rfl) q ?_; exact ⟨congrArg (fun v => Ending.returned (al v)) ((yL hfst).symm), ow.kept⟩
  obtain ⟨L, hL⟩ : ∃ L, L = (aF [a]).map Vl.n := ⟨_, rfl⟩; rw [← hL] at hown; have ow := ow.add (t := Th.row _ 2 1 v L.length (L.map dV)) hown hk (fun g e => (World.ownsRow.lt hown g e).1); clear hk hown; obtain ⟨LA, lc, rfl⟩ := bV (ow.row 0 rfl); have hL64 : All64 L := by rw [hL]; exact qv hs1
  have hLn : L.length ≤ 1000000 := by rw [hL, List.length_map]; exact hn1
  refine ae (v := .tuple #[.slice LA L.length lc, al aG, .bool true]) (ag rfl) (ce rfl (af (t := 12) z rfl)) ?_; refine ae (v := .slice LA L.length lc) (ag rfl) (aR rfl (af (t := 9) (ab z) rfl) rfl) ?_; refine ae (v := al aG) (ag rfl) (aR rfl (pb 13 (af (t := 9) (ab z) rfl) rfl) rfl) ?_; refine ae (v := .bool true) (ag rfl) (aR rfl (pb 14 (pb 13 (af (t := 9) (ab z) rfl) rfl) rfl) rfl) ?_; refine eQ ow (ag rfl) (gg (b := .cells #[.int .u8 0, .int .i64 0, .string ⟨[].toArray⟩] 25 (0, 0)) rfl (by kernel_rfl)) fun gb3 fw ow => ?_; refine gt7 (ab (ab (ab (ab (ab (ab z)))))) (ac (ac (ac (ac (ac (ac q)))))) ow 0 (pb 6 (pb 15 (pb 14 (pb 13 (pb 9 (pb 12 s0 rfl) rfl) rfl) rfl) rfl) rfl) 1 (pb 6 (pb 15 (pb 14 (pb 13 (pb 9 (pb 12 s1 rfl) rfl) rfl) rfl) rfl) rfl) 4 (pb 6 (pb 15 (pb 14 (pb 13 (pb 9 (pb 12 s4 rfl) rfl) rfl) rfl) rfl) rfl) 13 (pb 6 (pb 15 (pb 14 (af (t := 13) (ab (ab z)) rfl) rfl) rfl) rfl) 14 (pb 6 (pb 15 (af (t := 14) (ab (ab (ab z))) rfl) rfl) rfl) 15 (pb 6 (af (t := 15) (ab (ab (ab (ab z)))) rfl) rfl) 6 (af (t := 6) (ab (ab (ab (ab (ab z))))) rfl) fun fa fw z q ow s0 s1 s4 s13 s14 s15 s6 => ?_; refine ae (v := .slice LA L.length lc) (ag rfl) (aq rfl s13) ?_; refine cc ow 0 0 (ag rfl) rfl rfl (pb 5 s6 rfl) (pb 5 s14 rfl) (by kernel_rfl) rfl rfl rfl fun fw ow => ?_
  refine ae (v := .bool true) (ag rfl) (aq rfl (pb 5 s15 rfl)) ?_; refine gt6 (ab (ab z)) (ac (ac q)) ow 0 (pb 7 (pb 5 s0 rfl) rfl) 1 (pb 7 (pb 5 s1 rfl) rfl) 4 (pb 7 (pb 5 s4 rfl) rfl) 6 (pb 7 (pb 5 s6 rfl) rfl) 5 (pb 7 (af (t := 5) z rfl) rfl) 7 (af (t := 7) (ab z) rfl) fun fa fw z q ow s0 s1 s4 s6 s5 s7 => ?_; refine wt hK2 ?_; refine sq fun hK6 => ?_
  refine rgx [yV _, yV _] 2 51 z q ow (
    um s7 rfl <|
    ua (rno (zd 0)) rfl <|
    ah) fun fa fw bs hv ap z q ow => ?_
  obtain ⟨s0, s1, s4, s6, s5, s7⟩ := b6 bs s0 s1 s4 s6 s5 s7; have s17 := zh hv 1; refine wp_cond_false (s17) ?_; refine wp_skip ?_; refine tn hK6 ?_; refine sq fun hK8 => ?_
  refine ro [yV _, yV _, yV (.pointer (some ⟨b1, o1 + 1 * 9 + 1, none⟩)), yV (al b.v), yV (.tuple #[.int .i64 ((p16 b.v).1), al ((p16 b.v).2.1), .bool ((p16 b.v).2.2)]), yV _, yV _, yV (al ((p16 b.v).2.1)), yV _, yV _] 10 51 z q ow (
    um s0 rfl <|
    ua (rp0 9 Tryz.underlying22 hA1 (zd 0) zc) rfl <|
    ua (rfa (zd 1)) rfl <|
    ua (rpk 3 1 e1 ow (zd 2)) rfl <|
    uc (rc1 (zd 3) dy) (fun hk => em b.v _ mx (HM.kept (ow.keep hk).kept) hb.1) rfl <|
    uq2 4 rfl rfl <|
    ua (rex (zd 5)) rfl <|
    ua (rex (zd 5)) rfl <|
    ua (rex (zd 5)) rfl <|
    uq3 6 rfl rfl <|
    ah) fun fa fw bs hv ap z q ow => ?_
  obtain ⟨s1, s4, s6, s5, s7⟩ := b5 bs s1 s4 s6 s5 s7; have s26 := zh hv 7; have s27 := zh hv 8; have s8 := zh hv 9; refine ws ow 0 0 s6 s26 fun fw ow => ?_; refine ae (v := .bool ((p16 b.v).2.2)) (ag rfl) (aq rfl s27) ?_; refine gp5 z q ow s1 s4 s6 s5 s8 fun fa fw z q ow s1 s4 s6 s5 s8 s7 => ?_; refine wt hK8 ?_; refine sq fun hK9 => ?_
  refine rgx [yV _, yV _] 2 51 z q ow (
    um s7 rfl <|
    ua (rno (zd 0)) rfl <|
    ah) fun fa fw bs hv ap z q ow => ?_
  obtain ⟨s1, s4, s6, s5, s8⟩ := b5 bs s1 s4 s6 s5 s8; have s29 := zh hv 1
  by_cases hc1 : ¬ (((p16 b.v).2.2) = true)
  ·refine ct s29 ((dX (Iff.rfl)).2 hc1) ?_
   have hpb : (p16 b.v).2.2 = false := by simpa using hc1
   refine sq fun hK11 => ?_
   refine ro [yV (al ((p16 b.v).2.1))] 1 51 z q ow (
     ua (rln 3 ow 0 (zt s6)) rfl <|
     ah) fun fa fw bs hv ap z q ow => ?_
   obtain ⟨s1, s4, s5, s8⟩ := b4 bs s1 s4 s5 s8; have s30 := zh hv 0; refine ws ow 2 0 s4 s30 fun fw ow => ?_; refine wt hK11 ?_; refine wp_ret ?_; refine ao ?_; refine rs3 s4 (ow.box 2 rfl) q ?_; exact ⟨congrArg (fun v => Ending.returned (al v)) (yM hfst hpb), ow.kept⟩
  refine cf s29 (dX (Iff.rfl)) hc1 ?_; have hpo : (p16 b.v).2.2 = true := by simpa using hc1
  refine wp_skip ?_; refine tn hK9 ?_; refine sq fun hK12 => ?_
  refine rgx [yV _, yV _, yV _, yIf _ (yV _), yIf _ (yV _), yIf _ (yV _), yIf _ (yV _), yV _] 8 51 z q ow (
    um s8 rfl <|
    ua (rlt (zd 0) zc) rfl <|
    uq2 1 rfl rfl <|
    ui (gd1 2) (rmo (zt s8)) rfl <|
    ui (gd1 2) (rmo (zt s5)) rfl <|
    ui (gd1 2) (rle Tryz.underlying54 (zi 4)) rfl <|
    ui (gd1 2) (rgt (zi 3) (zi 5)) rfl <|
    ua (ron (zd 2) (zi 6)) rfl <|
    ah) fun fa fw bs hv ap z q ow => ?_
  obtain ⟨s1, s4, s5, s8⟩ := b4 bs s1 s4 s5 s8; have s38 := zh hv 7
  by_cases hc2 : (((p16 b.v).1 : Int) < (1 : Int)) ∨ (((L.length : Nat) : Int) < ((p16 b.v).1 : Int))
  ·refine ct s38 ((bor (decide_eq_true_iff) (decide_eq_true_iff)).2 hc2) ?_
   have hout := hc2; refine sq fun hK14 => ?_
   refine ro [yV (al (aW 3))] 1 51 z q ow (
     uc (rc1 zc cD) (fun hk => cj 3 _) rfl <|
     ah) fun fa fw bs hv ap z q ow => ?_
   obtain ⟨s1, s4, s5, s8⟩ := b4 bs s1 s4 s5 s8; have s39 := zh hv 0; refine ws ow 2 0 s4 s39 fun fw ow => ?_; refine wt hK14 ?_; refine wp_ret ?_; refine ao ?_; refine rs3 s4 (ow.box 2 rfl) q ?_; exact ⟨congrArg (fun v => Ending.returned (al v)) (rank_out hfst hpo hL hout), ow.kept⟩
  refine cf s38 (bor (decide_eq_true_iff) (decide_eq_true_iff)) hc2 ?_; have hin := hc2; obtain ⟨m, hm⟩ : ∃ m : Nat, (p16 b.v).1 = (m : Int) + 1 := ⟨((p16 b.v).1 - 1).toNat, by omega⟩; refine wp_skip ?_; refine tn hK12 ?_; refine sq fun hK15 => ?_; have ow := ow.perm (List.Perm.swap _ _ _); obtain ⟨g1, c1, hv9, ow⟩ := oM ow (by omega)
  cases hv9
  have hs64 := vR hL64; have hsl := aM L
  refine ro [yV _] 1 51 z q ow (
    um s5 rfl <|
    ah) fun fa fw bs hv ap z q ow => ?_
  obtain ⟨s1, s4, s5, s8⟩ := b4 bs s1 s4 s5 s8; have s40 := zh hv 0; refine aO (ag rfl) (cz (u := .slice (some ⟨g1, 0, none⟩) L.length lc) rfl s40 (cI _ _)) ((oO ow (by first | rfl | (simp only [aM, List.length_reverse])) (by first | assumption | (simp only [aM, List.length_reverse]; assumption))).mono ?_); rintro _ fw ⟨rfl, hO⟩; refine ⟨_, rfl, ?_⟩; rcases (rfl : (0 : Nat) = 0) with _
  have ow := hO; refine gt4 (ab z) (ac q) ow 1 (pb 41 s1 rfl) 4 (pb 41 s4 rfl) 5 (pb 41 s5 rfl) 8 (pb 41 s8 rfl) fun fa fw z q ow s1 s4 s5 s8 => ?_; refine wt hK15 ?_; refine sq fun hK16 => ?_
  refine rgx [yV _] 1 51 z q ow (
    um s1 rfl <|
    ah) fun fa fw bs hv ap z q ow => ?_
  obtain ⟨s4, s5, s8⟩ := b3 bs s4 s5 s8; have s42 := zh hv 0
  by_cases hc3 : desc = true
  ·refine ct s42 ((Iff.rfl).2 hc3) ?_
   have hdt := hc3
   refine ro [yV _] 1 51 z q ow (
     um s5 rfl <|
     ah) fun fa fw bs hv ap z q ow => ?_
   obtain ⟨s4, s5, s8⟩ := b3 bs s4 s5 s8; have s43 := zh hv 0; refine aO (ag rfl) (cz (u := .slice (some ⟨g1, 0, none⟩) L.length lc) rfl s43 (dC _ _)) ((oP ow (by first | rfl | (simp only [aM, List.length_reverse])) (by first | assumption | (simp only [aM, List.length_reverse]; assumption))).mono ?_); rintro _ fw ⟨rfl, hO⟩; refine ⟨_, rfl, ?_⟩; rcases (rfl : (0 : Nat) = 0) with _
   have ow := hO; refine gt3 (ab z) (ac q) ow 4 (pb 44 s4 rfl) 5 (pb 44 s5 rfl) 8 (pb 44 s8 rfl) fun fa fw z q ow s4 s5 s8 => ?_; refine wt hK16 ?_; refine sq fun hK18 => ?_
   refine ro [yV _, yV _, yV (.int .i64 ((m : Nat) : Int)), yV _, yV _, yV (al (aK (((aV L).reverse).getD (m) 0)))] 6 51 z q ow (
     um s5 rfl <|
     um s8 rfl <|
     ue (rsb (zd 1) zc) (congrArg (Value.int .i64) (by omega)) rfl <|
     aS (fun hk bs hd => ix (k := (m)) rfl rfl (dp hd 0 rfl) (dp hd 2 rfl) (by omega)) rfl <|
     aS (fun hk bs hd => vQ rfl (by kernel_rfl) (dp hd 3 rfl) ((ow.keep hk).row 0 rfl) (by first | omega | (simp only [aM, List.length_reverse]; omega))) rfl <|
     uc (rc1 (zd 4) cS) (fun hk => cY (((aV L).reverse).getD (m) 0) _ (by first | exact (gA hs64 (by simp only [aM, List.length_reverse]; omega)).1 | exact (gA (rK hs64) (by simp only [aM, List.length_reverse]; omega)).1) (by first | exact (gA hs64 (by simp only [aM, List.length_reverse]; omega)).2 | exact (gA (rK hs64) (by simp only [aM, List.length_reverse]; omega)).2)) rfl <|
     ah) fun fa fw bs hv ap z q ow => ?_
   have s4 := bg bs s4; have s50 := zh hv 5; refine ws ow 2 0 s4 s50 fun fw ow => ?_; refine wt hK18 ?_; refine wp_ret ?_; refine rs3 s4 (ow.box 2 rfl) q ?_; exact ⟨congrArg (fun v => Ending.returned (al v)) ((wE hfst hpo hL hin hm hdt).symm), ow.kept⟩
  refine cf s42 (Iff.rfl) hc3 ?_; have hdf := Bool.eq_false_iff.2 hc3; refine wp_skip ?_; refine tn hK16 ?_; refine sq fun hK19 => ?_
  refine ro [yV _, yV _, yV (.int .i64 ((m : Nat) : Int)), yV _, yV _, yV (al (aK ((aV L).getD (m) 0)))] 6 51 z q ow (
    um s5 rfl <|
    um s8 rfl <|
    ue (rsb (zd 1) zc) (congrArg (Value.int .i64) (by omega)) rfl <|
    aS (fun hk bs hd => ix (k := (m)) rfl rfl (dp hd 0 rfl) (dp hd 2 rfl) (by omega)) rfl <|
    aS (fun hk bs hd => vQ rfl (by kernel_rfl) (dp hd 3 rfl) ((ow.keep hk).row 0 rfl) (by first | omega | (simp only [aM, List.length_reverse]; omega))) rfl <|
    uc (rc1 (zd 4) cS) (fun hk => cY ((aV L).getD (m) 0) _ (by first | exact (gA hs64 (by simp only [aM, List.length_reverse]; omega)).1 | exact (gA (rK hs64) (by simp only [aM, List.length_reverse]; omega)).1) (by first | exact (gA hs64 (by simp only [aM, List.length_reverse]; omega)).2 | exact (gA (rK hs64) (by simp only [aM, List.length_reverse]; omega)).2)) rfl <|
    ah) fun fa fw bs hv ap z q ow => ?_
  have s4 := bg bs s4; have s50 := zh hv 5; refine ws ow 2 0 s4 s50 fun fw ow => ?_; refine wt hK19 ?_; refine wp_ret ?_; refine rs3 s4 (ow.box 2 rfl) q ?_; exact ⟨congrArg (fun v => Ending.returned (al v)) ((wE hfst hpo hL hin hm hdf).symm), ow.kept⟩
