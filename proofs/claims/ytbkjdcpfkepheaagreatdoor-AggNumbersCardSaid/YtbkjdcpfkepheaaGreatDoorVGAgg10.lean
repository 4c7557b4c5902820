/- Layer 16: Numbers, what a function's value is: the program's (printed by wip/mkagg10.py). -/
import Derived.Test.YtbkjdcpfkepheaaGreatDoorVGAgg9
set_option maxHeartbeats 4000000
namespace Go.Proofs.YtbkjdcpfkepheaaGreatDoor
section
set_option linter.unusedVariables false
set_option linter.unusedSimpArgs false
open Go.RowKit Lv
set_option maxRecDepth 100000
def ko (w : World) (l : List Ar) (e : Ending) (w' : World) : Prop := ∃ v x b, e = .returned (.tuple #[v, al x, .bool b]) ∧ Kept w w' ∧ ((b = false ∧ v = .slice none 0 0 ∧ aA l = ([], x, false)) ∨ (b = true ∧ ∃ L, aA l = (L, x, true) ∧ w'.ownsRow w.heap.size 2 1 v L.length (L.map (Value.int .i64))))
theorem wG {w : World} {b b' size n : Nat} {e : TypeId} {v : Value} {xs : List Value} (h : w.ownsRow b' e size v n xs) (k : b ≤ b') : w.ownsRow b e size v n xs := by
  refine ⟨h.1, ?_⟩; rcases h.2 with c | ⟨g, cap, cur, e1, hb, r⟩
  · exact Or.inl c
  · exact Or.inr ⟨g, cap, cur, e1, Nat.le_trans k hb, r⟩
theorem wH {l : List Ar} {k : Nat} (h : ∀ j, j < k → ∀ q, l[j]? = some q → br q = true) (hk : l.length ≤ k) : l.all br = true := by
  rw [List.all_eq_true]; intro a ha; obtain ⟨j, hj, e⟩ := List.getElem_of_mem ha; exact h j (by omega) a (by rw [List.getElem?_eq_getElem hj, e])
theorem mv {l : List Ar} {k : Nat} {a : Ar} (ha : l[k]? = some a) (h : br a = false) : aA l = ([], aW 2, false) := by
  unfold aA; rw [if_neg]; rw [List.all_eq_true]; intro c; have := c a (List.mem_of_getElem? ha); rw [h] at this; cases this
theorem jD {l : List Ar} {x : Vl} (ha : l.all br = true) (h : aN (aF l) = some x) : aA l = ([], x, false) := by
  unfold aA; rw [if_pos ha, lh h]
theorem pn {l : List Ar} {L : List Int} (ha : l.all br = true) (h : aN (aF l) = none) (hL : L = (aF l).map Vl.n) : aA l = (L, aG, true) := by
  unfold aA; rw [if_pos ha, gB h, hL]
theorem A6 {fn : Nat} {l : List Ar} {x : Vl} (hf : dM fn = true) (h : aN (aF l) = some x) : eS fn l = x := by
  unfold eS; rw [if_pos hf, lh h]
theorem yR {fn : Nat} {l : List Ar} (hf : dM fn = true) (h : aN (aF l) = none) : eS fn l = oq fn ((aF l).map Vl.n) := by
  unfold eS; rw [if_pos hf, gB h]
def tw (x : Rc) (la : List Cl) (v : Value) (w : World) : Prop := ∃ A1 c1, v = .agg #[.int .i64 x.c1, .int .i64 x.r1, .int .i64 x.c2, .int .i64 x.r2, .slice A1 la.length c1] ∧ RowK 5 clV w A1 la ∧ la.length ≤ c1
theorem lj {x : Rc} {la : List Cl} (v : Value) (w w' : World) (h : tw x la v w) (k : Kept w w') : tw x la v w' := by
  obtain ⟨A1, c1, e, r, hc⟩ := h; exact ⟨A1, c1, e, r.kept k, hc⟩
theorem wI {a : Ar} {x : Rc} {la : List Cl} (e : av a = (x, la)) {A1 : Option Addr} {c1 : Nat} {w : World} (hr : RowK 5 clV w A1 a.l) (hc : a.l.length ≤ c1) : Calls Tryz.prog 66 #[.agg #[.bool a.w, .int .u8 a.v.k, .int .i64 a.v.n, .string ⟨a.v.t.toArray⟩, .int .i64 a.x.c1, .int .i64 a.x.r1, .int .i64 a.x.c2, .int .i64 a.x.r2, .slice A1 a.l.length c1]] w fun e w' => ∃ A2 c2, e = .returned (.agg #[.int .i64 x.c1, .int .i64 x.r1, .int .i64 x.c2, .int .i64 x.r2, .slice A2 la.length c2]) ∧ RowK 5 clV w' A2 la ∧ la.length ≤ c2 ∧ Kept w w' :=
  (qz e A1 c1 w hc).mono fun _ _ ⟨_, A2, c2, he, hT, hc2, hR⟩ => ⟨A2, c2, he, hR _ _ (hr.kept hT.kept) hT, hc2, hT.kept⟩
theorem mw {a : Ar} {x : Rc} {la : List Cl} (e : av a = (x, la)) (hs : bI a) (hl : a.l.length ≤ 1000000) : la.length ≤ 1000000 ∧ ∀ c ∈ la, Small c.v := by
  refine ⟨by have := kn a hl; rw [e] at this; exact this, fun c hc => ?_⟩; unfold av at e
  split at e
  · cases e; exact hs.2 c hc
  · cases e
    split at hc
    · cases hc
    · rw [List.mem_singleton.1 hc]; exact hs.1
theorem qB {a : Ar} (h : br a = true) : ∀ c ∈ (av a).2, eL (av a).1 c := by
  unfold br at h; unfold av
  split
  · rename_i e
    rw [if_pos e] at h
    simp only [Bool.and_eq_true] at h
    exact (dx.1 h.2).1
  · rename_i e
    rw [if_neg e] at h
    simp only [Bool.and_eq_true] at h
    intro c hc
    split at hc
    · cases hc
    · rename_i hk
      rw [List.mem_singleton.1 hc]; exact ⟨by show gU ⟨1, 1, 1, 1⟩ 1 1 = true; kernel_rfl, hk, h.1.1⟩
theorem wJ {a : Ar} {x : Rc} {la : List Cl} (e : av a = (x, la)) (h : br a = true) : ∀ c ∈ la, eL x c := by
  have := (qB h); rw [e] at this; exact this
theorem A7 {a : Ar} {v : Vl} (h : (v.k : Int) = (4 : Int)) : ev a v = v := by unfold ev; rw [if_pos (by omega)]
theorem A8 {a : Ar} {v : Vl} {x : Rc} {la : List Cl} (e : av a = (x, la)) (h : ¬ ((v.k : Int) = (4 : Int))) : Ak x la v = ev a v := by unfold ev; rw [if_neg (by omega), e]; rfl
theorem Ba {a : Ar} {v : Vl} (h : (v.k : Int) = (4 : Int)) : fG v a = v := by unfold fG; rw [if_pos (by omega)]
theorem Bb {a : Ar} {v : Vl} {x : Rc} {la : List Cl} (e : av a = (x, la)) (h : ¬ ((v.k : Int) = (4 : Int))) : qj x la v = fG v a := by unfold fG; rw [if_neg (by omega), e]; rfl
theorem eO : En 69 := by intro args w; go_simp
theorem lI : En 65 := by intro args w; go_simp
theorem po : En 67 := by intro args w; go_simp
theorem lk : En 68 := by intro args w; go_simp
theorem jh : En 64 := by intro args w; go_simp
theorem bw : En 63 := by intro args w; go_simp
theorem jS : En 32 := by intro args w; go_simp
theorem nl (A : Option Addr) (cap : Nat) (l : List Ar) (w : World) (mx : Int) (HM : Mx w mx) (hr : ArgsAt w A l) (hs : ∀ a ∈ l, bI a) (hl : l.length ≤ 1000) (hla : ∀ a ∈ l, a.l.length ≤ 900000) (hn : (aF l).length ≤ 1000000) :
    Calls Tryz.prog 21 #[.slice A l.length cap] w fun e w' => ko w l e w' := by
  have hll : l.length ≤ 1000000 := by omega
  have hla1 : ∀ a ∈ l, a.l.length ≤ 1000000 := fun a ha => Nat.le_trans (hla a ha) (by decide); go_enter Tryz.func21, Tryz.ntmps21
  refine rgx [yV _, bJ w.heap.size (.cells #[.int .u8 0, .int .i64 0, .string ⟨[].toArray⟩] 25 (0, 0)), yV _] 3 23 rfl rfl (Own.start w) (
    uq1 rfl rfl rfl <|
    uq4 <|
    uq1 rfl rfl rfl <|
    ah) fun fa fw bs hv ap z q ov => ?_
  have s0 := bs.get 0 rfl rfl; have s2 := zh hv 0; obtain ⟨gb1, s3, bgb1, hgb1⟩ := zn hv 1; have ov := ov.hc (Own.start w) bgb1 hgb1; have s4 := zh hv 2; have ow := ov; refine sq fun hK2 => ?_
  refine rgx [yV _, yV _, yV _] 3 23 z q ow (
    um s0 rfl <|
    ua (rle Tryz.underlying22 (zd 0)) rfl <|
    ua (rmo zc) rfl <|
    ah) fun fa fw bs hv ap z q ow => ?_
  obtain ⟨s0, s2, s3, s4⟩ := b4 bs s0 s2 s3 s4; have s7 := zh hv 0; have s8 := zh hv 1; have s9 := zh hv 2; refine wp_block ?_; refine bc (fun (k : Nat) fr u => (k ≤ l.length) ∧ (∀ j, j < k → ∀ q, l[j]? = some q → br q = true) ∧ fr.tmps.size = 23 ∧ fr.defers = [] ∧ Own w [Th.obj gb1 (.cells #[.int .u8 0, .int .i64 0, .string ⟨[].toArray⟩] 25 (0, 0))] u ∧ fr.eval (.tmp 0) = .slice A l.length cap ∧ fr.eval (.tmp 2) = .slice none 0 0 ∧ fr.eval (.tmp 3) = .pointer (some ⟨gb1, 0, none⟩) ∧ fr.eval (.tmp 4) = .bool false ∧ fr.eval (.tmp 7) = .slice A l.length cap ∧ fr.eval (.tmp 8) = .int .i64 ((l.length : Nat) : Int) ∧ fr.eval (.tmp 9) = .int .i64 (k : Int)) (fun k => l.length - k) 0 ⟨(Nat.zero_le _), (fun j hj => absurd hj (Nat.not_lt_zero j)), z, q, ow, s0, s2, s3, s4, s7, s8, s9⟩ (fun k b_ u_ hI => ?_)
  revert b_ u_; intro fa fw hI
  obtain ⟨hk0, hall, z, q, ow, s0, s2, s3, s4, s7, s8, s9⟩ := hI
  refine rgx [yV _] 1 23 z q ow (
    ua (rlt (zt s9) (zt s8)) rfl <|
    ah) fun fa fw bs hv ap z q ow => ?_
  obtain ⟨s0, s2, s3, s4, s7, s8, s9⟩ := b7 bs s0 s2 s3 s4 s7 s8 s9; have s10 := zh hv 0; refine sq fun hK5 => ?_
  by_cases hc1 : (k : Int) < ((l.length : Nat) : Int)
  ·refine ct s10 ((decide_eq_true_iff).2 hc1) ?_
   refine wp_skip ?_; refine tn hK5 ?_; refine sq fun hK6 => ?_; refine wp_block ?_; refine sq fun hK7 => ?_; have hltk : k < l.length := by omega
   obtain ⟨a, ha⟩ := bQ hltk; obtain ⟨ba, oa, A1, c1, Aa, ea, r1, l1⟩ := hr.elem ha; have hva := (hs a (List.mem_of_getElem? ha)).1; have hca := (hs a (List.mem_of_getElem? ha)).2; have hal := hla1 a (List.mem_of_getElem? ha)
   refine ro [yV _, yV (.agg #[.bool a.w, .int .u8 a.v.k, .int .i64 a.v.n, .string ⟨a.v.t.toArray⟩, .int .i64 a.x.c1, .int .i64 a.x.r1, .int .i64 a.x.c2, .int .i64 a.x.r2, .slice A1 a.l.length c1]), bJ fw.heap.size (.cells #[.bool false, .int .u8 0, .int .i64 0, .string ⟨[].toArray⟩, .int .i64 0, .int .i64 0, .int .i64 0, .int .i64 0, .slice none 0 0] 39 (0, 0))] 3 23 z q ow (
     ua (rpl 9 Tryz.underlying22 Aa (zt s7) (zt s9) hltk) rfl <|
     ua (rpk 9 0 ea ow (zd 0)) rfl <|
     uq4 <|
     ah) fun fa fw bs hv ap z q ov => ?_
   obtain ⟨s0, s2, s3, s4, s7, s8, s9⟩ := b7 bs s0 s2 s3 s4 s7 s8 s9; have s12 := zh hv 1; obtain ⟨gb2, s6, bgb2, hgb2⟩ := zn hv 2; have ov := ov.hc ow bgb2 hgb2; have ow := ov; refine ws ow 0 0 s6 s12 fun fw ow => ?_; refine wt hK7 ?_
   refine rgx [yV (.agg #[.bool a.w, .int .u8 a.v.k, .int .i64 a.v.n, .string ⟨a.v.t.toArray⟩, .int .i64 a.x.c1, .int .i64 a.x.r1, .int .i64 a.x.c2, .int .i64 a.x.r2, .slice A1 a.l.length c1]), yV (.bool (br a)), yV _] 3 23 z q ow (
     ua (rln 9 ow 0 (zt s6)) rfl <|
     uc (rc1 (zd 0) jS) (fun hk => jK a _ _ _ (r1.kept (ow.keep hk).kept) hal hva hca) rfl <|
     ua (rno (zd 1)) rfl <|
     ah) fun fa fw bs hv ap z q ow => ?_
   obtain ⟨s0, s2, s3, s4, s7, s8, s9⟩ := b7 bs s0 s2 s3 s4 s7 s8 s9; have s15 := zh hv 2
   by_cases hc2 : ¬ ((br a) = true)
   ·refine ct s15 ((dX (Iff.rfl)).2 hc2) ?_
    have hbad : br a = false := by simpa using hc2
    refine sq fun hK9 => ?_
    refine ro [yV (al (aW 2)), yV _] 2 23 z q ow (
      uc (rc1 zc cD) (fun hk => cj 2 _) rfl <|
      uq1 rfl rfl rfl <|
      ah) fun fa fw bs hv ap z q ow => ?_
    obtain ⟨s0, s3, s4, s7, s8, s9⟩ := b6 bs s0 s3 s4 s7 s8 s9; have s16 := zh hv 0; have s2 := zh hv 1; refine ws ow 1 0 s3 s16 fun fw ow => ?_; refine ae (v := .bool false) (ag rfl) (aq rfl rfl) ?_; refine gp6 z q ow s0 s3 s7 s8 s9 s2 fun fa fw z q ow s0 s3 s7 s8 s9 s2 s4 => ?_; refine wt hK9 ?_; refine wp_ret ?_; refine aD ?_; refine ao ?_; refine ao ?_; refine aD ?_; refine ao ?_; refine aU (v := .tuple #[.slice none 0 0, al (aW 2), .bool false]) rfl (.cons (ak s2) (.cons (bo (n := 3) _ s3 (by kernel_rfl) (by kernel_rfl) (ow.box 1 rfl) (Nat.le_of_ble_eq_true rfl) rfl) (.cons (ak s4) .nil))) rfl q ?_; exact ⟨_, _, _, rfl, ow.kept, Or.inl ⟨rfl, rfl, mv ha hbad⟩⟩
   refine cf s15 (dX (Iff.rfl)) hc2 ?_; have hgood : br a = true := by simpa using hc2
   refine wp_skip ?_; refine bn ?_; refine tn hK6 ?_
   refine ro [yV (.int .i64 ((k + 1 : Nat) : Int))] 1 23 z q ow (
     ua (rad (zt s9) zc) rfl <|
     ah) fun fa fw bs hv ap z q ow => ?_
   obtain ⟨s0, s2, s3, s4, s7, s8, s9⟩ := b7 bs s0 s2 s3 s4 s7 s8 s9; have s17 := zh hv 0; refine ae (v := .int .i64 ((k + 1 : Nat) : Int)) (ag rfl) (ce rfl s17) ?_; refine gp6 z q ow s0 s2 s3 s4 s7 s8 fun fa fw z q ow s0 s2 s3 s4 s7 s8 s9 => ?_; refine bp ?_; exact bK ⟨(k + 1), ⟨hltk, (qi hall ha hgood), z, q, ow.tail, s0, s2, s3, s4, s7, s8, s9⟩, (show l.length - (k + 1) < l.length - k by omega)⟩
  refine cf s10 (decide_eq_true_iff) hc1 ?_; refine wp_exit ?_; refine aX ?_; refine aX ?_; refine aP ?_; refine tn hK2 ?_; refine sq fun hK10 => ?_
  refine ro [yV _] 1 23 z q ow (
    um s0 rfl <|
    ah) fun fa fw bs hv ap z q ow => ?_
  obtain ⟨s2, s3, s4⟩ := b3 bs s2 s3 s4; have s18 := zh hv 0; refine aO (ag rfl) (cz (u := .slice A l.length cap) rfl s18 (eV _ _)) ((gz A cap l _ mx (HM.kept ow.kept) (hr.kept ow.kept) hs hll hla1 hn).mono ?_); rintro _ fw ⟨v, x, b, rfl, hk, hcv⟩; refine ⟨_, rfl, ?_⟩; rcases hcv with ⟨rfl, rfl, hfst⟩ | ⟨rfl, rfl, hfst, hown⟩
  ·skip
   have ow := ow.keep hk; clear hk; refine ae (v := .slice none 0 0) (ag rfl) (aR rfl (af (t := 19) z rfl) rfl) ?_; refine ae (v := al x) (ag rfl) (aR rfl (pb 20 (af (t := 19) z rfl) rfl) rfl) ?_; refine ae (v := .bool false) (ag rfl) (aR rfl (pb 21 (pb 20 (af (t := 19) z rfl) rfl) rfl) rfl) ?_; refine ae (v := .slice none 0 0) (ag rfl) (aq rfl (pb 22 (pb 21 (af (t := 20) (ab z) rfl) rfl) rfl)) ?_; refine cc ow 0 0 (ag rfl) rfl rfl (pb 2 (pb 22 (pb 21 (pb 20 (pb 19 s3 rfl) rfl) rfl) rfl) rfl) (pb 2 (pb 22 (af (t := 21) (ab (ab z)) rfl) rfl) rfl) (by kernel_rfl) rfl rfl rfl fun fw ow => ?_; refine ae (v := .bool false) (ag rfl) (aq rfl (pb 2 (af (t := 22) (ab (ab (ab z))) rfl) rfl)) ?_; refine gt3 (ab (ab (ab (ab (ab (ab z)))))) (ac (ac (ac (ac (ac (ac q)))))) ow 3 (pb 4 (pb 2 (pb 22 (pb 21 (pb 20 (pb 19 s3 rfl) rfl) rfl) rfl) rfl) rfl) 2 (pb 4 (af (t := 2) (ab (ab (ab (ab z)))) rfl) rfl) 4 (af (t := 4) (ab (ab (ab (ab (ab z))))) rfl) fun fa fw z q ow s3 s2 s4 => ?_; refine wt hK10 ?_; refine wp_ret ?_; refine aU (v := .tuple #[.slice none 0 0, al x, .bool false]) rfl (.cons (ak s2) (.cons (bo (n := 3) _ s3 (by kernel_rfl) (by kernel_rfl) (ow.box 0 rfl) (Nat.le_of_ble_eq_true rfl) rfl) (.cons (ak s4) .nil))) rfl q ?_
   exact ⟨_, _, _, rfl, ow.kept, Or.inl ⟨rfl, rfl, jD (wH hall (by omega)) hfst⟩⟩
  have hbs := ow.kept.size; obtain ⟨L, hL⟩ : ∃ L, L = (aF l).map Vl.n := ⟨_, rfl⟩; rw [← hL] at hown; have ow := ow.add (t := Th.row _ 2 1 v L.length (L.map dV)) hown hk (fun g e => (World.ownsRow.lt hown g e).1); clear hk hown; obtain ⟨LA, lc, rfl⟩ := bV (ow.row 0 rfl); have hL64 : All64 L := by rw [hL]; exact qv hs
  have hLn : L.length ≤ 1000000 := by rw [hL, List.length_map]; exact hn
  refine ae (v := .slice LA L.length lc) (ag rfl) (aR rfl (af (t := 19) z rfl) rfl) ?_; refine ae (v := al aG) (ag rfl) (aR rfl (pb 20 (af (t := 19) z rfl) rfl) rfl) ?_; refine ae (v := .bool true) (ag rfl) (aR rfl (pb 21 (pb 20 (af (t := 19) z rfl) rfl) rfl) rfl) ?_; refine ae (v := .slice LA L.length lc) (ag rfl) (aq rfl (pb 22 (pb 21 (af (t := 20) (ab z) rfl) rfl) rfl)) ?_; refine cc ow 1 0 (ag rfl) rfl rfl (pb 2 (pb 22 (pb 21 (pb 20 (pb 19 s3 rfl) rfl) rfl) rfl) rfl) (pb 2 (pb 22 (af (t := 21) (ab (ab z)) rfl) rfl) rfl) (by kernel_rfl) rfl rfl rfl fun fw ow => ?_; refine ae (v := .bool true) (ag rfl) (aq rfl (pb 2 (af (t := 22) (ab (ab (ab z))) rfl) rfl)) ?_; refine gt3 (ab (ab (ab (ab (ab (ab z)))))) (ac (ac (ac (ac (ac (ac q)))))) ow 3 (pb 4 (pb 2 (pb 22 (pb 21 (pb 20 (pb 19 s3 rfl) rfl) rfl) rfl) rfl) rfl) 2 (pb 4 (af (t := 2) (ab (ab (ab (ab z)))) rfl) rfl) 4 (af (t := 4) (ab (ab (ab (ab (ab z))))) rfl) fun fa fw z q ow s3 s2 s4 => ?_; refine wt hK10 ?_; refine wp_ret ?_; refine aU (v := .tuple #[.slice LA L.length lc, al aG, .bool true]) rfl (.cons (ak s2) (.cons (bo (n := 3) _ s3 (by kernel_rfl) (by kernel_rfl) (ow.box 1 rfl) (Nat.le_of_ble_eq_true rfl) rfl) (.cons (ak s4) .nil))) rfl q ?_
  exact ⟨_, _, _, rfl, ow.kept, Or.inr ⟨rfl, L, pn (wH hall (by omega)) hfst hL, wG (ow.row 0 rfl) hbs⟩⟩
theorem qC (fn : Nat) (hf : dM fn = true) (A : Option Addr) (cap : Nat) (l : List Ar) (w : World) (mx : Int) (HM : Mx w mx) (hr : ArgsAt w A l) (hs : ∀ a ∈ l, bI a) (hl : l.length ≤ 1000) (hla : ∀ a ∈ l, a.l.length ≤ 900000) (hn : (aF l).length ≤ 1000000) :
    Calls Tryz.prog 33 #[.int .u8 fn, .slice A l.length cap] w fun e w' => e = .returned (al (eS fn l)) ∧ Kept w w' := by
  have hll : l.length ≤ 1000000 := by omega
  have hla1 : ∀ a ∈ l, a.l.length ≤ 1000000 := fun a ha => Nat.le_trans (hla a ha) (by decide); go_enter Tryz.func33, Tryz.ntmps33; refine sq fun hK1 => ?_
  refine ro [bJ w.heap.size (.cells #[.int .u8 0, .int .i64 0, .string ⟨[].toArray⟩] 25 (0, 0))] 1 81 rfl rfl (Own.start w) (
    uq4 <|
    ah) fun fa fw bs hv ap z q ov => ?_
  have s0 := bs.get 0 rfl rfl; have s1 := bs.get 1 rfl rfl; obtain ⟨gb1, s4, bgb1, hgb1⟩ := zn hv 0; have ov := ov.hc (Own.start w) bgb1 hgb1; have ow := ov; refine wt hK1 ?_; refine sq fun hK2 => ?_; refine sq fun hK3 => ?_; refine wp_region_lit ?_; refine aO (ag rfl) (fd rfl (bw _ _)) ((bZ _).mono ?_); rintro _ fw ⟨gb2, rfl, hb, hh, hk⟩; refine ⟨_, rfl, ?_⟩; have ow := ow.add (t := Th.obj gb2 (.map (cL 10) 10)) hh hk (fun g e => by cases e; exact hb); clear hb hh hk; obtain ⟨im, him⟩ := yN hf; refine ae (v := .int .u8 (fn : Int)) (ag rfl) (ce rfl (pb 11 s0 rfl)) ?_; refine ae (v := .func (.func (m16 fn)) #[] #[]) (ag rfl) (AW rfl (pb 12 (af (t := 11) z rfl) rfl) (af (t := 12) (ab z) rfl) (ow.get 0 rfl) him) ?_; refine ae (v := .func (.func (m16 fn)) #[] #[]) (ag rfl) (aq rfl (af (t := 13) (ab (ab z)) rfl)) ?_; refine gt4 (ab (ab (ab (ab z)))) (ac (ac (ac (ac q)))) ow 0 (pb 5 (pb 13 (pb 12 (pb 11 s0 rfl) rfl) rfl) rfl) 1 (pb 5 (pb 13 (pb 12 (pb 11 s1 rfl) rfl) rfl) rfl) 4 (pb 5 (pb 13 (pb 12 (pb 11 s4 rfl) rfl) rfl) rfl) 5 (af (t := 5) (ab (ab (ab z))) rfl) fun fa fw z q ow s0 s1 s4 s5 => ?_; refine wt hK3 ?_
  refine rgx [yV _, yV _] 2 81 z q ow (
    um s5 rfl <|
    aS (fun hk bs hd => D6 rfl (dp hd 0 rfl)) rfl <|
    ah) fun fa fw bs hv ap z q ow => ?_
  obtain ⟨s0, s1, s4, s5⟩ := b4 bs s0 s1 s4 s5; have s15 := zh hv 1; refine wp_cond_true (s15) ?_; refine sq fun hK5 => ?_
  refine ro [yV _] 1 81 z q ow (
    um s1 rfl <|
    ah) fun fa fw bs hv ap z q ow => ?_
  obtain ⟨s0, s1, s4, s5⟩ := b4 bs s0 s1 s4 s5; have s17 := zh hv 0; refine aO (ag rfl) (cz (u := .slice A l.length cap) rfl s17 (eV _ _)) ((gz A cap l _ mx (HM.kept ow.kept) (hr.kept ow.kept) hs hll hla1 hn).mono ?_); rintro _ fw ⟨v, x, b, rfl, hk, hcv⟩; refine ⟨_, rfl, ?_⟩; rcases hcv with ⟨rfl, rfl, hfst⟩ | ⟨rfl, rfl, hfst, hown⟩
  ·skip
   have ow := ow.keep hk; clear hk; refine ae (v := .tuple #[.slice none 0 0, al x, .bool false]) (ag rfl) (ce rfl (af (t := 18) z rfl)) ?_; refine ae (v := .slice none 0 0) (ag rfl) (aR rfl (af (t := 16) (ab z) rfl) rfl) ?_; refine ae (v := al x) (ag rfl) (aR rfl (pb 19 (af (t := 16) (ab z) rfl) rfl) rfl) ?_; refine ae (v := .bool false) (ag rfl) (aR rfl (pb 20 (pb 19 (af (t := 16) (ab z) rfl) rfl) rfl) rfl) ?_; refine eQ ow (ag rfl) (gg (b := .cells #[.int .u8 0, .int .i64 0, .string ⟨[].toArray⟩] 25 (0, 0)) rfl (by kernel_rfl)) fun gb3 fw ow => ?_; refine gt8 (ab (ab (ab (ab (ab (ab z)))))) (ac (ac (ac (ac (ac (ac q)))))) ow 0 (pb 7 (pb 21 (pb 20 (pb 19 (pb 16 (pb 18 s0 rfl) rfl) rfl) rfl) rfl) rfl) 1 (pb 7 (pb 21 (pb 20 (pb 19 (pb 16 (pb 18 s1 rfl) rfl) rfl) rfl) rfl) rfl) 4 (pb 7 (pb 21 (pb 20 (pb 19 (pb 16 (pb 18 s4 rfl) rfl) rfl) rfl) rfl) rfl) 5 (pb 7 (pb 21 (pb 20 (pb 19 (pb 16 (pb 18 s5 rfl) rfl) rfl) rfl) rfl) rfl) 19 (pb 7 (pb 21 (pb 20 (af (t := 19) (ab (ab z)) rfl) rfl) rfl) rfl) 20 (pb 7 (pb 21 (af (t := 20) (ab (ab (ab z))) rfl) rfl) rfl) 21 (pb 7 (af (t := 21) (ab (ab (ab (ab z)))) rfl) rfl) 7 (af (t := 7) (ab (ab (ab (ab (ab z))))) rfl) fun fa fw z q ow s0 s1 s4 s5 s19 s20 s21 s7 => ?_; refine ae (v := .slice none 0 0) (ag rfl) (aq rfl s19) ?_
   refine cc ow 0 0 (ag rfl) rfl rfl (pb 6 s7 rfl) (pb 6 s20 rfl) (by kernel_rfl) rfl rfl rfl fun fw ow => ?_; refine ae (v := .bool false) (ag rfl) (aq rfl (pb 6 s21 rfl)) ?_; refine gt7 (ab (ab z)) (ac (ac q)) ow 0 (pb 8 (pb 6 s0 rfl) rfl) 1 (pb 8 (pb 6 s1 rfl) rfl) 4 (pb 8 (pb 6 s4 rfl) rfl) 5 (pb 8 (pb 6 s5 rfl) rfl) 7 (pb 8 (pb 6 s7 rfl) rfl) 6 (pb 8 (af (t := 6) z rfl) rfl) 8 (af (t := 8) (ab z) rfl) fun fa fw z q ow s0 s1 s4 s5 s7 s6 s8 => ?_; refine wt hK5 ?_; refine sq fun hK6 => ?_
   refine rgx [yV _, yV _] 2 81 z q ow (
     um s8 rfl <|
     ua (rno (zd 0)) rfl <|
     ah) fun fa fw bs hv ap z q ow => ?_
   obtain ⟨s0, s1, s4, s5, s7, s6⟩ := b6 bs s0 s1 s4 s5 s7 s6; have s23 := zh hv 1; refine wp_cond_true (s23) ?_; refine sq fun hK8 => ?_
   refine ro [yV (al x)] 1 81 z q ow (
     ua (rln 3 ow 0 (zt s7)) rfl <|
     ah) fun fa fw bs hv ap z q ow => ?_
   obtain ⟨s0, s1, s4, s5, s6⟩ := b5 bs s0 s1 s4 s5 s6; have s24 := zh hv 0; refine ws ow 2 0 s4 s24 fun fw ow => ?_; refine wt hK8 ?_; refine wp_ret ?_; refine ao ?_; refine ao ?_; refine rs3 s4 (ow.box 2 rfl) q ?_; exact ⟨congrArg (fun v => Ending.returned (al v)) ((A6 hf hfst).symm), ow.kept⟩
  have hbs := ow.kept.size; obtain ⟨L, hL⟩ : ∃ L, L = (aF l).map Vl.n := ⟨_, rfl⟩; rw [← hL] at hown; have ow := ow.add (t := Th.row _ 2 1 v L.length (L.map dV)) hown hk (fun g e => (World.ownsRow.lt hown g e).1); clear hk hown; obtain ⟨LA, lc, rfl⟩ := bV (ow.row 0 rfl); have hL64 : All64 L := by rw [hL]; exact qv hs
  have hLn : L.length ≤ 1000000 := by rw [hL, List.length_map]; exact hn
  refine ae (v := .tuple #[.slice LA L.length lc, al aG, .bool true]) (ag rfl) (ce rfl (af (t := 18) z rfl)) ?_; refine ae (v := .slice LA L.length lc) (ag rfl) (aR rfl (af (t := 16) (ab z) rfl) rfl) ?_; refine ae (v := al aG) (ag rfl) (aR rfl (pb 19 (af (t := 16) (ab z) rfl) rfl) rfl) ?_; refine ae (v := .bool true) (ag rfl) (aR rfl (pb 20 (pb 19 (af (t := 16) (ab z) rfl) rfl) rfl) rfl) ?_; refine eQ ow (ag rfl) (gg (b := .cells #[.int .u8 0, .int .i64 0, .string ⟨[].toArray⟩] 25 (0, 0)) rfl (by kernel_rfl)) fun gb4 fw ow => ?_; refine gt8 (ab (ab (ab (ab (ab (ab z)))))) (ac (ac (ac (ac (ac (ac q)))))) ow 0 (pb 7 (pb 21 (pb 20 (pb 19 (pb 16 (pb 18 s0 rfl) rfl) rfl) rfl) rfl) rfl) 1 (pb 7 (pb 21 (pb 20 (pb 19 (pb 16 (pb 18 s1 rfl) rfl) rfl) rfl) rfl) rfl) 4 (pb 7 (pb 21 (pb 20 (pb 19 (pb 16 (pb 18 s4 rfl) rfl) rfl) rfl) rfl) rfl) 5 (pb 7 (pb 21 (pb 20 (pb 19 (pb 16 (pb 18 s5 rfl) rfl) rfl) rfl) rfl) rfl) 19 (pb 7 (pb 21 (pb 20 (af (t := 19) (ab (ab z)) rfl) rfl) rfl) rfl) 20 (pb 7 (pb 21 (af (t := 20) (ab (ab (ab z))) rfl) rfl) rfl) 21 (pb 7 (af (t := 21) (ab (ab (ab (ab z)))) rfl) rfl) 7 (af (t := 7) (ab (ab (ab (ab (ab z))))) rfl) fun fa fw z q ow s0 s1 s4 s5 s19 s20 s21 s7 => ?_; refine ae (v := .slice LA L.length lc) (ag rfl) (aq rfl s19) ?_
  refine cc ow 0 0 (ag rfl) rfl rfl (pb 6 s7 rfl) (pb 6 s20 rfl) (by kernel_rfl) rfl rfl rfl fun fw ow => ?_; refine ae (v := .bool true) (ag rfl) (aq rfl (pb 6 s21 rfl)) ?_; refine gt7 (ab (ab z)) (ac (ac q)) ow 0 (pb 8 (pb 6 s0 rfl) rfl) 1 (pb 8 (pb 6 s1 rfl) rfl) 4 (pb 8 (pb 6 s4 rfl) rfl) 5 (pb 8 (pb 6 s5 rfl) rfl) 7 (pb 8 (pb 6 s7 rfl) rfl) 6 (pb 8 (af (t := 6) z rfl) rfl) 8 (af (t := 8) (ab z) rfl) fun fa fw z q ow s0 s1 s4 s5 s7 s6 s8 => ?_; refine wt hK5 ?_; refine sq fun hK9 => ?_
  refine rgx [yV _, yV _] 2 81 z q ow (
    um s8 rfl <|
    ua (rno (zd 0)) rfl <|
    ah) fun fa fw bs hv ap z q ow => ?_
  obtain ⟨s0, s1, s4, s5, s7, s6⟩ := b6 bs s0 s1 s4 s5 s7 s6; have s23 := zh hv 1; refine wp_cond_false (s23) ?_; refine wp_skip ?_; refine tn hK9 ?_; refine sq fun hK11 => ?_; have ow := ow.perm (List.Perm.swap _ _ _)
  refine ro [yV _, yV _] 2 81 z q ow (
    um s5 rfl <|
    um s6 rfl <|
    ah) fun fa fw bs hv ap z q ow => ?_
  obtain ⟨s0, s1, s4⟩ := b3 bs s0 s1 s4; have s25 := zh hv 0; have s26 := zh hv 1; refine aO (ag rfl) (eP (F := m16 fn) (u := .slice LA L.length lc) rfl s25 s26 (Cz fn _ _)) ((yO hf ow rfl hL64 hLn).mono ?_); rintro _ fw ⟨rfl, hO⟩; refine ⟨_, rfl, ?_⟩; rcases (rfl : (0 : Nat) = 0) with _
  have ow := hO; refine cc ow 2 0 (ag rfl) rfl rfl (pb 27 s4 rfl) (af (t := 27) z rfl) (by kernel_rfl) rfl rfl rfl fun fw ow => ?_; refine gt3 (ab z) (ac q) ow 0 (pb 27 s0 rfl) 1 (pb 27 s1 rfl) 4 (pb 27 s4 rfl) fun fa fw z q ow s0 s1 s4 => ?_; refine wt hK11 ?_; refine wp_ret ?_; refine ao ?_; refine rs3 s4 (ow.box 2 rfl) q ?_; exact ⟨congrArg (fun v => Ending.returned (al v)) (by rw [hL]; exact (yR hf hfst).symm), ow.kept⟩
theorem wK (A : Option Addr) (cap : Nat) (a b : Ar) (w : World) (mx : Int) (HM : Mx w mx) (hr : ArgsAt w A [a, b]) (ha : bI a) (hb : bI b) (hla : a.l.length ≤ 900000) (hlb : b.l.length ≤ 900000) (hc : 2 ≤ cap) (hok : br a = true) (hob : br b = true) :
    Calls Tryz.prog 33 #[.int .u8 18, .slice A 2 cap] w fun e w' => e = .returned (al (eS 18 [a, b])) ∧ Kept w w' := by
  go_enter Tryz.func33, Tryz.ntmps33; refine sq fun hK1 => ?_
  refine ro [bJ w.heap.size (.cells #[.int .u8 0, .int .i64 0, .string ⟨[].toArray⟩] 25 (0, 0))] 1 81 rfl rfl (Own.start w) (
    uq4 <|
    ah) fun fa fw bs hv ap z q ov => ?_
  have s0 := bs.get 0 rfl rfl; have s1 := bs.get 1 rfl rfl; obtain ⟨gb1, s4, bgb1, hgb1⟩ := zn hv 0; have ov := ov.hc (Own.start w) bgb1 hgb1; have ow := ov; refine wt hK1 ?_; refine sq fun hK2 => ?_; refine sq fun hK3 => ?_; refine wp_region_lit ?_; refine aO (ag rfl) (fd rfl (bw _ _)) ((bZ _).mono ?_); rintro _ fw ⟨gb2, rfl, hb, hh, hk⟩; refine ⟨_, rfl, ?_⟩; have ow := ow.add (t := Th.obj gb2 (.map (cL 10) 10)) hh hk (fun g e => by cases e; exact hb); clear hb hh hk; have him : Instr.findNow (.int .u8) (.int .u8 (18 : Nat)) (cL 10).toList 0 = some none := by kernel_rfl
  refine ae (v := .int .u8 18) (ag rfl) (ce rfl (pb 11 s0 rfl)) ?_; refine ae (v := .nilFunc) (ag rfl) (dQ (k := 18) rfl (pb 12 (af (t := 11) z rfl) rfl) (af (t := 12) (ab z) rfl) (ow.get 0 rfl) him) ?_; refine ae (v := .nilFunc) (ag rfl) (aq rfl (af (t := 13) (ab (ab z)) rfl)) ?_; refine gt4 (ab (ab (ab (ab z)))) (ac (ac (ac (ac q)))) ow 0 (pb 5 (pb 13 (pb 12 (pb 11 s0 rfl) rfl) rfl) rfl) 1 (pb 5 (pb 13 (pb 12 (pb 11 s1 rfl) rfl) rfl) rfl) 4 (pb 5 (pb 13 (pb 12 (pb 11 s4 rfl) rfl) rfl) rfl) 5 (af (t := 5) (ab (ab (ab z))) rfl) fun fa fw z q ow s0 s1 s4 s5 => ?_; refine wt hK3 ?_
  refine rgx [yV _, yV _] 2 81 z q ow (
    um s5 rfl <|
    aS (fun hk bs hd => xp rfl (dp hd 0 rfl)) rfl <|
    ah) fun fa fw bs hv ap z q ow => ?_
  obtain ⟨s0, s1, s4, s5⟩ := b4 bs s0 s1 s4 s5; have s15 := zh hv 1; refine wp_cond_false (s15) ?_; refine wp_skip ?_; refine tn hK2 ?_; refine sq fun hK5 => ?_
  refine rgx [yV _] 1 81 z q ow (
    um s0 rfl <|
    ah) fun fa fw bs hv ap z q ow => ?_
  obtain ⟨s0, s1, s4⟩ := b3 bs s0 s1 s4; have s28 := zh hv 0; refine wp_block ?_; refine sq fun hK7 => ?_
  refine rgx [yV (.bool true), yV _] 2 81 z q ow (
    ub (req (zt s28) zc) rfl <|
    uq3 0 rfl rfl <|
    ah) fun fa fw bs hv ap z q ow => ?_
  obtain ⟨s0, s1, s4, s28⟩ := b4 bs s0 s1 s4 s28; have s29 := zh hv 1; refine wp_cond_true (s29) ?_; refine wp_skip ?_; refine tn hK7 ?_; refine wp_cond_true (s29) ?_; refine sq fun hK9 => ?_
  refine ro [yV _, yV _, yV (.bool true), yV (al (eK a b.v true))] 4 81 z q ow (
    um s1 rfl <|
    um s0 rfl <|
    ub (req (zd 1) zc) rfl <|
    uc (rc2 (zd 0) (zd 2) jh) (fun hk => li A cap a b true _ mx (HM.kept (ow.keep hk).kept) (hr.kept (ow.keep hk).kept) ha hb hla hc) rfl <|
    ah) fun fa fw bs hv ap z q ow => ?_
  obtain ⟨s0, s1, s4⟩ := b3 bs s0 s1 s4; have s35 := zh hv 3; refine ws ow 1 0 s4 s35 fun fw ow => ?_; refine wt hK9 ?_; refine wp_ret ?_; refine aD ?_; refine ao ?_; refine rs3 s4 (ow.box 1 rfl) q ?_; exact ⟨rfl, ow.kept⟩
theorem wL (A : Option Addr) (cap : Nat) (a b : Ar) (w : World) (mx : Int) (HM : Mx w mx) (hr : ArgsAt w A [a, b]) (ha : bI a) (hb : bI b) (hla : a.l.length ≤ 900000) (hlb : b.l.length ≤ 900000) (hc : 2 ≤ cap) (hok : br a = true) (hob : br b = true) :
    Calls Tryz.prog 33 #[.int .u8 19, .slice A 2 cap] w fun e w' => e = .returned (al (eS 19 [a, b])) ∧ Kept w w' := by
  go_enter Tryz.func33, Tryz.ntmps33; refine sq fun hK1 => ?_
  refine ro [bJ w.heap.size (.cells #[.int .u8 0, .int .i64 0, .string ⟨[].toArray⟩] 25 (0, 0))] 1 81 rfl rfl (Own.start w) (
    uq4 <|
    ah) fun fa fw bs hv ap z q ov => ?_
  have s0 := bs.get 0 rfl rfl; have s1 := bs.get 1 rfl rfl; obtain ⟨gb1, s4, bgb1, hgb1⟩ := zn hv 0; have ov := ov.hc (Own.start w) bgb1 hgb1; have ow := ov; refine wt hK1 ?_; refine sq fun hK2 => ?_; refine sq fun hK3 => ?_; refine wp_region_lit ?_; refine aO (ag rfl) (fd rfl (bw _ _)) ((bZ _).mono ?_); rintro _ fw ⟨gb2, rfl, hb, hh, hk⟩; refine ⟨_, rfl, ?_⟩; have ow := ow.add (t := Th.obj gb2 (.map (cL 10) 10)) hh hk (fun g e => by cases e; exact hb); clear hb hh hk; have him : Instr.findNow (.int .u8) (.int .u8 (19 : Nat)) (cL 10).toList 0 = some none := by kernel_rfl
  refine ae (v := .int .u8 19) (ag rfl) (ce rfl (pb 11 s0 rfl)) ?_; refine ae (v := .nilFunc) (ag rfl) (dQ (k := 19) rfl (pb 12 (af (t := 11) z rfl) rfl) (af (t := 12) (ab z) rfl) (ow.get 0 rfl) him) ?_; refine ae (v := .nilFunc) (ag rfl) (aq rfl (af (t := 13) (ab (ab z)) rfl)) ?_; refine gt4 (ab (ab (ab (ab z)))) (ac (ac (ac (ac q)))) ow 0 (pb 5 (pb 13 (pb 12 (pb 11 s0 rfl) rfl) rfl) rfl) 1 (pb 5 (pb 13 (pb 12 (pb 11 s1 rfl) rfl) rfl) rfl) 4 (pb 5 (pb 13 (pb 12 (pb 11 s4 rfl) rfl) rfl) rfl) 5 (af (t := 5) (ab (ab (ab z))) rfl) fun fa fw z q ow s0 s1 s4 s5 => ?_; refine wt hK3 ?_
  refine rgx [yV _, yV _] 2 81 z q ow (
    um s5 rfl <|
    aS (fun hk bs hd => xp rfl (dp hd 0 rfl)) rfl <|
    ah) fun fa fw bs hv ap z q ow => ?_
  obtain ⟨s0, s1, s4, s5⟩ := b4 bs s0 s1 s4 s5; have s15 := zh hv 1; refine wp_cond_false (s15) ?_; refine wp_skip ?_; refine tn hK2 ?_; refine sq fun hK5 => ?_
  refine rgx [yV _] 1 81 z q ow (
    um s0 rfl <|
    ah) fun fa fw bs hv ap z q ow => ?_
  obtain ⟨s0, s1, s4⟩ := b3 bs s0 s1 s4; have s28 := zh hv 0; refine wp_block ?_; refine sq fun hK7 => ?_
  refine rgx [yV (.bool false), yV _] 2 81 z q ow (
    ub (req (zt s28) zc) rfl <|
    uq3 0 rfl rfl <|
    ah) fun fa fw bs hv ap z q ow => ?_
  obtain ⟨s0, s1, s4, s28⟩ := b4 bs s0 s1 s4 s28; have s29 := zh hv 1; refine wp_cond_false (s29) ?_
  refine ro [yV (.bool true), yV _] 2 81 z q ow (
    ub (req (zt s28) zc) rfl <|
    uq3 0 rfl rfl <|
    ah) fun fa fw bs hv ap z q ow => ?_
  obtain ⟨s0, s1, s4, s28⟩ := b4 bs s0 s1 s4 s28; have s29 := zh hv 1; refine wt hK7 ?_; refine wp_cond_true (s29) ?_; refine sq fun hK9 => ?_
  refine ro [yV _, yV _, yV (.bool false), yV (al (eK a b.v false))] 4 81 z q ow (
    um s1 rfl <|
    um s0 rfl <|
    ub (req (zd 1) zc) rfl <|
    uc (rc2 (zd 0) (zd 2) jh) (fun hk => li A cap a b false _ mx (HM.kept (ow.keep hk).kept) (hr.kept (ow.keep hk).kept) ha hb hla hc) rfl <|
    ah) fun fa fw bs hv ap z q ow => ?_
  obtain ⟨s0, s1, s4⟩ := b3 bs s0 s1 s4; have s35 := zh hv 3; refine ws ow 1 0 s4 s35 fun fw ow => ?_; refine wt hK9 ?_; refine wp_ret ?_; refine aD ?_; refine ao ?_; refine rs3 s4 (ow.box 1 rfl) q ?_; exact ⟨rfl, ow.kept⟩
theorem wM (A : Option Addr) (cap : Nat) (a b : Ar) (w : World) (mx : Int) (HM : Mx w mx) (hr : ArgsAt w A [a, b]) (ha : bI a) (hb : bI b) (hla : a.l.length ≤ 900000) (hlb : b.l.length ≤ 900000) (hc : 2 ≤ cap) (hok : br a = true) (hob : br b = true) :
    Calls Tryz.prog 33 #[.int .u8 45, .slice A 2 cap] w fun e w' => e = .returned (al (eS 45 [a, b])) ∧ Kept w w' := by
  obtain ⟨bq0, o0, S0, z0, hA0, e0, q0, y0⟩ := hr.elem (i := 0) rfl; obtain ⟨bq1, o1, S1, z1, hA1, e1, q1, y1⟩ := hr.elem (i := 1) rfl; obtain ⟨xa, la, ea⟩ : ∃ x l, av a = (x, l) := ⟨_, _, rfl⟩; obtain ⟨hla2, hls⟩ := mw ea ha (by omega); go_enter Tryz.func33, Tryz.ntmps33; refine sq fun hK1 => ?_
  refine ro [bJ w.heap.size (.cells #[.int .u8 0, .int .i64 0, .string ⟨[].toArray⟩] 25 (0, 0))] 1 81 rfl rfl (Own.start w) (
    uq4 <|
    ah) fun fa fw bs hv ap z q ov => ?_
  have s0 := bs.get 0 rfl rfl; have s1 := bs.get 1 rfl rfl; obtain ⟨gb1, s4, bgb1, hgb1⟩ := zn hv 0; have ov := ov.hc (Own.start w) bgb1 hgb1; have ow := ov; refine wt hK1 ?_; refine sq fun hK2 => ?_; refine sq fun hK3 => ?_; refine wp_region_lit ?_; refine aO (ag rfl) (fd rfl (bw _ _)) ((bZ _).mono ?_); rintro _ fw ⟨gb2, rfl, hb, hh, hk⟩; refine ⟨_, rfl, ?_⟩; have ow := ow.add (t := Th.obj gb2 (.map (cL 10) 10)) hh hk (fun g e => by cases e; exact hb); clear hb hh hk; have him : Instr.findNow (.int .u8) (.int .u8 (45 : Nat)) (cL 10).toList 0 = some none := by kernel_rfl
  refine ae (v := .int .u8 45) (ag rfl) (ce rfl (pb 11 s0 rfl)) ?_; refine ae (v := .nilFunc) (ag rfl) (dQ (k := 45) rfl (pb 12 (af (t := 11) z rfl) rfl) (af (t := 12) (ab z) rfl) (ow.get 0 rfl) him) ?_; refine ae (v := .nilFunc) (ag rfl) (aq rfl (af (t := 13) (ab (ab z)) rfl)) ?_; refine gt4 (ab (ab (ab (ab z)))) (ac (ac (ac (ac q)))) ow 0 (pb 5 (pb 13 (pb 12 (pb 11 s0 rfl) rfl) rfl) rfl) 1 (pb 5 (pb 13 (pb 12 (pb 11 s1 rfl) rfl) rfl) rfl) 4 (pb 5 (pb 13 (pb 12 (pb 11 s4 rfl) rfl) rfl) rfl) 5 (af (t := 5) (ab (ab (ab z))) rfl) fun fa fw z q ow s0 s1 s4 s5 => ?_; refine wt hK3 ?_
  refine rgx [yV _, yV _] 2 81 z q ow (
    um s5 rfl <|
    aS (fun hk bs hd => xp rfl (dp hd 0 rfl)) rfl <|
    ah) fun fa fw bs hv ap z q ow => ?_
  obtain ⟨s0, s1, s4, s5⟩ := b4 bs s0 s1 s4 s5; have s15 := zh hv 1; refine wp_cond_false (s15) ?_; refine wp_skip ?_; refine tn hK2 ?_; refine sq fun hK5 => ?_
  refine rgx [yV _] 1 81 z q ow (
    um s0 rfl <|
    ah) fun fa fw bs hv ap z q ow => ?_
  obtain ⟨s0, s1, s4⟩ := b3 bs s0 s1 s4; have s28 := zh hv 0; refine wp_block ?_; refine sq fun hK7 => ?_
  refine rgx [yV (.bool false), yV _] 2 81 z q ow (
    ub (req (zt s28) zc) rfl <|
    uq3 0 rfl rfl <|
    ah) fun fa fw bs hv ap z q ow => ?_
  obtain ⟨s0, s1, s4, s28⟩ := b4 bs s0 s1 s4 s28; have s29 := zh hv 1; refine wp_cond_false (s29) ?_
  refine ro [yV (.bool false), yV _] 2 81 z q ow (
    ub (req (zt s28) zc) rfl <|
    uq3 0 rfl rfl <|
    ah) fun fa fw bs hv ap z q ow => ?_
  obtain ⟨s0, s1, s4, s28⟩ := b4 bs s0 s1 s4 s28; have s29 := zh hv 1; refine wt hK7 ?_; refine wp_cond_false (s29) ?_
  refine rgx [yV (.bool true), yV _] 2 81 z q ow (
    ub (req (zt s28) zc) rfl <|
    uq3 0 rfl rfl <|
    ah) fun fa fw bs hv ap z q ow => ?_
  obtain ⟨s0, s1, s4, s28⟩ := b4 bs s0 s1 s4 s28; have s36 := zh hv 1; refine wp_cond_true (s36) ?_; refine sq fun hK10 => ?_; refine sq fun hK11 => ?_
  refine ro [yV _, yV _, yV (.pointer (some ⟨bq1, o1 + 1 * 9 + 1, none⟩)), yV (al b.v), bJ fw.heap.size (.cells #[.int .u8 0, .int .i64 0, .string ⟨[].toArray⟩] 25 (0, 0))] 5 81 z q ow (
    um s1 rfl <|
    ua (rp0 9 Tryz.underlying22 hA1 (zd 0) zc) rfl <|
    ua (rfa (zd 1)) rfl <|
    ua (rpk 3 1 e1 ow (zd 2)) rfl <|
    uq4 <|
    ah) fun fa fw bs hv ap z q ov => ?_
  obtain ⟨s0, s1, s4⟩ := b3 bs s0 s1 s4; have s41 := zh hv 3; obtain ⟨gb3, s9, bgb3, hgb3⟩ := zn hv 4; have ov := ov.hc ow bgb3 hgb3; have ow := ov; refine ws ow 0 0 s9 s41 fun fw ow => ?_; refine wt hK11 ?_
  refine rgx [yV (.pointer (some ⟨gb3, 0, none⟩)), yV _, yV _] 3 81 z q ow (
    ua (rfa (zt s9)) rfl <|
    ua (rlb ow 0 (zd 0)) rfl <|
    ua (req (zd 1) zc) rfl <|
    ah) fun fa fw bs hv ap z q ow => ?_
  obtain ⟨s0, s1, s4, s9⟩ := b4 bs s0 s1 s4 s9; have s44 := zh hv 2
  by_cases hc1 : (b.v.k : Int) = (4 : Int)
  ·refine ct s44 ((decide_eq_true_iff).2 hc1) ?_
   refine sq fun hK13 => ?_
   refine ro [yV (al b.v)] 1 81 z q ow (
     ua (rln 3 ow 0 (zt s9)) rfl <|
     ah) fun fa fw bs hv ap z q ow => ?_
   obtain ⟨s0, s1, s4⟩ := b3 bs s0 s1 s4; have s45 := zh hv 0; refine ws ow 2 0 s4 s45 fun fw ow => ?_; refine wt hK13 ?_; refine wp_ret ?_; refine ao ?_; refine aD ?_; refine ao ?_; refine rs3 s4 (ow.box 2 rfl) q ?_; exact ⟨congrArg (fun v => Ending.returned (al v)) (show _ = ev a b.v from (A7 hc1).symm), ow.kept⟩
  refine cf s44 (decide_eq_true_iff) hc1 ?_; refine wp_skip ?_; refine tn hK10 ?_; refine sq fun hK14 => ?_
  refine ro [yV _, yV _, yV (.agg #[.bool a.w, .int .u8 a.v.k, .int .i64 a.v.n, .string ⟨a.v.t.toArray⟩, .int .i64 a.x.c1, .int .i64 a.x.r1, .int .i64 a.x.c2, .int .i64 a.x.r2, .slice S0 a.l.length z0]), yP (tw xa la) lj, yV _, yV _, yV (.pointer (some ⟨bq1, o1 + 1 * 9 + 1, none⟩)), yV (al b.v), yV (al (Ak xa la b.v))] 9 81 z q ow (
    um s1 rfl <|
    ua (rp0 9 Tryz.underlying22 hA0 (zd 0) zc) rfl <|
    ua (rpk 9 0 e0 ow (zd 1)) rfl <|
    arm (fun aa ww hk bs hd => by
      have d2 := dp hd 2 rfl; exact aB (ag rfl) (cz (u := .agg #[.bool a.w, .int .u8 a.v.k, .int .i64 a.v.n, .string ⟨a.v.t.toArray⟩, .int .i64 a.x.c1, .int .i64 a.x.r1, .int .i64 a.x.c2, .int .i64 a.x.r2, .slice S0 a.l.length z0]) rfl (d2) (eA _ _)) ((wI ea (q0.kept (ow.keep hk).kept) y0).mono fun _ _ ⟨A2, c2, he, hR, hc2, hk2⟩ => ⟨_, he, ⟨A2, c2, rfl, hR, hc2⟩, hk2⟩) rfl
      ) <|
    um s1 rfl <|
    ua (rp0 9 Tryz.underlying22 hA1 (zd 4) zc) rfl <|
    ua (rfa (zd 5)) rfl <|
    ua (rpk 3 1 e1 ow (zd 6)) rfl <|
    arm (fun aa ww hk bs hd => by
      have d7 := dp hd 7 rfl; obtain ⟨A2, c2, e3, hR, hc2⟩ := (show tw xa la (aa.eval (.tmp 49)) ww from fy hd 3 rfl); exact aB (ag rfl) (rf (u := .agg #[.int .i64 xa.c1, .int .i64 xa.r1, .int .i64 xa.c2, .int .i64 xa.r2, .slice A2 la.length c2]) (v := al b.v) rfl e3 (d7) (lI _ _)) ((oD xa la A2 c2 b.v ww hR hla2 hb.1 hls).mono fun _ _ ⟨he, hk2⟩ => ⟨_, he, rfl, hk2⟩) rfl
      ) <|
    ah) fun fa fw bs hv ap z q ow => ?_
  obtain ⟨s0, s1, s4⟩ := b3 bs s0 s1 s4; have s54 := zh hv 8; refine ws ow 2 0 s4 s54 fun fw ow => ?_; refine wt hK14 ?_; refine wp_ret ?_; refine aD ?_; refine ao ?_; refine rs3 s4 (ow.box 2 rfl) q ?_; exact ⟨congrArg (fun v => Ending.returned (al v)) (show _ = ev a b.v from A8 ea hc1), ow.kept⟩
theorem wN (A : Option Addr) (cap : Nat) (a b : Ar) (w : World) (mx : Int) (HM : Mx w mx) (hr : ArgsAt w A [a, b]) (ha : bI a) (hb : bI b) (hla : a.l.length ≤ 900000) (hlb : b.l.length ≤ 900000) (hc : 2 ≤ cap) (hok : br a = true) (hob : br b = true) :
    Calls Tryz.prog 33 #[.int .u8 44, .slice A 2 cap] w fun e w' => e = .returned (al (eS 44 [a, b])) ∧ Kept w w' := by
  obtain ⟨bq0, o0, S0, z0, hA0, e0, q0, y0⟩ := hr.elem (i := 0) rfl; obtain ⟨bq1, o1, S1, z1, hA1, e1, q1, y1⟩ := hr.elem (i := 1) rfl; obtain ⟨xb, lb, eb⟩ : ∃ x l, av b = (x, l) := ⟨_, _, rfl⟩; obtain ⟨hlb2, hls⟩ := mw eb hb (by omega); have hox : okR xb = true := by have := qA hob; rw [eb] at this; exact this
  have hfi := wJ eb hob; go_enter Tryz.func33, Tryz.ntmps33; refine sq fun hK1 => ?_
  refine ro [bJ w.heap.size (.cells #[.int .u8 0, .int .i64 0, .string ⟨[].toArray⟩] 25 (0, 0))] 1 81 rfl rfl (Own.start w) (
    uq4 <|
    ah) fun fa fw bs hv ap z q ov => ?_
  have s0 := bs.get 0 rfl rfl; have s1 := bs.get 1 rfl rfl; obtain ⟨gb1, s4, bgb1, hgb1⟩ := zn hv 0; have ov := ov.hc (Own.start w) bgb1 hgb1; have ow := ov; refine wt hK1 ?_; refine sq fun hK2 => ?_; refine sq fun hK3 => ?_; refine wp_region_lit ?_; refine aO (ag rfl) (fd rfl (bw _ _)) ((bZ _).mono ?_); rintro _ fw ⟨gb2, rfl, hb, hh, hk⟩; refine ⟨_, rfl, ?_⟩; have ow := ow.add (t := Th.obj gb2 (.map (cL 10) 10)) hh hk (fun g e => by cases e; exact hb); clear hb hh hk; have him : Instr.findNow (.int .u8) (.int .u8 (44 : Nat)) (cL 10).toList 0 = some none := by kernel_rfl
  refine ae (v := .int .u8 44) (ag rfl) (ce rfl (pb 11 s0 rfl)) ?_; refine ae (v := .nilFunc) (ag rfl) (dQ (k := 44) rfl (pb 12 (af (t := 11) z rfl) rfl) (af (t := 12) (ab z) rfl) (ow.get 0 rfl) him) ?_; refine ae (v := .nilFunc) (ag rfl) (aq rfl (af (t := 13) (ab (ab z)) rfl)) ?_; refine gt4 (ab (ab (ab (ab z)))) (ac (ac (ac (ac q)))) ow 0 (pb 5 (pb 13 (pb 12 (pb 11 s0 rfl) rfl) rfl) rfl) 1 (pb 5 (pb 13 (pb 12 (pb 11 s1 rfl) rfl) rfl) rfl) 4 (pb 5 (pb 13 (pb 12 (pb 11 s4 rfl) rfl) rfl) rfl) 5 (af (t := 5) (ab (ab (ab z))) rfl) fun fa fw z q ow s0 s1 s4 s5 => ?_; refine wt hK3 ?_
  refine rgx [yV _, yV _] 2 81 z q ow (
    um s5 rfl <|
    aS (fun hk bs hd => xp rfl (dp hd 0 rfl)) rfl <|
    ah) fun fa fw bs hv ap z q ow => ?_
  obtain ⟨s0, s1, s4, s5⟩ := b4 bs s0 s1 s4 s5; have s15 := zh hv 1; refine wp_cond_false (s15) ?_; refine wp_skip ?_; refine tn hK2 ?_; refine sq fun hK5 => ?_
  refine rgx [yV _] 1 81 z q ow (
    um s0 rfl <|
    ah) fun fa fw bs hv ap z q ow => ?_
  obtain ⟨s0, s1, s4⟩ := b3 bs s0 s1 s4; have s28 := zh hv 0; refine wp_block ?_; refine sq fun hK7 => ?_
  refine rgx [yV (.bool false), yV _] 2 81 z q ow (
    ub (req (zt s28) zc) rfl <|
    uq3 0 rfl rfl <|
    ah) fun fa fw bs hv ap z q ow => ?_
  obtain ⟨s0, s1, s4, s28⟩ := b4 bs s0 s1 s4 s28; have s29 := zh hv 1; refine wp_cond_false (s29) ?_
  refine ro [yV (.bool false), yV _] 2 81 z q ow (
    ub (req (zt s28) zc) rfl <|
    uq3 0 rfl rfl <|
    ah) fun fa fw bs hv ap z q ow => ?_
  obtain ⟨s0, s1, s4, s28⟩ := b4 bs s0 s1 s4 s28; have s29 := zh hv 1; refine wt hK7 ?_; refine wp_cond_false (s29) ?_
  refine rgx [yV (.bool false), yV _] 2 81 z q ow (
    ub (req (zt s28) zc) rfl <|
    uq3 0 rfl rfl <|
    ah) fun fa fw bs hv ap z q ow => ?_
  obtain ⟨s0, s1, s4, s28⟩ := b4 bs s0 s1 s4 s28; have s36 := zh hv 1; refine wp_cond_false (s36) ?_
  refine rgx [yV (.bool true), yV _] 2 81 z q ow (
    ub (req (zt s28) zc) rfl <|
    uq3 0 rfl rfl <|
    ah) fun fa fw bs hv ap z q ow => ?_
  obtain ⟨s0, s1, s4, s28⟩ := b4 bs s0 s1 s4 s28; have s55 := zh hv 1; refine wp_cond_true (s55) ?_; refine sq fun hK11 => ?_; refine sq fun hK12 => ?_
  refine ro [yV _, yV _, yV (.pointer (some ⟨bq0, o0 + 0 * 9 + 1, none⟩)), yV (al a.v), bJ fw.heap.size (.cells #[.int .u8 0, .int .i64 0, .string ⟨[].toArray⟩] 25 (0, 0))] 5 81 z q ow (
    um s1 rfl <|
    ua (rp0 9 Tryz.underlying22 hA0 (zd 0) zc) rfl <|
    ua (rfa (zd 1)) rfl <|
    ua (rpk 3 1 e0 ow (zd 2)) rfl <|
    uq4 <|
    ah) fun fa fw bs hv ap z q ov => ?_
  obtain ⟨s0, s1, s4⟩ := b3 bs s0 s1 s4; have s60 := zh hv 3; obtain ⟨gb3, s10, bgb3, hgb3⟩ := zn hv 4; have ov := ov.hc ow bgb3 hgb3; have ow := ov; refine ws ow 0 0 s10 s60 fun fw ow => ?_; refine wt hK12 ?_
  refine rgx [yV (.pointer (some ⟨gb3, 0, none⟩)), yV _, yV _] 3 81 z q ow (
    ua (rfa (zt s10)) rfl <|
    ua (rlb ow 0 (zd 0)) rfl <|
    ua (req (zd 1) zc) rfl <|
    ah) fun fa fw bs hv ap z q ow => ?_
  obtain ⟨s0, s1, s4, s10⟩ := b4 bs s0 s1 s4 s10; have s63 := zh hv 2
  by_cases hc1 : (a.v.k : Int) = (4 : Int)
  ·refine ct s63 ((decide_eq_true_iff).2 hc1) ?_
   refine sq fun hK14 => ?_
   refine ro [yV (al a.v)] 1 81 z q ow (
     ua (rln 3 ow 0 (zt s10)) rfl <|
     ah) fun fa fw bs hv ap z q ow => ?_
   obtain ⟨s0, s1, s4⟩ := b3 bs s0 s1 s4; have s64 := zh hv 0; refine ws ow 2 0 s4 s64 fun fw ow => ?_; refine wt hK14 ?_; refine wp_ret ?_; refine ao ?_; refine aD ?_; refine ao ?_; refine rs3 s4 (ow.box 2 rfl) q ?_; exact ⟨congrArg (fun v => Ending.returned (al v)) (show _ = fG a.v b from (Ba hc1).symm), ow.kept⟩
  refine cf s63 (decide_eq_true_iff) hc1 ?_; refine wp_skip ?_; refine tn hK11 ?_; refine sq fun hK15 => ?_
  refine ro [yV _, yV _, yV (.pointer (some ⟨bq0, o0 + 0 * 9 + 1, none⟩)), yV (al a.v), yV _, yV _, yV (.agg #[.bool b.w, .int .u8 b.v.k, .int .i64 b.v.n, .string ⟨b.v.t.toArray⟩, .int .i64 b.x.c1, .int .i64 b.x.r1, .int .i64 b.x.c2, .int .i64 b.x.r2, .slice S1 b.l.length z1]), yP (tw xb lb) lj, yV (al (qj xb lb a.v))] 9 81 z q ow (
    um s1 rfl <|
    ua (rp0 9 Tryz.underlying22 hA0 (zd 0) zc) rfl <|
    ua (rfa (zd 1)) rfl <|
    ua (rpk 3 1 e0 ow (zd 2)) rfl <|
    um s1 rfl <|
    ua (rp0 9 Tryz.underlying22 hA1 (zd 4) zc) rfl <|
    ua (rpk 9 0 e1 ow (zd 5)) rfl <|
    arm (fun aa ww hk bs hd => by
      have d6 := dp hd 6 rfl; exact aB (ag rfl) (cz (u := .agg #[.bool b.w, .int .u8 b.v.k, .int .i64 b.v.n, .string ⟨b.v.t.toArray⟩, .int .i64 b.x.c1, .int .i64 b.x.r1, .int .i64 b.x.c2, .int .i64 b.x.r2, .slice S1 b.l.length z1]) rfl (d6) (eA _ _)) ((wI eb (q1.kept (ow.keep hk).kept) y1).mono fun _ _ ⟨A2, c2, he, hR, hc2, hk2⟩ => ⟨_, he, ⟨A2, c2, rfl, hR, hc2⟩, hk2⟩) rfl
      ) <|
    arm (fun aa ww hk bs hd => by
      have d3 := dp hd 3 rfl; obtain ⟨A2, c2, e7, hR, hc2⟩ := (show tw xb lb (aa.eval (.tmp 72)) ww from fy hd 7 rfl); exact aB (ag rfl) (rf (u := al a.v) (v := .agg #[.int .i64 xb.c1, .int .i64 xb.r1, .int .i64 xb.c2, .int .i64 xb.r2, .slice A2 lb.length c2]) rfl (d3) e7 (po _ _)) ((sU xb lb A2 c2 a.v ww hR hlb2 ha.1 hls hox hfi).mono fun _ _ ⟨he, hk2⟩ => ⟨_, he, rfl, hk2⟩) rfl
      ) <|
    ah) fun fa fw bs hv ap z q ow => ?_
  obtain ⟨s0, s1, s4⟩ := b3 bs s0 s1 s4; have s73 := zh hv 8; refine ws ow 2 0 s4 s73 fun fw ow => ?_; refine wt hK15 ?_; refine wp_ret ?_; refine aD ?_; refine ao ?_; refine rs3 s4 (ow.box 2 rfl) q ?_; exact ⟨congrArg (fun v => Ending.returned (al v)) (show _ = fG a.v b from Bb eb hc1), ow.kept⟩
theorem tx (A : Option Addr) (cap : Nat) (a b : Ar) (w : World) (mx : Int) (HM : Mx w mx) (hr : ArgsAt w A [a, b]) (ha : bI a) (hb : bI b) (hla : a.l.length ≤ 900000) (hlb : b.l.length ≤ 900000) (hc : 2 ≤ cap) (hok : br a = true) (hob : br b = true) :
    Calls Tryz.prog 33 #[.int .u8 43, .slice A 2 cap] w fun e w' => e = .returned (al (eS 43 [a, b])) ∧ Kept w w' := by
  go_enter Tryz.func33, Tryz.ntmps33; refine sq fun hK1 => ?_
  refine ro [bJ w.heap.size (.cells #[.int .u8 0, .int .i64 0, .string ⟨[].toArray⟩] 25 (0, 0))] 1 81 rfl rfl (Own.start w) (
    uq4 <|
    ah) fun fa fw bs hv ap z q ov => ?_
  have s0 := bs.get 0 rfl rfl; have s1 := bs.get 1 rfl rfl; obtain ⟨gb1, s4, bgb1, hgb1⟩ := zn hv 0; have ov := ov.hc (Own.start w) bgb1 hgb1; have ow := ov; refine wt hK1 ?_; refine sq fun hK2 => ?_; refine sq fun hK3 => ?_; refine wp_region_lit ?_; refine aO (ag rfl) (fd rfl (bw _ _)) ((bZ _).mono ?_); rintro _ fw ⟨gb2, rfl, hb, hh, hk⟩; refine ⟨_, rfl, ?_⟩; have ow := ow.add (t := Th.obj gb2 (.map (cL 10) 10)) hh hk (fun g e => by cases e; exact hb); clear hb hh hk; have him : Instr.findNow (.int .u8) (.int .u8 (43 : Nat)) (cL 10).toList 0 = some none := by kernel_rfl
  refine ae (v := .int .u8 43) (ag rfl) (ce rfl (pb 11 s0 rfl)) ?_; refine ae (v := .nilFunc) (ag rfl) (dQ (k := 43) rfl (pb 12 (af (t := 11) z rfl) rfl) (af (t := 12) (ab z) rfl) (ow.get 0 rfl) him) ?_; refine ae (v := .nilFunc) (ag rfl) (aq rfl (af (t := 13) (ab (ab z)) rfl)) ?_; refine gt4 (ab (ab (ab (ab z)))) (ac (ac (ac (ac q)))) ow 0 (pb 5 (pb 13 (pb 12 (pb 11 s0 rfl) rfl) rfl) rfl) 1 (pb 5 (pb 13 (pb 12 (pb 11 s1 rfl) rfl) rfl) rfl) 4 (pb 5 (pb 13 (pb 12 (pb 11 s4 rfl) rfl) rfl) rfl) 5 (af (t := 5) (ab (ab (ab z))) rfl) fun fa fw z q ow s0 s1 s4 s5 => ?_; refine wt hK3 ?_
  refine rgx [yV _, yV _] 2 81 z q ow (
    um s5 rfl <|
    aS (fun hk bs hd => xp rfl (dp hd 0 rfl)) rfl <|
    ah) fun fa fw bs hv ap z q ow => ?_
  obtain ⟨s0, s1, s4, s5⟩ := b4 bs s0 s1 s4 s5; have s15 := zh hv 1; refine wp_cond_false (s15) ?_; refine wp_skip ?_; refine tn hK2 ?_; refine sq fun hK5 => ?_
  refine rgx [yV _] 1 81 z q ow (
    um s0 rfl <|
    ah) fun fa fw bs hv ap z q ow => ?_
  obtain ⟨s0, s1, s4⟩ := b3 bs s0 s1 s4; have s28 := zh hv 0; refine wp_block ?_; refine sq fun hK7 => ?_
  refine rgx [yV (.bool false), yV _] 2 81 z q ow (
    ub (req (zt s28) zc) rfl <|
    uq3 0 rfl rfl <|
    ah) fun fa fw bs hv ap z q ow => ?_
  obtain ⟨s0, s1, s4, s28⟩ := b4 bs s0 s1 s4 s28; have s29 := zh hv 1; refine wp_cond_false (s29) ?_
  refine ro [yV (.bool false), yV _] 2 81 z q ow (
    ub (req (zt s28) zc) rfl <|
    uq3 0 rfl rfl <|
    ah) fun fa fw bs hv ap z q ow => ?_
  obtain ⟨s0, s1, s4, s28⟩ := b4 bs s0 s1 s4 s28; have s29 := zh hv 1; refine wt hK7 ?_; refine wp_cond_false (s29) ?_
  refine rgx [yV (.bool false), yV _] 2 81 z q ow (
    ub (req (zt s28) zc) rfl <|
    uq3 0 rfl rfl <|
    ah) fun fa fw bs hv ap z q ow => ?_
  obtain ⟨s0, s1, s4, s28⟩ := b4 bs s0 s1 s4 s28; have s36 := zh hv 1; refine wp_cond_false (s36) ?_
  refine rgx [yV (.bool false), yV _] 2 81 z q ow (
    ub (req (zt s28) zc) rfl <|
    uq3 0 rfl rfl <|
    ah) fun fa fw bs hv ap z q ow => ?_
  obtain ⟨s0, s1, s4, s28⟩ := b4 bs s0 s1 s4 s28; have s55 := zh hv 1; refine wp_cond_false (s55) ?_
  refine rgx [yV (.bool true), yV _] 2 81 z q ow (
    ub (req (zt s28) zc) rfl <|
    uq3 0 rfl rfl <|
    ah) fun fa fw bs hv ap z q ow => ?_
  obtain ⟨s0, s1, s4⟩ := b3 bs s0 s1 s4; have s74 := zh hv 1; refine wp_cond_true (s74) ?_; refine sq fun hK12 => ?_
  refine ro [yV _, yV (al (cm a [b.v]))] 2 81 z q ow (
    um s1 rfl <|
    uc (rc1 (zd 0) lk) (fun hk => CF A cap a b _ mx (HM.kept (ow.keep hk).kept) (hr.kept (ow.keep hk).kept) hb.1 hla hok) rfl <|
    ah) fun fa fw bs hv ap z q ow => ?_
  obtain ⟨s0, s1, s4⟩ := b3 bs s0 s1 s4; have s77 := zh hv 1; refine ws ow 1 0 s4 s77 fun fw ow => ?_; refine wt hK12 ?_; refine wp_ret ?_; refine aD ?_; refine ao ?_; refine rs3 s4 (ow.box 1 rfl) q ?_; exact ⟨rfl, ow.kept⟩
theorem tz (A : Option Addr) (cap : Nat) (a b c : Ar) (w : World) (mx : Int) (HM : Mx w mx) (hr : ArgsAt w A [a, b, c]) (ha : bI a) (hb : bI b) (hc : bI c) (hla : a.l.length ≤ 900000) (hok : br a = true) :
    Calls Tryz.prog 33 #[.int .u8 43, .slice A 3 cap] w fun e w' => e = .returned (al (eS 43 [a, b, c])) ∧ Kept w w' := by
  go_enter Tryz.func33, Tryz.ntmps33; refine sq fun hK1 => ?_
  refine ro [bJ w.heap.size (.cells #[.int .u8 0, .int .i64 0, .string ⟨[].toArray⟩] 25 (0, 0))] 1 81 rfl rfl (Own.start w) (
    uq4 <|
    ah) fun fa fw bs hv ap z q ov => ?_
  have s0 := bs.get 0 rfl rfl; have s1 := bs.get 1 rfl rfl; obtain ⟨gb1, s4, bgb1, hgb1⟩ := zn hv 0; have ov := ov.hc (Own.start w) bgb1 hgb1; have ow := ov; refine wt hK1 ?_; refine sq fun hK2 => ?_; refine sq fun hK3 => ?_; refine wp_region_lit ?_; refine aO (ag rfl) (fd rfl (bw _ _)) ((bZ _).mono ?_); rintro _ fw ⟨gb2, rfl, hb, hh, hk⟩; refine ⟨_, rfl, ?_⟩; have ow := ow.add (t := Th.obj gb2 (.map (cL 10) 10)) hh hk (fun g e => by cases e; exact hb); clear hb hh hk; have him : Instr.findNow (.int .u8) (.int .u8 (43 : Nat)) (cL 10).toList 0 = some none := by kernel_rfl
  refine ae (v := .int .u8 43) (ag rfl) (ce rfl (pb 11 s0 rfl)) ?_; refine ae (v := .nilFunc) (ag rfl) (dQ (k := 43) rfl (pb 12 (af (t := 11) z rfl) rfl) (af (t := 12) (ab z) rfl) (ow.get 0 rfl) him) ?_; refine ae (v := .nilFunc) (ag rfl) (aq rfl (af (t := 13) (ab (ab z)) rfl)) ?_; refine gt4 (ab (ab (ab (ab z)))) (ac (ac (ac (ac q)))) ow 0 (pb 5 (pb 13 (pb 12 (pb 11 s0 rfl) rfl) rfl) rfl) 1 (pb 5 (pb 13 (pb 12 (pb 11 s1 rfl) rfl) rfl) rfl) 4 (pb 5 (pb 13 (pb 12 (pb 11 s4 rfl) rfl) rfl) rfl) 5 (af (t := 5) (ab (ab (ab z))) rfl) fun fa fw z q ow s0 s1 s4 s5 => ?_; refine wt hK3 ?_
  refine rgx [yV _, yV _] 2 81 z q ow (
    um s5 rfl <|
    aS (fun hk bs hd => xp rfl (dp hd 0 rfl)) rfl <|
    ah) fun fa fw bs hv ap z q ow => ?_
  obtain ⟨s0, s1, s4, s5⟩ := b4 bs s0 s1 s4 s5; have s15 := zh hv 1; refine wp_cond_false (s15) ?_; refine wp_skip ?_; refine tn hK2 ?_; refine sq fun hK5 => ?_
  refine rgx [yV _] 1 81 z q ow (
    um s0 rfl <|
    ah) fun fa fw bs hv ap z q ow => ?_
  obtain ⟨s0, s1, s4⟩ := b3 bs s0 s1 s4; have s28 := zh hv 0; refine wp_block ?_; refine sq fun hK7 => ?_
  refine rgx [yV (.bool false), yV _] 2 81 z q ow (
    ub (req (zt s28) zc) rfl <|
    uq3 0 rfl rfl <|
    ah) fun fa fw bs hv ap z q ow => ?_
  obtain ⟨s0, s1, s4, s28⟩ := b4 bs s0 s1 s4 s28; have s29 := zh hv 1; refine wp_cond_false (s29) ?_
  refine ro [yV (.bool false), yV _] 2 81 z q ow (
    ub (req (zt s28) zc) rfl <|
    uq3 0 rfl rfl <|
    ah) fun fa fw bs hv ap z q ow => ?_
  obtain ⟨s0, s1, s4, s28⟩ := b4 bs s0 s1 s4 s28; have s29 := zh hv 1; refine wt hK7 ?_; refine wp_cond_false (s29) ?_
  refine rgx [yV (.bool false), yV _] 2 81 z q ow (
    ub (req (zt s28) zc) rfl <|
    uq3 0 rfl rfl <|
    ah) fun fa fw bs hv ap z q ow => ?_
  obtain ⟨s0, s1, s4, s28⟩ := b4 bs s0 s1 s4 s28; have s36 := zh hv 1; refine wp_cond_false (s36) ?_
  refine rgx [yV (.bool false), yV _] 2 81 z q ow (
    ub (req (zt s28) zc) rfl <|
    uq3 0 rfl rfl <|
    ah) fun fa fw bs hv ap z q ow => ?_
  obtain ⟨s0, s1, s4, s28⟩ := b4 bs s0 s1 s4 s28; have s55 := zh hv 1; refine wp_cond_false (s55) ?_
  refine rgx [yV (.bool true), yV _] 2 81 z q ow (
    ub (req (zt s28) zc) rfl <|
    uq3 0 rfl rfl <|
    ah) fun fa fw bs hv ap z q ow => ?_
  obtain ⟨s0, s1, s4⟩ := b3 bs s0 s1 s4; have s74 := zh hv 1; refine wp_cond_true (s74) ?_; refine sq fun hK12 => ?_
  refine ro [yV _, yV (al (cm a [b.v, c.v]))] 2 81 z q ow (
    um s1 rfl <|
    uc (rc1 (zd 0) lk) (fun hk => CG A cap a b c _ mx (HM.kept (ow.keep hk).kept) (hr.kept (ow.keep hk).kept) hb.1 hc.1 hla hok) rfl <|
    ah) fun fa fw bs hv ap z q ow => ?_
  obtain ⟨s0, s1, s4⟩ := b3 bs s0 s1 s4; have s77 := zh hv 1; refine ws ow 1 0 s4 s77 fun fw ow => ?_; refine wt hK12 ?_; refine wp_ret ?_; refine aD ?_; refine ao ?_; refine rs3 s4 (ow.box 1 rfl) q ?_; exact ⟨rfl, ow.kept⟩
theorem wO (A : Option Addr) (cap : Nat) (l : List Ar) (w : World) (hr : ArgsAt w A l) (hl : l.length ≤ 1000) (hla : ∀ a ∈ l, a.l.length ≤ 900000) :
    Calls Tryz.prog 33 #[.int .u8 11, .slice A l.length cap] w fun e w' => e = .returned (al (eS 11 l)) ∧ Kept w w' := by
  go_enter Tryz.func33, Tryz.ntmps33; refine sq fun hK1 => ?_
  refine ro [bJ w.heap.size (.cells #[.int .u8 0, .int .i64 0, .string ⟨[].toArray⟩] 25 (0, 0))] 1 81 rfl rfl (Own.start w) (
    uq4 <|
    ah) fun fa fw bs hv ap z q ov => ?_
  have s0 := bs.get 0 rfl rfl; have s1 := bs.get 1 rfl rfl; obtain ⟨gb1, s4, bgb1, hgb1⟩ := zn hv 0; have ov := ov.hc (Own.start w) bgb1 hgb1; have ow := ov; refine wt hK1 ?_; refine sq fun hK2 => ?_; refine sq fun hK3 => ?_; refine wp_region_lit ?_; refine aO (ag rfl) (fd rfl (bw _ _)) ((bZ _).mono ?_); rintro _ fw ⟨gb2, rfl, hb, hh, hk⟩; refine ⟨_, rfl, ?_⟩; have ow := ow.add (t := Th.obj gb2 (.map (cL 10) 10)) hh hk (fun g e => by cases e; exact hb); clear hb hh hk; have him : Instr.findNow (.int .u8) (.int .u8 (11 : Nat)) (cL 10).toList 0 = some none := by kernel_rfl
  refine ae (v := .int .u8 11) (ag rfl) (ce rfl (pb 11 s0 rfl)) ?_; refine ae (v := .nilFunc) (ag rfl) (dQ (k := 11) rfl (pb 12 (af (t := 11) z rfl) rfl) (af (t := 12) (ab z) rfl) (ow.get 0 rfl) him) ?_; refine ae (v := .nilFunc) (ag rfl) (aq rfl (af (t := 13) (ab (ab z)) rfl)) ?_; refine gt4 (ab (ab (ab (ab z)))) (ac (ac (ac (ac q)))) ow 0 (pb 5 (pb 13 (pb 12 (pb 11 s0 rfl) rfl) rfl) rfl) 1 (pb 5 (pb 13 (pb 12 (pb 11 s1 rfl) rfl) rfl) rfl) 4 (pb 5 (pb 13 (pb 12 (pb 11 s4 rfl) rfl) rfl) rfl) 5 (af (t := 5) (ab (ab (ab z))) rfl) fun fa fw z q ow s0 s1 s4 s5 => ?_; refine wt hK3 ?_
  refine rgx [yV _, yV _] 2 81 z q ow (
    um s5 rfl <|
    aS (fun hk bs hd => xp rfl (dp hd 0 rfl)) rfl <|
    ah) fun fa fw bs hv ap z q ow => ?_
  obtain ⟨s0, s1, s4, s5⟩ := b4 bs s0 s1 s4 s5; have s15 := zh hv 1; refine wp_cond_false (s15) ?_; refine wp_skip ?_; refine tn hK2 ?_; refine sq fun hK5 => ?_
  refine rgx [yV _] 1 81 z q ow (
    um s0 rfl <|
    ah) fun fa fw bs hv ap z q ow => ?_
  obtain ⟨s0, s1, s4⟩ := b3 bs s0 s1 s4; have s28 := zh hv 0; refine wp_block ?_; refine sq fun hK7 => ?_
  refine rgx [yV (.bool false), yV _] 2 81 z q ow (
    ub (req (zt s28) zc) rfl <|
    uq3 0 rfl rfl <|
    ah) fun fa fw bs hv ap z q ow => ?_
  obtain ⟨s0, s1, s4, s28⟩ := b4 bs s0 s1 s4 s28; have s29 := zh hv 1; refine wp_cond_false (s29) ?_
  refine ro [yV (.bool false), yV _] 2 81 z q ow (
    ub (req (zt s28) zc) rfl <|
    uq3 0 rfl rfl <|
    ah) fun fa fw bs hv ap z q ow => ?_
  obtain ⟨s0, s1, s4, s28⟩ := b4 bs s0 s1 s4 s28; have s29 := zh hv 1; refine wt hK7 ?_; refine wp_cond_false (s29) ?_
  refine rgx [yV (.bool false), yV _] 2 81 z q ow (
    ub (req (zt s28) zc) rfl <|
    uq3 0 rfl rfl <|
    ah) fun fa fw bs hv ap z q ow => ?_
  obtain ⟨s0, s1, s4, s28⟩ := b4 bs s0 s1 s4 s28; have s36 := zh hv 1; refine wp_cond_false (s36) ?_
  refine rgx [yV (.bool false), yV _] 2 81 z q ow (
    ub (req (zt s28) zc) rfl <|
    uq3 0 rfl rfl <|
    ah) fun fa fw bs hv ap z q ow => ?_
  obtain ⟨s0, s1, s4, s28⟩ := b4 bs s0 s1 s4 s28; have s55 := zh hv 1; refine wp_cond_false (s55) ?_
  refine rgx [yV (.bool false), yV _] 2 81 z q ow (
    ub (req (zt s28) zc) rfl <|
    uq3 0 rfl rfl <|
    ah) fun fa fw bs hv ap z q ow => ?_
  obtain ⟨s0, s1, s4⟩ := b3 bs s0 s1 s4; have s74 := zh hv 1; refine wp_cond_false (s74) ?_; refine wp_skip ?_; refine bn ?_; refine tn hK5 ?_; refine sq fun hK12 => ?_
  refine ro [yV _, yV _, yV (al (aK (cR 11 l * 10000)))] 3 81 z q ow (
    um s0 rfl <|
    um s1 rfl <|
    uc (rc2 (zd 0) (zd 1) eO) (fun hk => gN 11 A cap l _ (hr.kept (ow.keep hk).kept) (fun a ha => Nat.le_trans (hla a ha) (by decide)) hl) rfl <|
    ah) fun fa fw bs hv ap z q ow => ?_
  have s4 := bg bs s4; have s80 := zh hv 2; refine ws ow 1 0 s4 s80 fun fw ow => ?_; refine wt hK12 ?_; refine wp_ret ?_; refine rs3 s4 (ow.box 1 rfl) q ?_; exact ⟨rfl, ow.kept⟩
theorem wP (A : Option Addr) (cap : Nat) (l : List Ar) (w : World) (hr : ArgsAt w A l) (hl : l.length ≤ 1000) (hla : ∀ a ∈ l, a.l.length ≤ 900000) :
    Calls Tryz.prog 33 #[.int .u8 12, .slice A l.length cap] w fun e w' => e = .returned (al (eS 12 l)) ∧ Kept w w' := by
  go_enter Tryz.func33, Tryz.ntmps33; refine sq fun hK1 => ?_
  refine ro [bJ w.heap.size (.cells #[.int .u8 0, .int .i64 0, .string ⟨[].toArray⟩] 25 (0, 0))] 1 81 rfl rfl (Own.start w) (
    uq4 <|
    ah) fun fa fw bs hv ap z q ov => ?_
  have s0 := bs.get 0 rfl rfl; have s1 := bs.get 1 rfl rfl; obtain ⟨gb1, s4, bgb1, hgb1⟩ := zn hv 0; have ov := ov.hc (Own.start w) bgb1 hgb1; have ow := ov; refine wt hK1 ?_; refine sq fun hK2 => ?_; refine sq fun hK3 => ?_; refine wp_region_lit ?_; refine aO (ag rfl) (fd rfl (bw _ _)) ((bZ _).mono ?_); rintro _ fw ⟨gb2, rfl, hb, hh, hk⟩; refine ⟨_, rfl, ?_⟩; have ow := ow.add (t := Th.obj gb2 (.map (cL 10) 10)) hh hk (fun g e => by cases e; exact hb); clear hb hh hk; have him : Instr.findNow (.int .u8) (.int .u8 (12 : Nat)) (cL 10).toList 0 = some none := by kernel_rfl
  refine ae (v := .int .u8 12) (ag rfl) (ce rfl (pb 11 s0 rfl)) ?_; refine ae (v := .nilFunc) (ag rfl) (dQ (k := 12) rfl (pb 12 (af (t := 11) z rfl) rfl) (af (t := 12) (ab z) rfl) (ow.get 0 rfl) him) ?_; refine ae (v := .nilFunc) (ag rfl) (aq rfl (af (t := 13) (ab (ab z)) rfl)) ?_; refine gt4 (ab (ab (ab (ab z)))) (ac (ac (ac (ac q)))) ow 0 (pb 5 (pb 13 (pb 12 (pb 11 s0 rfl) rfl) rfl) rfl) 1 (pb 5 (pb 13 (pb 12 (pb 11 s1 rfl) rfl) rfl) rfl) 4 (pb 5 (pb 13 (pb 12 (pb 11 s4 rfl) rfl) rfl) rfl) 5 (af (t := 5) (ab (ab (ab z))) rfl) fun fa fw z q ow s0 s1 s4 s5 => ?_; refine wt hK3 ?_
  refine rgx [yV _, yV _] 2 81 z q ow (
    um s5 rfl <|
    aS (fun hk bs hd => xp rfl (dp hd 0 rfl)) rfl <|
    ah) fun fa fw bs hv ap z q ow => ?_
  obtain ⟨s0, s1, s4, s5⟩ := b4 bs s0 s1 s4 s5; have s15 := zh hv 1; refine wp_cond_false (s15) ?_; refine wp_skip ?_; refine tn hK2 ?_; refine sq fun hK5 => ?_
  refine rgx [yV _] 1 81 z q ow (
    um s0 rfl <|
    ah) fun fa fw bs hv ap z q ow => ?_
  obtain ⟨s0, s1, s4⟩ := b3 bs s0 s1 s4; have s28 := zh hv 0; refine wp_block ?_; refine sq fun hK7 => ?_
  refine rgx [yV (.bool false), yV _] 2 81 z q ow (
    ub (req (zt s28) zc) rfl <|
    uq3 0 rfl rfl <|
    ah) fun fa fw bs hv ap z q ow => ?_
  obtain ⟨s0, s1, s4, s28⟩ := b4 bs s0 s1 s4 s28; have s29 := zh hv 1; refine wp_cond_false (s29) ?_
  refine ro [yV (.bool false), yV _] 2 81 z q ow (
    ub (req (zt s28) zc) rfl <|
    uq3 0 rfl rfl <|
    ah) fun fa fw bs hv ap z q ow => ?_
  obtain ⟨s0, s1, s4, s28⟩ := b4 bs s0 s1 s4 s28; have s29 := zh hv 1; refine wt hK7 ?_; refine wp_cond_false (s29) ?_
  refine rgx [yV (.bool false), yV _] 2 81 z q ow (
    ub (req (zt s28) zc) rfl <|
    uq3 0 rfl rfl <|
    ah) fun fa fw bs hv ap z q ow => ?_
  obtain ⟨s0, s1, s4, s28⟩ := b4 bs s0 s1 s4 s28; have s36 := zh hv 1; refine wp_cond_false (s36) ?_
  refine rgx [yV (.bool false), yV _] 2 81 z q ow (
    ub (req (zt s28) zc) rfl <|
    uq3 0 rfl rfl <|
    ah) fun fa fw bs hv ap z q ow => ?_
  obtain ⟨s0, s1, s4, s28⟩ := b4 bs s0 s1 s4 s28; have s55 := zh hv 1; refine wp_cond_false (s55) ?_
  refine rgx [yV (.bool false), yV _] 2 81 z q ow (
    ub (req (zt s28) zc) rfl <|
    uq3 0 rfl rfl <|
    ah) fun fa fw bs hv ap z q ow => ?_
  obtain ⟨s0, s1, s4⟩ := b3 bs s0 s1 s4; have s74 := zh hv 1; refine wp_cond_false (s74) ?_; refine wp_skip ?_; refine bn ?_; refine tn hK5 ?_; refine sq fun hK12 => ?_
  refine ro [yV _, yV _, yV (al (aK (cR 12 l * 10000)))] 3 81 z q ow (
    um s0 rfl <|
    um s1 rfl <|
    uc (rc2 (zd 0) (zd 1) eO) (fun hk => gN 12 A cap l _ (hr.kept (ow.keep hk).kept) (fun a ha => Nat.le_trans (hla a ha) (by decide)) hl) rfl <|
    ah) fun fa fw bs hv ap z q ow => ?_
  have s4 := bg bs s4; have s80 := zh hv 2; refine ws ow 1 0 s4 s80 fun fw ow => ?_; refine wt hK12 ?_; refine wp_ret ?_; refine rs3 s4 (ow.box 1 rfl) q ?_; exact ⟨rfl, ow.kept⟩
theorem wQ (A : Option Addr) (cap : Nat) (l : List Ar) (w : World) (hr : ArgsAt w A l) (hl : l.length ≤ 1000) (hla : ∀ a ∈ l, a.l.length ≤ 900000) :
    Calls Tryz.prog 33 #[.int .u8 13, .slice A l.length cap] w fun e w' => e = .returned (al (eS 13 l)) ∧ Kept w w' := by
  go_enter Tryz.func33, Tryz.ntmps33; refine sq fun hK1 => ?_
  refine ro [bJ w.heap.size (.cells #[.int .u8 0, .int .i64 0, .string ⟨[].toArray⟩] 25 (0, 0))] 1 81 rfl rfl (Own.start w) (
    uq4 <|
    ah) fun fa fw bs hv ap z q ov => ?_
  have s0 := bs.get 0 rfl rfl; have s1 := bs.get 1 rfl rfl; obtain ⟨gb1, s4, bgb1, hgb1⟩ := zn hv 0; have ov := ov.hc (Own.start w) bgb1 hgb1; have ow := ov; refine wt hK1 ?_; refine sq fun hK2 => ?_; refine sq fun hK3 => ?_; refine wp_region_lit ?_; refine aO (ag rfl) (fd rfl (bw _ _)) ((bZ _).mono ?_); rintro _ fw ⟨gb2, rfl, hb, hh, hk⟩; refine ⟨_, rfl, ?_⟩; have ow := ow.add (t := Th.obj gb2 (.map (cL 10) 10)) hh hk (fun g e => by cases e; exact hb); clear hb hh hk; have him : Instr.findNow (.int .u8) (.int .u8 (13 : Nat)) (cL 10).toList 0 = some none := by kernel_rfl
  refine ae (v := .int .u8 13) (ag rfl) (ce rfl (pb 11 s0 rfl)) ?_; refine ae (v := .nilFunc) (ag rfl) (dQ (k := 13) rfl (pb 12 (af (t := 11) z rfl) rfl) (af (t := 12) (ab z) rfl) (ow.get 0 rfl) him) ?_; refine ae (v := .nilFunc) (ag rfl) (aq rfl (af (t := 13) (ab (ab z)) rfl)) ?_; refine gt4 (ab (ab (ab (ab z)))) (ac (ac (ac (ac q)))) ow 0 (pb 5 (pb 13 (pb 12 (pb 11 s0 rfl) rfl) rfl) rfl) 1 (pb 5 (pb 13 (pb 12 (pb 11 s1 rfl) rfl) rfl) rfl) 4 (pb 5 (pb 13 (pb 12 (pb 11 s4 rfl) rfl) rfl) rfl) 5 (af (t := 5) (ab (ab (ab z))) rfl) fun fa fw z q ow s0 s1 s4 s5 => ?_; refine wt hK3 ?_
  refine rgx [yV _, yV _] 2 81 z q ow (
    um s5 rfl <|
    aS (fun hk bs hd => xp rfl (dp hd 0 rfl)) rfl <|
    ah) fun fa fw bs hv ap z q ow => ?_
  obtain ⟨s0, s1, s4, s5⟩ := b4 bs s0 s1 s4 s5; have s15 := zh hv 1; refine wp_cond_false (s15) ?_; refine wp_skip ?_; refine tn hK2 ?_; refine sq fun hK5 => ?_
  refine rgx [yV _] 1 81 z q ow (
    um s0 rfl <|
    ah) fun fa fw bs hv ap z q ow => ?_
  obtain ⟨s0, s1, s4⟩ := b3 bs s0 s1 s4; have s28 := zh hv 0; refine wp_block ?_; refine sq fun hK7 => ?_
  refine rgx [yV (.bool false), yV _] 2 81 z q ow (
    ub (req (zt s28) zc) rfl <|
    uq3 0 rfl rfl <|
    ah) fun fa fw bs hv ap z q ow => ?_
  obtain ⟨s0, s1, s4, s28⟩ := b4 bs s0 s1 s4 s28; have s29 := zh hv 1; refine wp_cond_false (s29) ?_
  refine ro [yV (.bool false), yV _] 2 81 z q ow (
    ub (req (zt s28) zc) rfl <|
    uq3 0 rfl rfl <|
    ah) fun fa fw bs hv ap z q ow => ?_
  obtain ⟨s0, s1, s4, s28⟩ := b4 bs s0 s1 s4 s28; have s29 := zh hv 1; refine wt hK7 ?_; refine wp_cond_false (s29) ?_
  refine rgx [yV (.bool false), yV _] 2 81 z q ow (
    ub (req (zt s28) zc) rfl <|
    uq3 0 rfl rfl <|
    ah) fun fa fw bs hv ap z q ow => ?_
  obtain ⟨s0, s1, s4, s28⟩ := b4 bs s0 s1 s4 s28; have s36 := zh hv 1; refine wp_cond_false (s36) ?_
  refine rgx [yV (.bool false), yV _] 2 81 z q ow (
    ub (req (zt s28) zc) rfl <|
    uq3 0 rfl rfl <|
    ah) fun fa fw bs hv ap z q ow => ?_
  obtain ⟨s0, s1, s4, s28⟩ := b4 bs s0 s1 s4 s28; have s55 := zh hv 1; refine wp_cond_false (s55) ?_
  refine rgx [yV (.bool false), yV _] 2 81 z q ow (
    ub (req (zt s28) zc) rfl <|
    uq3 0 rfl rfl <|
    ah) fun fa fw bs hv ap z q ow => ?_
  obtain ⟨s0, s1, s4⟩ := b3 bs s0 s1 s4; have s74 := zh hv 1; refine wp_cond_false (s74) ?_; refine wp_skip ?_; refine bn ?_; refine tn hK5 ?_; refine sq fun hK12 => ?_
  refine ro [yV _, yV _, yV (al (aK (cR 13 l * 10000)))] 3 81 z q ow (
    um s0 rfl <|
    um s1 rfl <|
    uc (rc2 (zd 0) (zd 1) eO) (fun hk => gN 13 A cap l _ (hr.kept (ow.keep hk).kept) (fun a ha => Nat.le_trans (hla a ha) (by decide)) hl) rfl <|
    ah) fun fa fw bs hv ap z q ow => ?_
  have s4 := bg bs s4; have s80 := zh hv 2; refine ws ow 1 0 s4 s80 fun fw ow => ?_; refine wt hK12 ?_; refine wp_ret ?_; refine rs3 s4 (ow.box 1 rfl) q ?_; exact ⟨rfl, ow.kept⟩
theorem wR (A : Option Addr) (cap : Nat) (l : List Ar) (w : World) (hr : ArgsAt w A l) (hl : l.length ≤ 1000) (hla : ∀ a ∈ l, a.l.length ≤ 900000) :
    Calls Tryz.prog 33 #[.int .u8 47, .slice A l.length cap] w fun e w' => e = .returned (al (eS 47 l)) ∧ Kept w w' := by
  go_enter Tryz.func33, Tryz.ntmps33; refine sq fun hK1 => ?_
  refine ro [bJ w.heap.size (.cells #[.int .u8 0, .int .i64 0, .string ⟨[].toArray⟩] 25 (0, 0))] 1 81 rfl rfl (Own.start w) (
    uq4 <|
    ah) fun fa fw bs hv ap z q ov => ?_
  have s0 := bs.get 0 rfl rfl; have s1 := bs.get 1 rfl rfl; obtain ⟨gb1, s4, bgb1, hgb1⟩ := zn hv 0; have ov := ov.hc (Own.start w) bgb1 hgb1; have ow := ov; refine wt hK1 ?_; refine sq fun hK2 => ?_; refine sq fun hK3 => ?_; refine wp_region_lit ?_; refine aO (ag rfl) (fd rfl (bw _ _)) ((bZ _).mono ?_); rintro _ fw ⟨gb2, rfl, hb, hh, hk⟩; refine ⟨_, rfl, ?_⟩; have ow := ow.add (t := Th.obj gb2 (.map (cL 10) 10)) hh hk (fun g e => by cases e; exact hb); clear hb hh hk; have him : Instr.findNow (.int .u8) (.int .u8 (47 : Nat)) (cL 10).toList 0 = some none := by kernel_rfl
  refine ae (v := .int .u8 47) (ag rfl) (ce rfl (pb 11 s0 rfl)) ?_; refine ae (v := .nilFunc) (ag rfl) (dQ (k := 47) rfl (pb 12 (af (t := 11) z rfl) rfl) (af (t := 12) (ab z) rfl) (ow.get 0 rfl) him) ?_; refine ae (v := .nilFunc) (ag rfl) (aq rfl (af (t := 13) (ab (ab z)) rfl)) ?_; refine gt4 (ab (ab (ab (ab z)))) (ac (ac (ac (ac q)))) ow 0 (pb 5 (pb 13 (pb 12 (pb 11 s0 rfl) rfl) rfl) rfl) 1 (pb 5 (pb 13 (pb 12 (pb 11 s1 rfl) rfl) rfl) rfl) 4 (pb 5 (pb 13 (pb 12 (pb 11 s4 rfl) rfl) rfl) rfl) 5 (af (t := 5) (ab (ab (ab z))) rfl) fun fa fw z q ow s0 s1 s4 s5 => ?_; refine wt hK3 ?_
  refine rgx [yV _, yV _] 2 81 z q ow (
    um s5 rfl <|
    aS (fun hk bs hd => xp rfl (dp hd 0 rfl)) rfl <|
    ah) fun fa fw bs hv ap z q ow => ?_
  obtain ⟨s0, s1, s4, s5⟩ := b4 bs s0 s1 s4 s5; have s15 := zh hv 1; refine wp_cond_false (s15) ?_; refine wp_skip ?_; refine tn hK2 ?_; refine sq fun hK5 => ?_
  refine rgx [yV _] 1 81 z q ow (
    um s0 rfl <|
    ah) fun fa fw bs hv ap z q ow => ?_
  obtain ⟨s0, s1, s4⟩ := b3 bs s0 s1 s4; have s28 := zh hv 0; refine wp_block ?_; refine sq fun hK7 => ?_
  refine rgx [yV (.bool false), yV _] 2 81 z q ow (
    ub (req (zt s28) zc) rfl <|
    uq3 0 rfl rfl <|
    ah) fun fa fw bs hv ap z q ow => ?_
  obtain ⟨s0, s1, s4, s28⟩ := b4 bs s0 s1 s4 s28; have s29 := zh hv 1; refine wp_cond_false (s29) ?_
  refine ro [yV (.bool false), yV _] 2 81 z q ow (
    ub (req (zt s28) zc) rfl <|
    uq3 0 rfl rfl <|
    ah) fun fa fw bs hv ap z q ow => ?_
  obtain ⟨s0, s1, s4, s28⟩ := b4 bs s0 s1 s4 s28; have s29 := zh hv 1; refine wt hK7 ?_; refine wp_cond_false (s29) ?_
  refine rgx [yV (.bool false), yV _] 2 81 z q ow (
    ub (req (zt s28) zc) rfl <|
    uq3 0 rfl rfl <|
    ah) fun fa fw bs hv ap z q ow => ?_
  obtain ⟨s0, s1, s4, s28⟩ := b4 bs s0 s1 s4 s28; have s36 := zh hv 1; refine wp_cond_false (s36) ?_
  refine rgx [yV (.bool false), yV _] 2 81 z q ow (
    ub (req (zt s28) zc) rfl <|
    uq3 0 rfl rfl <|
    ah) fun fa fw bs hv ap z q ow => ?_
  obtain ⟨s0, s1, s4, s28⟩ := b4 bs s0 s1 s4 s28; have s55 := zh hv 1; refine wp_cond_false (s55) ?_
  refine rgx [yV (.bool false), yV _] 2 81 z q ow (
    ub (req (zt s28) zc) rfl <|
    uq3 0 rfl rfl <|
    ah) fun fa fw bs hv ap z q ow => ?_
  obtain ⟨s0, s1, s4⟩ := b3 bs s0 s1 s4; have s74 := zh hv 1; refine wp_cond_false (s74) ?_; refine wp_skip ?_; refine bn ?_; refine tn hK5 ?_; refine sq fun hK12 => ?_
  refine ro [yV _, yV _, yV (al (aK (cR 47 l * 10000)))] 3 81 z q ow (
    um s0 rfl <|
    um s1 rfl <|
    uc (rc2 (zd 0) (zd 1) eO) (fun hk => gN 47 A cap l _ (hr.kept (ow.keep hk).kept) (fun a ha => Nat.le_trans (hla a ha) (by decide)) hl) rfl <|
    ah) fun fa fw bs hv ap z q ow => ?_
  have s4 := bg bs s4; have s80 := zh hv 2; refine ws ow 1 0 s4 s80 fun fw ow => ?_; refine wt hK12 ?_; refine wp_ret ?_; refine rs3 s4 (ow.box 1 rfl) q ?_; exact ⟨rfl, ow.kept⟩
