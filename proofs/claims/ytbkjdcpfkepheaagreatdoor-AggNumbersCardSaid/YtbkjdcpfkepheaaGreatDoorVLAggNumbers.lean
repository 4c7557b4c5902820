/- The law AggNumbers, walked (printed by wip/mklaw13.py). -/
import Derived.Test.YtbkjdcpfkepheaaGreatDoorVMixBG
import Derived.Test.YtbkjdcpfkepheaaGreatDoorVGRef16
set_option maxHeartbeats 8000000
namespace Go.Proofs.YtbkjdcpfkepheaaGreatDoor
section
set_option linter.unusedVariables false
set_option linter.unusedSimpArgs false
open Go.RowKit Lv
set_option maxRecDepth 100000
theorem zD {l : List Ar} (h : ∀ a ∈ l, qJ a) : ∀ a ∈ jb l, AL a := fun a ha => by
  obtain ⟨b, hb, rfl⟩ := List.mem_map.1 ha; have w := h b (List.mem_of_mem_take hb); refine ⟨w.1.2.1, fun c hc => ?_⟩; obtain ⟨d, hd, rfl⟩ := List.mem_map.1 hc; exact (w.2.2 d (List.mem_of_mem_take hd)).2.2.2.1
theorem xe (v : Vl) : (jP v).t.length ≤ 2000 := by
  show (v.t.take 300).length ≤ 2000; rw [List.length_take]
  omega
theorem BI {m l : List Ar} (h : m = jb l) (hw : ∀ a ∈ l, qJ a) : ji m := by
  subst h; refine ⟨lg l, fun a ha => ⟨?_, Nat.le_trans (iy l a ha) (by decide)⟩⟩; have hi := zD hw a ha; obtain ⟨b, hb, rfl⟩ := List.mem_map.1 ha; refine ⟨⟨hi.1, xe _⟩, fun c hc => ⟨hi.2 c hc, ?_⟩⟩; obtain ⟨d, hd, rfl⟩ := List.mem_map.1 hc; exact xe _
theorem yZ {gl l : List Ar} (h : gl = oX (jb l)) (hw : ∀ a ∈ l, qJ a) : ji gl := by
  subst h; exact CJ (by rw [wj]; exact lg l) yG (yF (zD hw)) (fun a ha => Nat.le_trans (qu (iy l) a ha) (by decide))
theorem pB {gl m : List Ar} (h : gl = oX (jb m)) (A : Option Addr) (cap : Nat) (w : World) (hr : ArgsIn w A m) (hc : m.length ≤ cap) (hw : ∀ a ∈ m, a.l.length ≤ 2932031007402) (hwd : ∀ a ∈ m, mI a.v ∧ ∀ c ∈ a.l, mI c.v) : Calls Tryz.prog 13 #[.slice A m.length cap] w fun e w' => qq w gl e w' := by
  subst h; exact (tq A cap m w hr hc hw hwd).mono fun _ _ h => h.new
def za (l : List Ar) (v : Value) (w : World) : Prop := ∃ A c, v = .slice A l.length c ∧ ArgsAt w A l ∧ l.length ≤ c
theorem qO (l : List Ar) : ∀ v w w', za l v w → Kept w w' → za l v w' := fun v w w' ⟨A, c, e, h, g⟩ k => ⟨A, c, e, h.kept k, g⟩
def C4 (v : Value) (L : List Int) : Th := Th.row 0 2 1 v L.length (L.map (Value.int .i64))
theorem kr {w0 w w' : World} {H : List Th} {v : Value} {L : List Int} (o : Own w0 H w) (k : Kept w w') (h : w'.ownsRow w.heap.size 2 1 v L.length (L.map (Value.int .i64))) : Own w0 (C4 v L :: H) w' :=
  o.add (t := C4 v L) (kg h) k (fun g e => (World.ownsRow.lt h g e).1)
theorem xf (L : List Int) : (L.map CX).flatten = L.map (Value.int .i64) := by
  induction L with
  | nil => rfl
  | cons x L ih => rw [List.map_cons, List.flatten_cons, ih]; rfl
theorem ks {w : World} {b n c : Nat} {A : Option Addr} {L : List Int} (h : w.ownsRow b 2 1 (.slice A n c) L.length (L.map (Value.int .i64))) : RowK 1 CX w A L := by
  rw [← xf] at h; obtain ⟨A2, c2, e, r, _⟩ := RowK.own (k := 1) (enc := CX) (fun _ => rfl) h
  cases e
  exact r
theorem pC {l : List Ar} (h : ji l) : (aA l).1.length ≤ 900000 := by
  have h1 := lf (n := 900) (fun a ha => (h.2 a ha).2); have h2 : l.length * 901 ≤ 20 * 901 := Nat.mul_le_mul_right _ h.1; unfold aA
  split
  · unfold eJ
    split
    · simp
    · simp only [List.length_map]
      omega
  · simp
theorem zE {w w' : World} {l : List Ar} {e : Ending} (h : ko w l e w') : ∃ v, e = .returned (.tuple #[v, al (aA l).2.1, .bool (aA l).2.2]) ∧ w'.ownsRow w.heap.size 2 1 v (aA l).1.length ((aA l).1.map (Value.int .i64)) ∧ Kept w w' := by
  obtain ⟨v, x, b, he, hk, h⟩ := h; rcases h with ⟨rfl, rfl, hn⟩ | ⟨rfl, L, hn, ho⟩
  · rw [hn]
    exact ⟨_, he, World.ownsRow_nil _ _ _ _, hk⟩
  · rw [hn]
    exact ⟨_, he, ho, hk⟩
theorem xg (A : Option Addr) (cap : Nat) (l : List Ar) (w : World) (mx : Int) (HM : Mx w mx) (hr : ArgsAt w A l) (h : ji l) :
    Calls Tryz.prog 21 #[.slice A l.length cap] w fun e w' => ∃ v, e = .returned (.tuple #[v, al (aA l).2.1, .bool (aA l).2.2]) ∧ w'.ownsRow w.heap.size 2 1 v (aA l).1.length ((aA l).1.map (Value.int .i64)) ∧ Kept w w' :=
  (wX A cap l w mx HM hr h).mono fun _ _ h => zE h
theorem xh (A : Option Addr) (cap : Nat) (l : List Ar) (w : World) (hr : ArgsAt w A l) (h : ji l) :
    Calls Tryz.prog 22 #[.slice A l.length cap] w fun e w' => ∃ v, e = .returned (.tuple #[v, al (aA l).2.1, .bool (aA l).2.2]) ∧ w'.ownsRow w.heap.size 2 1 v (aA l).1.length ((aA l).1.map (Value.int .i64)) ∧ Kept w w' :=
  (lA A cap l w hr (fun a ha => (h.2 a ha).1) (Nat.le_trans h.1 (by decide)) (fun a ha => Nat.le_trans (h.2 a ha).2 (by decide)) (qE h)).mono fun _ _ h => zE h
theorem hE : En 21 := by intro args w; go_simp
theorem fW : En 14 := by intro args w; go_simp
theorem dE : En 23 := by intro args w; go_simp
theorem eC : En 13 := by intro args w; go_simp
theorem gW : En 15 := by intro args w; go_simp
theorem dF : En 22 := by intro args w; go_simp
theorem lB (a0 : Option Addr) (len0 cap0 : Nat) (l0 : List Ar) (w : World) (w0 : ArgsW w a0 len0 cap0 l0) (mx : Int) (HM : Mx w mx) :
    Calls Tryz.prog 6 #[.slice a0 len0 cap0] w fun e w' => e = .returned (.bool true) ∧ Below w.heap.size w w' := by
  obtain ⟨hr0, rfl, hle, hmx, hwd, hsm⟩ := w0; obtain ⟨m, hmdef⟩ : ∃ m, m = jb l0 := ⟨_, rfl⟩; obtain ⟨gl, hgl⟩ : ∃ gl, gl = oX (jb l0) := ⟨_, rfl⟩; have hmf : ji m := BI hmdef hwd; have hgf : ji gl := yZ hgl hwd; have hwd2 : ∀ a ∈ l0, mI a.v ∧ ∀ c ∈ a.l, mI c.v := fun a h => ⟨(hwd a h).1, fun c hc => ((hwd a h).2.2 c hc).2.2⟩; go_enter Tryz.func6, Tryz.ntmps6
  refine rgx [yV _] 1 76 rfl rfl (Own.start w) (
    uq1 rfl rfl rfl <|
    ah) fun fa fw bs hv ap z q ow => ?_
  have s0 := bs.get 0 rfl rfl; have s2 := zh hv 0; refine sq fun hK2 => ?_
  refine ro [yV _] 1 76 z q ow (
    um s0 rfl <|
    ah) fun fa fw bs hv ap z q ow => ?_
  obtain ⟨s0, s2⟩ := b2 bs s0 s2; have s10 := zh hv 0; refine aO (ag rfl) (cz (u := .slice a0 l0.length cap0) rfl s10 (cK _ _)) ((jd hmdef a0 cap0 _ (hr0.kept ow.kept) hle hsm).mono ?_); rintro _ fw ⟨A1, p1, rfl, hr1, hp1, _, hk⟩; refine ⟨_, rfl, ?_⟩; rcases (rfl : (0 : Nat) = 0) with _
  obtain ⟨w1, rfl⟩ : ∃ z, z = fw := ⟨_, rfl⟩; have o0 := ow.keep hk; clear hk; have hm1 := HM.kept o0.kept; have hr01 := hr0.kept o0.kept; have ow := Own.start w1; refine ae (v := .slice A1 m.length p1) (ag rfl) (aq rfl (af (t := 11) z rfl)) ?_; refine gt3 (ab (ab z)) (ac (ac q)) ow 0 (pb 3 (pb 11 s0 rfl) rfl) 2 (pb 3 (pb 11 s2 rfl) rfl) 3 (af (t := 3) (ab z) rfl) fun fa fw z q ow s0 s2 s3 => ?_; refine wt hK2 ?_; refine sq fun hK3 => ?_
  refine ro [yV _] 1 76 z q ow (
    um s3 rfl <|
    ah) fun fa fw bs hv ap z q ow => ?_
  obtain ⟨s0, s2, s3⟩ := b3 bs s0 s2 s3; have s13 := zh hv 0; refine aO (ag rfl) (cz (u := .slice A1 m.length p1) rfl s13 (hE _ _)) ((xg A1 p1 m _ mx (hm1.kept ow.kept) (hr1.kept ow.kept) hmf).mono ?_); rintro _ fw ⟨vn1, rfl, ho, hk⟩; refine ⟨_, rfl, ?_⟩; rcases (rfl : (0 : Nat) = 0) with _
  obtain ⟨Bn1, cn1, rfl⟩ := bV ho; have ow := kr ow hk ho; clear hk ho; refine ae (v := .tuple #[.slice Bn1 ((aA m).1.length) cn1, al ((aA m).2.1), .bool ((aA m).2.2)]) (ag rfl) (ce rfl (af (t := 14) z rfl)) ?_; refine ae (v := .slice Bn1 ((aA m).1.length) cn1) (ag rfl) (aR rfl (af (t := 12) (ab z) rfl) rfl) ?_; refine ae (v := al ((aA m).2.1)) (ag rfl) (aR rfl (pb 15 (af (t := 12) (ab z) rfl) rfl) rfl) ?_; refine ae (v := .bool ((aA m).2.2)) (ag rfl) (aR rfl (pb 16 (pb 15 (af (t := 12) (ab z) rfl) rfl) rfl) rfl) ?_; refine eQ ow (ag rfl) (gg (b := .cells #[.int .u8 0, .int .i64 0, .string ⟨[].toArray⟩] 25 (0, 0)) rfl (by kernel_rfl)) fun gb1 fw ow => ?_; refine gt7 (ab (ab (ab (ab (ab (ab z)))))) (ac (ac (ac (ac (ac (ac q)))))) ow 0 (pb 5 (pb 17 (pb 16 (pb 15 (pb 12 (pb 14 s0 rfl) rfl) rfl) rfl) rfl) rfl) 2 (pb 5 (pb 17 (pb 16 (pb 15 (pb 12 (pb 14 s2 rfl) rfl) rfl) rfl) rfl) rfl) 3 (pb 5 (pb 17 (pb 16 (pb 15 (pb 12 (pb 14 s3 rfl) rfl) rfl) rfl) rfl) rfl) 15 (pb 5 (pb 17 (pb 16 (af (t := 15) (ab (ab z)) rfl) rfl) rfl) rfl) 16 (pb 5 (pb 17 (af (t := 16) (ab (ab (ab z))) rfl) rfl) rfl) 17 (pb 5 (af (t := 17) (ab (ab (ab (ab z)))) rfl) rfl) 5 (af (t := 5) (ab (ab (ab (ab (ab z))))) rfl) fun fa fw z q ow s0 s2 s3 s15 s16 s17 s5 => ?_
  refine ae (v := .slice Bn1 ((aA m).1.length) cn1) (ag rfl) (aq rfl s15) ?_; refine cc ow 0 0 (ag rfl) rfl rfl (pb 4 s5 rfl) (pb 4 s16 rfl) (by kernel_rfl) rfl rfl rfl fun fw ow => ?_; refine ae (v := .bool ((aA m).2.2)) (ag rfl) (aq rfl (pb 4 s17 rfl)) ?_; refine gt6 (ab (ab z)) (ac (ac q)) ow 0 (pb 6 (pb 4 s0 rfl) rfl) 2 (pb 6 (pb 4 s2 rfl) rfl) 3 (pb 6 (pb 4 s3 rfl) rfl) 5 (pb 6 (pb 4 s5 rfl) rfl) 4 (pb 6 (af (t := 4) z rfl) rfl) 6 (af (t := 6) (ab z) rfl) fun fa fw z q ow s0 s2 s3 s5 s4 s6 => ?_; refine wt hK3 ?_; refine sq fun hK4 => ?_
  refine ro [yV _] 1 76 z q ow (
    um s0 rfl <|
    ah) fun fa fw bs hv ap z q ow => ?_
  obtain ⟨s0, s2, s3, s5, s4, s6⟩ := b6 bs s0 s2 s3 s5 s4 s6; have s19 := zh hv 0; refine aO (ag rfl) (cz (u := .slice a0 l0.length cap0) rfl s19 (cK _ _)) ((jd hmdef a0 cap0 _ (hr01.kept ow.kept) hle hsm).mono ?_); rintro _ fw ⟨Am1, pm1, rfl, hrm1, hpm1, _, hk⟩; refine ⟨_, rfl, ?_⟩; rcases (rfl : (0 : Nat) = 0) with _
  have ow := ow.keep hk; refine aO (ag rfl) (cz (u := .slice Am1 m.length pm1) rfl (af (t := 20) z rfl) (dF _ _)) ((xh Am1 pm1 m _ hrm1 hmf).mono ?_); rintro _ fw ⟨vn2, rfl, ho, hk⟩; refine ⟨_, rfl, ?_⟩; rcases (rfl : (0 : Nat) = 0) with _
  obtain ⟨Bn2, cn2, rfl⟩ := bV ho; have ow := kr ow hk ho; clear hk ho; refine ae (v := .tuple #[.slice Bn2 ((aA m).1.length) cn2, al ((aA m).2.1), .bool ((aA m).2.2)]) (ag rfl) (ce rfl (af (t := 21) (ab z) rfl)) ?_; refine ae (v := .slice Bn2 ((aA m).1.length) cn2) (ag rfl) (aR rfl (af (t := 18) (ab (ab z)) rfl) rfl) ?_; refine ae (v := al ((aA m).2.1)) (ag rfl) (aR rfl (pb 22 (af (t := 18) (ab (ab z)) rfl) rfl) rfl) ?_; refine ae (v := .bool ((aA m).2.2)) (ag rfl) (aR rfl (pb 23 (pb 22 (af (t := 18) (ab (ab z)) rfl) rfl) rfl) rfl) ?_; refine gt9 (ab (ab (ab (ab (ab (ab z)))))) (ac (ac (ac (ac (ac (ac q)))))) ow 0 (pb 24 (pb 23 (pb 22 (pb 18 (pb 21 (pb 20 s0 rfl) rfl) rfl) rfl) rfl) rfl) 2 (pb 24 (pb 23 (pb 22 (pb 18 (pb 21 (pb 20 s2 rfl) rfl) rfl) rfl) rfl) rfl) 3 (pb 24 (pb 23 (pb 22 (pb 18 (pb 21 (pb 20 s3 rfl) rfl) rfl) rfl) rfl) rfl) 5 (pb 24 (pb 23 (pb 22 (pb 18 (pb 21 (pb 20 s5 rfl) rfl) rfl) rfl) rfl) rfl) 4 (pb 24 (pb 23 (pb 22 (pb 18 (pb 21 (pb 20 s4 rfl) rfl) rfl) rfl) rfl) rfl) 6 (pb 24 (pb 23 (pb 22 (pb 18 (pb 21 (pb 20 s6 rfl) rfl) rfl) rfl) rfl) rfl) 22 (pb 24 (pb 23 (af (t := 22) (ab (ab (ab z))) rfl) rfl) rfl) 23 (pb 24 (af (t := 23) (ab (ab (ab (ab z)))) rfl) rfl) 24 (af (t := 24) (ab (ab (ab (ab (ab z))))) rfl) fun fa fw z q ow s0 s2 s3 s5 s4 s6 s22 s23 s24 => ?_
  refine eQ ow (ag rfl) (gg (b := .cells #[.int .u8 0, .int .i64 0, .string ⟨[].toArray⟩] 25 (0, 0)) rfl (by kernel_rfl)) fun gb2 fw ow => ?_; refine ae (v := .slice Bn2 ((aA m).1.length) cn2) (ag rfl) (aq rfl (pb 8 s22 rfl)) ?_; refine cc ow 0 0 (ag rfl) rfl rfl (pb 7 (af (t := 8) z rfl) rfl) (pb 7 (pb 8 s23 rfl) rfl) (by kernel_rfl) rfl rfl rfl fun fw ow => ?_; refine ae (v := .bool ((aA m).2.2)) (ag rfl) (aq rfl (pb 7 (pb 8 s24 rfl) rfl)) ?_; refine gt9 (ab (ab (ab z))) (ac (ac (ac q))) ow 0 (pb 9 (pb 7 (pb 8 s0 rfl) rfl) rfl) 2 (pb 9 (pb 7 (pb 8 s2 rfl) rfl) rfl) 3 (pb 9 (pb 7 (pb 8 s3 rfl) rfl) rfl) 5 (pb 9 (pb 7 (pb 8 s5 rfl) rfl) rfl) 4 (pb 9 (pb 7 (pb 8 s4 rfl) rfl) rfl) 6 (pb 9 (pb 7 (pb 8 s6 rfl) rfl) rfl) 8 (pb 9 (pb 7 (af (t := 8) z rfl) rfl) rfl) 7 (pb 9 (af (t := 7) (ab z) rfl) rfl) 9 (af (t := 9) (ab (ab z)) rfl) fun fa fw z q ow s0 s2 s3 s5 s4 s6 s8 s7 s9 => ?_; refine wt hK4 ?_; refine sq fun hK5 => ?_
  refine rgx [yV _, yV _, yV (.bool true), yV _, yV _, yV (al ((aA m).2.1)), yV (al ((aA m).2.1)), yV (.bool false), yV _, yV _, yV _, yV _, yV (.bool false), yV _, yV _, yV _, yV _, yP (za m) (qO m), yV (.bool true), yV _, yV _] 21 76 z q ow (
    um s4 rfl <|
    um s7 rfl <|
    uc (rc2 (zd 0) (zd 1) dE) (fun hk => mz Bn1 Bn2 cn1 cn2 (aA m).1 _ (ks ((ow.keep hk).row 3 rfl)) (ks ((ow.keep hk).row 1 rfl)) (pC hmf)) rfl <|
    ua (rno (zd 2)) rfl <|
    uq2 3 rfl rfl <|
    uw 4 (rln 3 ow 2 (zt s5)) rfl <|
    uw 4 (rln 3 ow 0 (zt s8)) rfl <|
    xo (wg (j := 4) (b := false) rfl rfl rfl) (fun aa ww hk bs hd => C6 rfl (dp hd 5 rfl) (dp hd 6 rfl)) (congrArg Value.bool (by rw [gJ]; rfl)) rfl <|
    ua (rpf (zd 4) (zd 7)) rfl <|
    uq2 8 rfl rfl <|
    uw 9 (rmo (zt s6)) rfl <|
    uw 9 (rmo (zt s9)) rfl <|
    xo (wg (j := 9) (b := false) rfl rfl rfl) (fun aa ww hk bs hd => DJ rfl (dp hd 10 rfl) (dp hd 11 rfl)) (congrArg Value.bool (by simp)) rfl <|
    ua (rpf (zd 9) (zd 12)) rfl <|
    uq2 13 rfl rfl <|
    uw 14 (rmo (zt s3)) rfl <|
    uw 14 (rmo (zt s0)) rfl <|
    arm (fun aa ww hk bs hd => by
      have d14 := dp hd 14 rfl; have d16 := dp hd 16 rfl; exact aB (db (j := 14) (b := false) rfl d14) (cz (u := .slice a0 l0.length cap0) rfl (d16) (cK _ _)) ((jd hmdef a0 cap0 ww (hr01.kept (ow.keep hk).kept) hle hsm).mono fun _ _ ⟨A9, p9, he, hR9, hp9, _, hk2⟩ => ⟨_, he, ⟨A9, p9, rfl, hR9, hp9⟩, hk2⟩) rfl
      ) <|
    arm (fun aa ww hk bs hd => by
      have d14 := dp hd 14 rfl; have d15 := dp hd 15 rfl; obtain ⟨A9, p9, e17, hR9, hp9⟩ := (show za m (aa.eval (.tmp 42)) ww from fy hd 17 rfl); exact aB (db (j := 14) (b := false) rfl d14) (rf (u := .slice A1 m.length p1) (v := .slice A9 m.length p9) rfl (d15) e17 (fW _ _)) ((tF A1 A9 p1 p9 m ww (hr1.kept (ow.keep hk).kept) hR9 (Nat.le_trans hmf.1 (by decide)) (fun a ha => Nat.le_trans (hmf.2 a ha).2 (by decide))).mono fun _ _ ⟨he, hk2⟩ => ⟨_, he, rfl, hk2⟩) rfl
      ) <|
    uw 14 (rno (zd 18)) rfl <|
    ua (rpf (zd 14) (zd 19)) rfl <|
    ah) fun fa fw bs hv ap z q ow => ?_
  obtain ⟨s0, s2, s5, s4, s6, s8, s7, s9⟩ := b8 bs s0 s2 s5 s4 s6 s8 s7 s9; have s45 := zh hv 20; refine wp_cond_false (s45) ?_; refine wp_skip ?_; refine tn hK5 ?_; refine sq fun hK7 => ?_
  refine ro [yV _] 1 76 z q ow (
    um s0 rfl <|
    ah) fun fa fw bs hv ap z q ow => ?_
  obtain ⟨s0, s2, s5, s4, s6, s8, s7, s9⟩ := b8 bs s0 s2 s5 s4 s6 s8 s7 s9; have s47 := zh hv 0; refine aO (ag rfl) (cz (u := .slice a0 l0.length cap0) rfl s47 (eC _ _)) ((pB hgl a0 cap0 _ (hr01.kept ow.kept) hle hsm hwd2).mono ?_); rintro _ fw ⟨Am2, pm2, rfl, hrm2, hpm2, _, hk⟩; refine ⟨_, rfl, ?_⟩; rcases (rfl : (0 : Nat) = 0) with _
  have ow := ow.keep hk; refine aO (ag rfl) (cz (u := .slice Am2 gl.length pm2) rfl (af (t := 48) z rfl) (hE _ _)) ((xg Am2 pm2 gl _ mx (hm1.kept ow.kept) hrm2 hgf).mono ?_); rintro _ fw ⟨vn3, rfl, ho, hk⟩; refine ⟨_, rfl, ?_⟩; rcases (rfl : (0 : Nat) = 0) with _
  obtain ⟨Bn3, cn3, rfl⟩ := bV ho; have ow := kr ow hk ho; clear hk ho; refine ae (v := .tuple #[.slice Bn3 ((aA gl).1.length) cn3, al ((aA gl).2.1), .bool ((aA gl).2.2)]) (ag rfl) (ce rfl (af (t := 49) (ab z) rfl)) ?_; refine ae (v := .slice Bn3 ((aA gl).1.length) cn3) (ag rfl) (aR rfl (af (t := 46) (ab (ab z)) rfl) rfl) ?_; refine ae (v := al ((aA gl).2.1)) (ag rfl) (aR rfl (pb 50 (af (t := 46) (ab (ab z)) rfl) rfl) rfl) ?_; refine ae (v := .bool ((aA gl).2.2)) (ag rfl) (aR rfl (pb 51 (pb 50 (af (t := 46) (ab (ab z)) rfl) rfl) rfl) rfl) ?_; refine D0 (ab (ab (ab (ab (ab (ab z)))))) (ac (ac (ac (ac (ac (ac q)))))) ow 0 (pb 52 (pb 51 (pb 50 (pb 46 (pb 49 (pb 48 s0 rfl) rfl) rfl) rfl) rfl) rfl) 2 (pb 52 (pb 51 (pb 50 (pb 46 (pb 49 (pb 48 s2 rfl) rfl) rfl) rfl) rfl) rfl) 5 (pb 52 (pb 51 (pb 50 (pb 46 (pb 49 (pb 48 s5 rfl) rfl) rfl) rfl) rfl) rfl) 4 (pb 52 (pb 51 (pb 50 (pb 46 (pb 49 (pb 48 s4 rfl) rfl) rfl) rfl) rfl) rfl) 6 (pb 52 (pb 51 (pb 50 (pb 46 (pb 49 (pb 48 s6 rfl) rfl) rfl) rfl) rfl) rfl) 8 (pb 52 (pb 51 (pb 50 (pb 46 (pb 49 (pb 48 s8 rfl) rfl) rfl) rfl) rfl) rfl) 7 (pb 52 (pb 51 (pb 50 (pb 46 (pb 49 (pb 48 s7 rfl) rfl) rfl) rfl) rfl) rfl) 9 (pb 52 (pb 51 (pb 50 (pb 46 (pb 49 (pb 48 s9 rfl) rfl) rfl) rfl) rfl) rfl) 50 (pb 52 (pb 51 (af (t := 50) (ab (ab (ab z))) rfl) rfl) rfl) 51 (pb 52 (af (t := 51) (ab (ab (ab (ab z)))) rfl) rfl) 52 (af (t := 52) (ab (ab (ab (ab (ab z))))) rfl) fun fa fw z q ow s0 s2 s5 s4 s6 s8 s7 s9 s50 s51 s52 => ?_
  refine ae (v := .slice Bn3 ((aA gl).1.length) cn3) (ag rfl) (aq rfl s50) ?_; refine cc ow 3 0 (ag rfl) rfl rfl (pb 4 s5 rfl) (pb 4 s51 rfl) (by kernel_rfl) rfl rfl rfl fun fw ow => ?_; refine ae (v := .bool ((aA gl).2.2)) (ag rfl) (aq rfl (pb 4 s52 rfl)) ?_; refine gt8 (ab (ab z)) (ac (ac q)) ow 0 (pb 6 (pb 4 s0 rfl) rfl) 2 (pb 6 (pb 4 s2 rfl) rfl) 5 (pb 6 (pb 4 s5 rfl) rfl) 8 (pb 6 (pb 4 s8 rfl) rfl) 7 (pb 6 (pb 4 s7 rfl) rfl) 9 (pb 6 (pb 4 s9 rfl) rfl) 4 (pb 6 (af (t := 4) z rfl) rfl) 6 (af (t := 6) (ab z) rfl) fun fa fw z q ow s0 s2 s5 s8 s7 s9 s4 s6 => ?_; refine wt hK7 ?_; refine sq fun hK8 => ?_
  refine ro [yV _] 1 76 z q ow (
    um s0 rfl <|
    ah) fun fa fw bs hv ap z q ow => ?_
  obtain ⟨s2, s5, s8, s7, s9, s4, s6⟩ := b7 bs s2 s5 s8 s7 s9 s4 s6; have s54 := zh hv 0; refine aO (ag rfl) (cz (u := .slice a0 l0.length cap0) rfl s54 (eC _ _)) ((pB hgl a0 cap0 _ (hr01.kept ow.kept) hle hsm hwd2).mono ?_); rintro _ fw ⟨Am3, pm3, rfl, hrm3, hpm3, _, hk⟩; refine ⟨_, rfl, ?_⟩; rcases (rfl : (0 : Nat) = 0) with _
  have ow := ow.keep hk; refine aO (ag rfl) (cz (u := .slice Am3 gl.length pm3) rfl (af (t := 55) z rfl) (dF _ _)) ((xh Am3 pm3 gl _ hrm3 hgf).mono ?_); rintro _ fw ⟨vn4, rfl, ho, hk⟩; refine ⟨_, rfl, ?_⟩; rcases (rfl : (0 : Nat) = 0) with _
  obtain ⟨Bn4, cn4, rfl⟩ := bV ho; have ow := kr ow hk ho; clear hk ho; refine ae (v := .tuple #[.slice Bn4 ((aA gl).1.length) cn4, al ((aA gl).2.1), .bool ((aA gl).2.2)]) (ag rfl) (ce rfl (af (t := 56) (ab z) rfl)) ?_; refine ae (v := .slice Bn4 ((aA gl).1.length) cn4) (ag rfl) (aR rfl (af (t := 53) (ab (ab z)) rfl) rfl) ?_; refine ae (v := al ((aA gl).2.1)) (ag rfl) (aR rfl (pb 57 (af (t := 53) (ab (ab z)) rfl) rfl) rfl) ?_; refine ae (v := .bool ((aA gl).2.2)) (ag rfl) (aR rfl (pb 58 (pb 57 (af (t := 53) (ab (ab z)) rfl) rfl) rfl) rfl) ?_; refine DZ (ab (ab (ab (ab (ab (ab z)))))) (ac (ac (ac (ac (ac (ac q)))))) ow 2 (pb 59 (pb 58 (pb 57 (pb 53 (pb 56 (pb 55 s2 rfl) rfl) rfl) rfl) rfl) rfl) 5 (pb 59 (pb 58 (pb 57 (pb 53 (pb 56 (pb 55 s5 rfl) rfl) rfl) rfl) rfl) rfl) 8 (pb 59 (pb 58 (pb 57 (pb 53 (pb 56 (pb 55 s8 rfl) rfl) rfl) rfl) rfl) rfl) 7 (pb 59 (pb 58 (pb 57 (pb 53 (pb 56 (pb 55 s7 rfl) rfl) rfl) rfl) rfl) rfl) 9 (pb 59 (pb 58 (pb 57 (pb 53 (pb 56 (pb 55 s9 rfl) rfl) rfl) rfl) rfl) rfl) 4 (pb 59 (pb 58 (pb 57 (pb 53 (pb 56 (pb 55 s4 rfl) rfl) rfl) rfl) rfl) rfl) 6 (pb 59 (pb 58 (pb 57 (pb 53 (pb 56 (pb 55 s6 rfl) rfl) rfl) rfl) rfl) rfl) 57 (pb 59 (pb 58 (af (t := 57) (ab (ab (ab z))) rfl) rfl) rfl) 58 (pb 59 (af (t := 58) (ab (ab (ab (ab z)))) rfl) rfl) 59 (af (t := 59) (ab (ab (ab (ab (ab z))))) rfl) fun fa fw z q ow s2 s5 s8 s7 s9 s4 s6 s57 s58 s59 => ?_
  refine ae (v := .slice Bn4 ((aA gl).1.length) cn4) (ag rfl) (aq rfl s57) ?_; refine cc ow 2 0 (ag rfl) rfl rfl (pb 7 s8 rfl) (pb 7 s58 rfl) (by kernel_rfl) rfl rfl rfl fun fw ow => ?_; refine ae (v := .bool ((aA gl).2.2)) (ag rfl) (aq rfl (pb 7 s59 rfl)) ?_; refine gt7 (ab (ab z)) (ac (ac q)) ow 2 (pb 9 (pb 7 s2 rfl) rfl) 5 (pb 9 (pb 7 s5 rfl) rfl) 8 (pb 9 (pb 7 s8 rfl) rfl) 4 (pb 9 (pb 7 s4 rfl) rfl) 6 (pb 9 (pb 7 s6 rfl) rfl) 7 (pb 9 (af (t := 7) z rfl) rfl) 9 (af (t := 9) (ab z) rfl) fun fa fw z q ow s2 s5 s8 s4 s6 s7 s9 => ?_; refine wt hK8 ?_
  refine rgx [yV _, yV _, yV (.bool true), yV _, yV (al ((aA gl).2.1)), yV (al ((aA gl).2.1)), yV (.bool true), yV _, yV _, yV _, yV _, yV (.bool true), yV _, yV _, yV (.bool true), yV _, yV _] 17 76 z q ow (
    um s4 rfl <|
    um s7 rfl <|
    uc (rc2 (zd 0) (zd 1) dE) (fun hk => mz Bn3 Bn4 cn3 cn4 (aA gl).1 _ (ks ((ow.keep hk).row 1 rfl)) (ks ((ow.keep hk).row 0 rfl)) (pC hgf)) rfl <|
    uq2 2 rfl rfl <|
    uw 3 (rln 3 ow 4 (zt s5)) rfl <|
    uw 3 (rln 3 ow 2 (zt s8)) rfl <|
    xo (wg (j := 3) (b := true) rfl rfl rfl) (fun aa ww hk bs hd => DH rfl (dp hd 4 rfl) (dp hd 5 rfl)) (congrArg Value.bool (gJ _)) rfl <|
    ua (rpt (zd 3) (zd 6)) rfl <|
    uq2 7 rfl rfl <|
    uw 8 (rmo (zt s6)) rfl <|
    uw 8 (rmo (zt s9)) rfl <|
    xo (wg (j := 8) (b := true) rfl rfl rfl) (fun aa ww hk bs hd => D1 rfl (dp hd 9 rfl) (dp hd 10 rfl)) (congrArg Value.bool (by simp)) rfl <|
    ua (rpt (zd 8) (zd 11)) rfl <|
    uq2 12 rfl rfl <|
    tI (wg (j := 13) (b := true) rfl rfl rfl) (fun aa ww hk bs hd => fd rfl (gW _ _)) (fun aa ww hk bs hd => qI ww mx (hm1.kept (ow.keep hk).kept)) rfl <|
    ua (rpt (zd 13) (zd 14)) rfl <|
    uq3 15 rfl rfl <|
    ah) fun fa fw bs hv ap z q ow => ?_
  have s2 := zh hv 16; refine wp_ret ?_; refine am rfl (ak s2) q ?_; exact ⟨rfl, o0.kept.trans ow.kept⟩
