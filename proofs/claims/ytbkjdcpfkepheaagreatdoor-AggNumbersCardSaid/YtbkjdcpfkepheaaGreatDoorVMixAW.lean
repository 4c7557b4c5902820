/- Small texts together: GFew16, GFew16b, GFew, MFlogic, GLogic2, GLogic3, GLogic5, GLogic6, GGood, MMeans, MAgg4, MNumLaw, MNumLaw2, MAgg5, MAgg6, MAgg7, MAgg8. -/
import Derived.Test.YtbkjdcpfkepheaaGreatDoorVGRow16
import Derived.Test.YtbkjdcpfkepheaaGreatDoorVMixAM
import Derived.Test.YtbkjdcpfkepheaaGreatDoorVMixAU
import Derived.Test.YtbkjdcpfkepheaaGreatDoorVMixAO
import Derived.Test.YtbkjdcpfkepheaaGreatDoorVMixAS
set_option linter.unusedVariables false
set_option linter.unusedSimpArgs false
set_option maxHeartbeats 4000000
set_option maxRecDepth 100000
namespace Go.Proofs.YtbkjdcpfkepheaaGreatDoor
section
open Go.RowKit Lv
set_option maxRecDepth 100000
theorem gv : En 60 := by intro args w; go_simp
theorem fU : En 93 := by intro args w; go_simp
theorem mZ (w : World) :
    Calls Tryz.prog 93 #[.slice none 0 0] w fun e w' => ∃ v, e = .returned v ∧ dP w.heap.size [] v w' ∧ Kept w w' := by
  go_enter Tryz.func93, Tryz.ntmps93
  refine rgx [yV _] 1 5 rfl rfl (Own.start w) (
    uq1 rfl rfl rfl <|
    ah) fun fa fw bs hv ap z q ow => ?_
  have s0 := bs.get 0 rfl rfl; have s2 := zh hv 0; refine sq fun hK2 => ?_
  refine ro [yV _] 1 5 z q ow (
    um s0 rfl <|
    ah) fun fa fw bs hv ap z q ow => ?_
  have s2 := bg bs s2; have s3 := zh hv 0; refine ae (v := (.slice none 0 0)) (ag rfl) (th rfl Tryz.underlying35 (rM _ 5 _ 48 (by kernel_rfl) rfl) rfl s3 (World.ownsRow_nil _ 0 _ 5)) ?_; refine ae (v := (.slice none 0 0)) (ag rfl) (aq rfl (af (t := 4) z rfl)) ?_; refine gt1 (ab (ab z)) (ac (ac q)) ow 2 (af (t := 2) (ab z) rfl) fun fa fw z q ow s2 => ?_; refine wt hK2 ?_; refine wp_ret ?_; refine am rfl (ak s2) q ?_; exact ⟨_, rfl, World.ownsRow_nil _ _ _ _, ow.kept⟩
theorem lH (ad : Addr) (cap : Nat) (l : List Cl) (w : World) (hr : RowK 5 clV w (some ad) l) (hl : l.length ≤ 2932031007402) :
    Calls Tryz.prog 93 #[.slice (some ad) l.length cap] w fun e w' => ∃ v, e = .returned v ∧ dP w.heap.size l v w' ∧ Kept w w' := by
  go_enter Tryz.func93, Tryz.ntmps93
  refine rgx [yV _] 1 5 rfl rfl (Own.start w) (
    uq1 rfl rfl rfl <|
    ah) fun fa fw bs hv ap z q ow => ?_
  have s0 := bs.get 0 rfl rfl; have s2 := zh hv 0; refine sq fun hK2 => ?_; have ow := ow.nil 46 5
  refine ro [yV _] 1 5 z q ow (
    um s0 rfl <|
    ah) fun fa fw bs hv ap z q ow => ?_
  have s2 := bg bs s2; have s3 := zh hv 0; refine jA (ag rfl) rfl Tryz.underlying35 (k := 5) (by_ := 48) (rM _ _ _ _ (by kernel_rfl) rfl) (by decide) (news := (l.map clV).flatten) rfl s3 (ow.row 0 rfl) (iY dW l) (vV dW (hr.kept ow.kept)) vU (by omega) (by simp only [maxLen]; omega) ow.kept.size (fun vr1 fw1 ho hg hb => ?_); have ow := ow.turn 0 rfl (t' := Th.row w.heap.size 46 5 vr1 (0 + l.length) ([] ++ (l.map clV).flatten)) ho hg (fF hb); clear ho hg hb; refine ae (v := vr1) (ag rfl) (aq rfl (af (t := 4) z rfl)) ?_; refine gt1 (ab (ab z)) (ac (ac q)) ow 2 (af (t := 2) (ab z) rfl) fun fa fw z q ow s2 => ?_; refine wt hK2 ?_; refine wp_ret ?_; refine am rfl (ak s2) q ?_; have ho := ow.row 0 rfl; rw [Nat.zero_add, List.nil_append] at ho; exact ⟨_, rfl, ho, ow.kept⟩
theorem na (A : Option Addr) (cap : Nat) (l : List Cl) (w : World) (hr : RowK 5 clV w A l) (hl : l.length ≤ 2932031007402) (hn : A = none → cap = 0) :
    Calls Tryz.prog 93 #[.slice A l.length cap] w fun e w' => ∃ v, e = .returned v ∧ dP w.heap.size l v w' ∧ Kept w w' := by
  cases A with
  | some ad => exact lH ad cap l w hr hl
  | none =>
    have h0 : l = [] := Classical.byContradiction fun c => by obtain ⟨b, off, e, _⟩ := hr.addr c; cases e
    subst h0; rw [hn rfl]; exact mZ w
theorem oU (b : Nat) (x : Rc) (A : Option Addr) (cap : Nat) (l : List Cl) (w : World) (hr : RowK 5 clV w A l) (hl : l.length ≤ 2932031007402) (hn : A = none → cap = 0) (hb : b ≤ w.heap.size) :
    Calls Tryz.prog 60 #[.agg #[.int .i64 x.c1, .int .i64 x.r1, .int .i64 x.c2, .int .i64 x.r2, .slice A l.length cap]] w fun e w' => ∃ v, e = .returned v ∧ kX b x l v w' ∧ Kept w w' := by
  go_enter Tryz.func60, Tryz.ntmps60
  refine rgx [bJ w.heap.size (.cells #[.int .i64 x.c1, .int .i64 x.r1, .int .i64 x.c2, .int .i64 x.r2, .slice A l.length cap] 37 (0, 0)), bJ w.heap.size (.cells #[.int .i64 0, .int .i64 0, .int .i64 0, .int .i64 0, .slice none 0 0] 37 (0, 0))] 2 8 rfl rfl (Own.start w) (
    ux (t := 0) rfl <|
    uq4 <|
    ah) fun fa fw bs hv ap z q ov => ?_
  obtain ⟨gb1, s1, bgb1, hgb1⟩ := zn hv 0; have ov := ov.hc (Own.start w) bgb1 hgb1; obtain ⟨gb2, s2, bgb2, hgb2⟩ := zn hv 1; have ov := ov.cons hgb2 (Nat.le_trans (Own.start w).kept.size bgb2) (bG (cr ap 0 1 rfl rfl rfl s1 rfl s2 rfl) ((Own.start w).below bgb2)); have ow := ov; refine sq fun hK2 => ?_
  refine ro [yV (.pointer (some ⟨gb1, 4, none⟩)), yV _] 2 8 z q ow (
    ua (rfa (zt s1)) rfl <|
    ua (rlb ow 1 (zd 0)) rfl <|
    ah) fun fa fw bs hv ap z q ow => ?_
  obtain ⟨s1, s2⟩ := b2 bs s1 s2; have s4 := zh hv 1; refine aO (ag rfl) (cz (u := .slice A l.length cap) rfl s4 (fU _ _)) ((na A cap l _ (hr.kept ow.kept) hl hn).mono ?_); rintro _ fw ⟨vc, rfl, oc, hk⟩; refine ⟨_, rfl, ?_⟩; rcases (rfl : (0 : Nat) = 0) with _
  have ow := vX ow hk oc (Nat.le_refl _); refine ae (v := .pointer (some ⟨gb1, 4, none⟩)) (ag rfl) (bH rfl (pb 5 s1 rfl) (by kernel_rfl)) ?_; refine kD (ag rfl) rfl (qb (off := 4) rfl (af (t := 6) (ab z) rfl) (pb 6 (af (t := 5) z rfl) rfl) (by kernel_rfl) (ow.box 2 rfl) (kY oc) (Nat.le_of_ble_eq_true rfl)) ?_; have ow : Own w [Th.row 0 46 5 vc l.length (l.map clV).flatten, Th.obj gb2 (.cells #[.int .i64 0, .int .i64 0, .int .i64 0, .int .i64 0, .slice none 0 0] 37 (0, 0)), Th.obj gb1 (.cells #[.int .i64 x.c1, .int .i64 x.r1, .int .i64 x.c2, .int .i64 x.r2, vc] 37 (0, 0))] _ := ow.put 2 rfl 4 [vc]; refine gt2 (ab (ab z)) (ac (ac q)) ow 1 (pb 6 (pb 5 s1 rfl) rfl) 2 (pb 6 (pb 5 s2 rfl) rfl) fun fa fw z q ow s1 s2 => ?_; refine wt hK2 ?_; refine sq fun hK3 => ?_
  refine ro [yV (.agg #[.int .i64 x.c1, .int .i64 x.r1, .int .i64 x.c2, .int .i64 x.r2, vc])] 1 8 z q ow (
    ua (rln 5 ow 2 (zt s1)) rfl <|
    ah) fun fa fw bs hv ap z q ow => ?_
  have s2 := bg bs s2; have s7 := zh hv 0; refine cc ow 1 0 (ag rfl) rfl rfl s2 s7 (by kernel_rfl) rfl (fE (rfl) (fE (rfl) (fE (rfl) (fE (rfl) (fE (kY oc) rfl))))) rfl fun fw ow => ?_; refine wt hK3 ?_; refine wp_ret ?_; refine am rfl (bo (n := 5) _ s2 (by kernel_rfl) (by kernel_rfl) (ow.box 1 rfl) (Nat.le_of_ble_eq_true rfl) rfl) q ?_; obtain ⟨SA, SC, rfl⟩ := lG oc; exact ⟨_, rfl, ⟨SA, SC, rfl, vW (ow.rowNew 0 rfl) hb⟩, ow.kept⟩
theorem oV (A : Option Addr) (cap : Nat) (l : List Ar) (w : World) (hr : ArgsIn w A l) (hl : l.length ≤ 900000) (hla : ∀ a ∈ l, a.l.length ≤ 2932031007402) :
    Calls Tryz.prog 29 #[.slice A l.length cap] w fun e w' => OwnArgs w l e w' := by
  go_enter Tryz.func29, Tryz.ntmps29
  refine rgx [yV _] 1 32 rfl rfl (Own.start w) (
    uq1 rfl rfl rfl <|
    ah) fun fa fw bs hv ap z q ow => ?_
  have s0 := bs.get 0 rfl rfl; have s2 := zh hv 0
  refine rgx [yV _] 1 32 z q ow (
    uq1 rfl rfl rfl <|
    ah) fun fa fw bs hv ap z q ow => ?_
  obtain ⟨s0, s2⟩ := b2 bs s0 s2; have s3 := zh hv 0; refine sq fun hK3 => ?_
  refine rgx [yV _] 1 32 z q ow (
    uq1 rfl rfl rfl <|
    ah) fun fa fw bs hv ap z q ow => ?_
  obtain ⟨s0, s2, s3⟩ := b3 bs s0 s2 s3; have s4 := zh hv 0; refine wp_block ?_; refine bc (fun (k : Nat) fr u => ∃ (v : Value), ∃ (L : List (Ar × Value)), (k ≤ l.length) ∧ (L.map Prod.fst = l.take k) ∧ fr.tmps.size = 32 ∧ fr.defers = [] ∧ Own w ((dB v L) :: (L.map bW)) u ∧ fr.eval (.tmp 0) = .slice A l.length cap ∧ fr.eval (.tmp 2) = .slice none 0 0 ∧ fr.eval (.tmp 3) = v ∧ fr.eval (.tmp 4) = .int .i64 (k : Int)) (fun k => l.length - k) 0 ⟨(.slice none 0 0), [], (Nat.zero_le _), (by simp), z, q, (jQ ow), s0, s2, s3, s4⟩ (fun k b_ u_ hI => ?_)
  revert b_ u_; intro fa fw hI
  obtain ⟨v, L, hk0, hL, z, q, ow, s0, s2, s3, s4⟩ := hI; refine sq fun hK5 => ?_
  refine rgx [yV _, yV _, yV _, yV _] 4 32 z q ow (
    um s4 rfl <|
    um s0 rfl <|
    ua (rle Tryz.underlying22 (zd 1)) rfl <|
    ua (rlt (zd 0) (zd 2)) rfl <|
    ah) fun fa fw bs hv ap z q ow => ?_
  obtain ⟨s0, s2, s3, s4⟩ := b4 bs s0 s2 s3 s4; have s8 := zh hv 3
  by_cases hc1 : (k : Int) < ((l.length : Nat) : Int)
  ·refine ct s8 ((decide_eq_true_iff).2 hc1) ?_
   refine wp_skip ?_; refine tn hK5 ?_; refine sq fun hK7 => ?_; refine wp_block ?_; have hltk : k < l.length := by omega
   obtain ⟨a, ha⟩ := bQ hltk; obtain ⟨ba, oa, A1, c1, Aa, ea, r1, l1, n1⟩ := hr.elem ha; have hal := hla a (List.mem_of_getElem? ha); obtain ⟨bz, hbz⟩ : ∃ b, b = fw.heap.size := ⟨_, rfl⟩
   refine ro [yV _, yV _, yV _, yV _, yV (.pointer (some ⟨ba, oa + k * 9, none⟩)), yV _, yV _, yV _, yV _, yV (.pointer (some ⟨ba, oa + k * 9 + 1, none⟩)), yV (al a.v), yV _, yV _, yV _, yV (.pointer (some ⟨ba, oa + k * 9 + 4, none⟩)), yV (.agg #[.int .i64 a.x.c1, .int .i64 a.x.r1, .int .i64 a.x.c2, .int .i64 a.x.r2, .slice A1 a.l.length c1]), yP (kX bz a.x a.l) (mW _ _ _), yP (yv bz a) (qr _ _), yP (rN bz a) (oQ _ _)] 19 32 z q ow (
     um s3 rfl <|
     um s0 rfl <|
     um s4 rfl <|
     ua (rpl 9 Tryz.underlying22 Aa (zd 1) (zd 2) hltk) rfl <|
     ua (rfa (zd 3)) rfl <|
     ua (rck 0 ea ow (zd 4)) rfl <|
     um s0 rfl <|
     um s4 rfl <|
     ua (rpl 9 Tryz.underlying22 Aa (zd 6) (zd 7) hltk) rfl <|
     ua (rfa (zd 8)) rfl <|
     ua (rpk 3 1 ea ow (zd 9)) rfl <|
     um s0 rfl <|
     um s4 rfl <|
     ua (rpl 9 Tryz.underlying22 Aa (zd 11) (zd 12) hltk) rfl <|
     ua (rfa (zd 13)) rfl <|
     ua (rpk 5 4 ea ow (zd 14)) rfl <|
     arm (fun aa ww hk bs hd => by
       have d15 := dp hd 15 rfl; exact aB (ag rfl) (cz (u := .agg #[.int .i64 a.x.c1, .int .i64 a.x.r1, .int .i64 a.x.c2, .int .i64 a.x.r2, .slice A1 a.l.length c1]) rfl (d15) (gv _ _)) ((oU bz a.x A1 c1 a.l ww (r1.kept (ow.keep hk).kept) hal n1 (hbz ▸ hk.size)).mono fun _ _ ⟨_, he, hq, hk2⟩ => ⟨_, he, hq, hk2⟩) rfl
       ) <|
     arm (fun aa ww hk bs hd => by
       have d5 : aa.eval (.tmp 16) = .bool a.w := fy hd 5 rfl; have d10 : aa.eval (.tmp 21) = al a.v := fy hd 10 rfl; obtain ⟨SA, SC, e16, hsv⟩ := (show kX bz a.x a.l (aa.eval (.tmp 27)) ww from fy hd 16 rfl); exact ia (ag rfl) (bP (us := #[(0, .bool a.w), (1, al a.v), (2, .agg #[.int .i64 a.x.c1, .int .i64 a.x.r1, .int .i64 a.x.c2, .int .i64 a.x.r2, .slice SA a.l.length SC])]) rfl (by simp only [List.map_toArray, List.map_cons, List.map_nil, d5, d10, e16]) (by kernel_rfl)) (⟨SA, SC, rfl, hsv⟩) (Kept.refl _) rfl
       ) <|
     arm (fun aa ww hk bs hd => by
       obtain ⟨SA, SC, e17, hsv⟩ := (show yv bz a (aa.eval (.tmp 28)) ww from fy hd 17 rfl); exact ia (ag rfl) (bU (us := #[(0, .agg #[.bool a.w, .int .u8 a.v.k, .int .i64 a.v.n, .string ⟨a.v.t.toArray⟩, .int .i64 a.x.c1, .int .i64 a.x.r1, .int .i64 a.x.c2, .int .i64 a.x.r2, .slice SA a.l.length SC])]) (b := .cells #[.bool a.w, .int .u8 a.v.k, .int .i64 a.v.n, .string ⟨a.v.t.toArray⟩, .int .i64 a.x.c1, .int .i64 a.x.r1, .int .i64 a.x.c2, .int .i64 a.x.r2, .slice SA a.l.length SC] 39 (0, 0)) rfl (by simp only [List.map_toArray, List.map_cons, List.map_nil, e17]) (by kernel_rfl)) (⟨ww.heap.size, SA, SC, rfl, hbz ▸ hk.size, Go.heap_alloc_new _ _, kh hsv ((Kept.refl _).alloc _)⟩) ((Kept.refl _).alloc _) rfl
       ) <|
     ah) fun fa fw bs hv ap z q ov => ?_
   obtain ⟨s0, s2, s3, s4⟩ := b4 bs s0 s2 s3 s4; have s11 := zh hv 0; obtain ⟨gs, SA, SC, s29, hgs, hgb, hsv⟩ := (show rN bz a (fa.eval (.tmp 29)) fw from C7 hv 18 rfl rfl rfl); have ov := ti ow ov hbz hsv; have ow := ov; refine gt (ag rfl) rfl (y := a) (sy := (.slice SA a.l.length SC)) s11 s29 (ow.thing 1 rfl) hgb rfl (by have := congrArg List.length hL; rw [List.length_map, List.length_take] at this; omega) (fun vr1 fw1 ho hg hb => ?_); have ow := ow.turn 1 rfl (t' := dB vr1 (L ++ [(a, (.slice SA a.l.length SC))])) ho hg (fF hb); clear ho hg hb; refine ae (v := vr1) (ag rfl) (aq rfl (af (t := 30) z rfl)) ?_; refine gt4 (ab (ab z)) (ac (ac q)) ow 0 (pb 3 (pb 30 s0 rfl) rfl) 2 (pb 3 (pb 30 s2 rfl) rfl) 4 (pb 3 (pb 30 s4 rfl) rfl) 3 (af (t := 3) (ab z) rfl) fun fa fw z q ow s0 s2 s4 s3 => ?_; refine bp ?_; refine bn ?_; refine tn hK7 ?_
   refine ro [yV _, yV (.int .i64 ((k + 1 : Nat) : Int))] 2 32 z q ow (
     um s4 rfl <|
     ua (rad (zd 0) zc) rfl <|
     ah) fun fa fw bs hv ap z q ow => ?_
   obtain ⟨s0, s2, s4, s3⟩ := b4 bs s0 s2 s4 s3; have s10 := zh hv 1; refine ae (v := .int .i64 ((k + 1 : Nat) : Int)) (ag rfl) (aq rfl s10) ?_; refine gp3 z q ow s0 s2 s3 fun fa fw z q ow s0 s2 s3 s4 => ?_; refine bp ?_; exact bK ⟨(k + 1), ⟨vr1, (L ++ [(a, (.slice SA a.l.length SC))]), hltk, (by rw [List.map_append, hL, eT ha]; rfl), z, q, (mX (s := (.slice SA a.l.length SC)) (y := a) ow), s0, s2, s3, s4⟩, (show l.length - (k + 1) < l.length - k by omega)⟩
  refine cf s8 (decide_eq_true_iff) hc1 ?_; refine wp_exit ?_; refine aX ?_; refine aX ?_; refine aP ?_; refine tn hK3 ?_
  refine rgx [yV _, yV _] 2 32 z q ow (
    um s3 rfl <|
    uq3 0 rfl rfl <|
    ah) fun fa fw bs hv ap z q ow => ?_
  have s2 := zh hv 1; refine wp_ret ?_; refine am rfl (ak s2) q ?_; exact ⟨v, L, rfl, by rw [hL, List.take_of_length_le (by omega)], ow⟩
end

section
open Go.RowKit Lv
set_option maxRecDepth 100000
theorem yz {a : Act} {w : World} {o : Oper} {T : TypeId} (hT : T = 3) {x y : Operand} {ts : Array TypeId} (ho : o.op = .call { callee := .builtin .min, args := #[x, y], argTypes := ts }) (ht : o.type = T) {n m r : Nat} (hx : a.eval x = .int .i64 n) (hy : a.eval y = .int .i64 m) (hr : min n m = r) : (execOp a.eval o).run Tryz.prog w = .ok (.value (.int .i64 r)) w := by
  subst hr; exact Dp hT ho ht hx hy
theorem AK {w : World} {b n n' c k : Nat} {e : TypeId} {A : Option Addr} {xs : List Value} (h : w.ownsRow b e k (.slice A n c) n' xs) : n ≤ c := by
  rcases h.2 with ⟨e1, c0⟩ | ⟨g, cap, cur, hv, hg, hh, h4, r⟩
  · cases e1; exact Nat.le_refl _
  · cases hv; exact h4
theorem Cu {w0 w : World} {T : List Th} {A : Option Addr} {j c : Nat} {l : List Cl} (h : Own w0 (cT (.slice A j c) l :: T) w) : Own w0 (cT (.slice (fz A c) j c) l :: T) w := by
  rcases (h.row 0 rfl).2 with ⟨e1, c0⟩ | ⟨g, cap, cur, hv, r⟩
  · cases e1
    exact h
  · cases hv
    rw [vd]; exact h
theorem yA {w0 w : World} {T : List Th} {v : Value} {c : List Cl} {i : Nat} {y : Cl} (h : Own w0 (cT v (((c.take i).map fT ++ c.drop i).set i (fT y)) :: T) w) (hy : c[i]? = some y) : Own w0 (cT v ((c.take (i + 1)).map fT ++ c.drop (i + 1)) :: T) w := by
  rw [(jc (β := Unit) (f := fT) hy).2] at h; exact h
theorem yB {w0 w : World} {B SA : Option Addr} {n cb j SC k : Nat} {L : List (Ar × Value)} {a : Ar} {s1 : Value} {c : List Cl} (h : Own w0 (cT (.slice SA j SC) (c.map fT) :: dB (.slice B n cb) ((L.set k (mY a, s1)).set k (gu a, .slice SA j SC)) :: (L.map bW).eraseIdx k) w) (hcm : c.map fT = (gu a).l) (hk : k < L.length) : Own w0 (dB (.slice B n cb) (L.set k (gu a, .slice SA j SC)) :: (L.set k (gu a, .slice SA j SC)).map bW) w := by
  rw [List.set_set, hcm] at h; exact yx (p := (gu a, .slice SA j SC)) h hk
theorem gw : En 29 := by intro args w; go_simp
theorem vZ (A : Option Addr) (cap : Nat) (l : List Ar) (w : World) (hr : ArgsIn w A l) (hc : l.length ≤ cap) (hw : ∀ a ∈ l, a.l.length ≤ 2932031007402) :
    Calls Tryz.prog 10 #[.slice A l.length cap] w fun e w' => OwnArgs w (jb l) e w' := by
  obtain ⟨m, hmdef⟩ : ∃ m, m = l.take 20 := ⟨_, rfl⟩; have hm : ArgsIn w A m := by rw [hmdef]; exact hr.take 20
  have hmn : m.length = min l.length 20 := by rw [hmdef, List.length_take, Nat.min_comm]
  have hml : m.length ≤ 900000 := by omega
  have hma : ∀ a ∈ m, a.l.length ≤ 2932031007402 := fun a h => hw a (by rw [hmdef] at h; exact List.mem_of_mem_take h); have hncap : m.length ≤ cap := by omega
  go_enter Tryz.func10, Tryz.ntmps10
  refine rgx [yV _] 1 87 rfl rfl (Own.start w) (
    uq1 rfl rfl rfl <|
    ah) fun fa fw bs hv ap z q ow => ?_
  have s0 := bs.get 0 rfl rfl; have s2 := zh hv 0; refine sq fun hK2 => ?_
  refine ro [yV _, yV _, yV _, yV _, yV _] 5 87 z q ow (
    um s0 rfl <|
    um s0 rfl <|
    ua (rle Tryz.underlying22 (zd 1)) rfl <|
    aS (fun hk bs hd => yz rfl rfl rfl (n := (l.length)) (m := 20) (dp hd 2 rfl) rfl hmn.symm) rfl <|
    aS (fun hk bs hd => oS (s := 9) Tryz.underlying22 (by kernel_rfl) rfl (dp hd 0 rfl) (dp hd 3 rfl) hncap) rfl <|
    ah) fun fa fw bs hv ap z q ow => ?_
  have s2 := bg bs s2; have s11 := zh hv 4; refine aO (ag rfl) (cz (u := .slice (fz A cap) m.length cap) rfl s11 (gw _ _)) ((oV (fz A cap) cap m _ ((hm.kept ow.kept).fz cap) hml hma).mono ?_); rintro _ fw ⟨vc, L0, rfl, hL0, oc⟩; refine ⟨_, rfl, ?_⟩; rcases (rfl : (0 : Nat) = 0) with _
  have ow := oT ow oc; obtain ⟨B, cb, rfl⟩ : ∃ B c, vc = .slice B m.length c := by obtain ⟨B, c, e⟩ := bV (ow.row 0 rfl); exact ⟨B, c, by rw [e, show L0.length = m.length by rw [← hL0, List.length_map]]⟩
  refine ae (v := .slice B m.length cb) (ag rfl) (aq rfl (af (t := 12) z rfl)) ?_; refine gt2 (ab (ab z)) (ac (ac q)) ow 2 (pb 3 (pb 12 s2 rfl) rfl) 3 (af (t := 3) (ab z) rfl) fun fa fw z q ow s2 s3 => ?_; refine wt hK2 ?_; refine sq fun hK3 => ?_
  refine rgx [yV _] 1 87 z q ow (
    uq1 rfl rfl rfl <|
    ah) fun fa fw bs hv ap z q ow => ?_
  obtain ⟨s2, s3⟩ := b2 bs s2 s3; have s4 := zh hv 0; refine wp_block ?_; refine bc (fun (k : Nat) fr u => ∃ (L : List (Ar × Value)), (k ≤ m.length) ∧ (L.map Prod.fst = (m.take k).map gu ++ m.drop k) ∧ fr.tmps.size = 87 ∧ fr.defers = [] ∧ Own w ((dB (.slice B m.length cb) L) :: (L.map bW)) u ∧ fr.eval (.tmp 2) = .slice none 0 0 ∧ fr.eval (.tmp 3) = .slice B m.length cb ∧ fr.eval (.tmp 4) = .int .i64 (k : Int)) (fun k => m.length - k) 0 ⟨L0, (Nat.zero_le _), (by simpa using hL0), z, q, ow, s2, s3, s4⟩ (fun k b_ u_ hI => ?_)
  revert b_ u_; intro fa fw hI
  obtain ⟨L, hk0, hL, z, q, ow, s2, s3, s4⟩ := hI; refine sq fun hK5 => ?_
  refine rgx [yV _, yV _, yV _, yV _] 4 87 z q ow (
    um s4 rfl <|
    um s3 rfl <|
    ua (rle Tryz.underlying22 (zd 1)) rfl <|
    ua (rlt (zd 0) (zd 2)) rfl <|
    ah) fun fa fw bs hv ap z q ow => ?_
  obtain ⟨s2, s3, s4⟩ := b3 bs s2 s3 s4; have s16 := zh hv 3
  by_cases hc1 : (k : Int) < ((m.length : Nat) : Int)
  ·refine ct s16 ((decide_eq_true_iff).2 hc1) ?_
   refine wp_skip ?_; refine tn hK5 ?_; refine sq fun hK7 => ?_; refine wp_block ?_; refine sq fun hK8 => ?_; have hltk : k < m.length := by omega
   obtain ⟨a, ha⟩ := bQ hltk; obtain ⟨sa, hLk⟩ := Ct hL ha; obtain ⟨SA, SC, rfl⟩ : ∃ A c, sa = .slice A a.l.length c := bV (ow.has _ (List.mem_cons_of_mem _ (List.mem_map_of_mem (List.mem_of_getElem? hLk)))); have hkL := (List.getElem?_eq_some_iff.1 hLk).1; obtain ⟨g, hB, hmlen, hcb⟩ := rP (ow.row 0 rfl) (by omega); have ea := kj fM hB (ow.row 0 rfl) hLk
   refine ro [yV _, yV _, yV _, yV _, yV _, yV (.pointer (some ⟨g, 0 + k * 9 + 1, none⟩)), yV (.pointer (some ⟨g, 0 + k * 9 + 1 + 2, none⟩)), yV _, yV _, yV _, yV _, yV (.pointer (some ⟨g, 0 + k * 9 + 1, none⟩)), yV (.pointer (some ⟨g, 0 + k * 9 + 1 + 2, none⟩)), yV _, yV _, yV _, yV _] 17 87 z q ow (
     um s3 rfl <|
     um s4 rfl <|
     um s3 rfl <|
     um s4 rfl <|
     ua (rpl 9 Tryz.underlying22 hB (zd 2) (zd 3) hltk) rfl <|
     ua (rfa (zd 4)) rfl <|
     ua (rfa (zd 5)) rfl <|
     aS (fun hk bs hd => kJ 3 rfl (by kernel_rfl) (dp hd 6 rfl) rfl (ea.kept hk) rfl) rfl <|
     um s3 rfl <|
     um s4 rfl <|
     ua (rpl 9 Tryz.underlying22 hB (zd 8) (zd 9) hltk) rfl <|
     ua (rfa (zd 10)) rfl <|
     ua (rfa (zd 11)) rfl <|
     aS (fun hk bs hd => kJ 3 rfl (by kernel_rfl) (dp hd 12 rfl) rfl (ea.kept hk) rfl) rfl <|
     aS (fun hk bs hd => B7 Tryz.underlying9 rfl (dp hd 13 rfl)) rfl <|
     aS (fun hk bs hd => yz rfl rfl rfl (n := (a.v.t.length)) (m := 300) (dp hd 14 rfl) rfl rfl) rfl <|
     aS (fun hk bs hd => zg (u := .string ⟨a.v.t.toArray⟩) (l := none) (h := some (.int .i64 ((min a.v.t.length 300) : Nat))) (m := none) rfl (dp hd 7 rfl) rfl (congrArg some ((dp hd 15 rfl).trans (congrArg (Value.int .i64) rfl))) rfl (kF Tryz.underlying9 a.v.t (min a.v.t.length 300) (Nat.min_le_left _ _))) rfl <|
     ah) fun fa fw bs hv ap z q ow => ?_
   obtain ⟨s2, s3, s4⟩ := b3 bs s2 s3 s4; have s19 := zh hv 0; have s20 := zh hv 1; have s35 := zh hv 16; refine ae (v := .pointer (some ⟨g, 0 + k * 9, none⟩)) (ag rfl) (jw 9 Tryz.underlying22 (by kernel_rfl) rfl hB s19 s20 hltk) ?_; refine ae (v := .pointer (some ⟨g, 0 + k * 9 + 1, none⟩)) (ag rfl) (bH rfl (af (t := 36) z rfl) (by kernel_rfl)) ?_; refine ae (v := .pointer (some ⟨g, 0 + k * 9 + 1 + 2, none⟩)) (ag rfl) (bH rfl (af (t := 37) (ab z) rfl) (by kernel_rfl)) ?_; refine tk ow (ag rfl) rfl rfl (af (t := 38) (ab (ab z)) rfl) (by omega) (pb 38 (pb 37 (pb 36 s35 rfl) rfl) rfl) hB hLk (fun fw1 ofw1 => ?_); have ow : Own w ((dB (.slice B m.length cb) (L.set k (mY a, .slice SA a.l.length SC))) :: (L.map bW)) _ := ofw1; refine gt3 (ab (ab (ab z))) (ac (ac (ac q))) ow 2 (pb 38 (pb 37 (pb 36 s2 rfl) rfl) rfl) 3 (pb 38 (pb 37 (pb 36 s3 rfl) rfl) rfl) 4 (pb 38 (pb 37 (pb 36 s4 rfl) rfl) rfl) fun fa fw z q ow s2 s3 s4 => ?_; refine wt hK8 ?_; refine sq fun hK9 => ?_; have eb := kj fM hB (ow.row 0 rfl) (zx (y := (mY a, .slice SA a.l.length SC)) hLk); obtain ⟨j, hj⟩ : ∃ j, j = min a.l.length 60 := ⟨_, rfl⟩; have hjc : j ≤ SC := by obtain h := AK (ow.has _ (List.mem_cons_of_mem _ (List.mem_map_of_mem (List.mem_of_getElem? hLk)))); omega
   refine ro [yV _, yV _, yV _, yV (.pointer (some ⟨g, 0 + k * 9 + 4, none⟩)), yV (.pointer (some ⟨g, 0 + k * 9 + 4 + 4, none⟩)), yV _, yV _, yV _, yV _, yV (.pointer (some ⟨g, 0 + k * 9 + 4, none⟩)), yV (.pointer (some ⟨g, 0 + k * 9 + 4 + 4, none⟩)), yV _, yV _, yV _, yV _] 15 87 z q ow (
     um s3 rfl <|
     um s4 rfl <|
     ua (rpl 9 Tryz.underlying22 hB (zd 0) (zd 1) hltk) rfl <|
     ua (rfa (zd 2)) rfl <|
     ua (rfa (zd 3)) rfl <|
     aS (fun hk bs hd => kJ 8 rfl (by kernel_rfl) (dp hd 4 rfl) rfl (eb.kept hk) rfl) rfl <|
     um s3 rfl <|
     um s4 rfl <|
     ua (rpl 9 Tryz.underlying22 hB (zd 6) (zd 7) hltk) rfl <|
     ua (rfa (zd 8)) rfl <|
     ua (rfa (zd 9)) rfl <|
     aS (fun hk bs hd => kJ 8 rfl (by kernel_rfl) (dp hd 10 rfl) rfl (eb.kept hk) rfl) rfl <|
     ua (rle Tryz.underlying35 (zd 11)) rfl <|
     aS (fun hk bs hd => yz rfl rfl rfl (n := (a.l.length)) (m := 60) (dp hd 12 rfl) rfl hj.symm) rfl <|
     aS (fun hk bs hd => oS (s := 5) Tryz.underlying35 (by kernel_rfl) rfl (dp hd 5 rfl) (dp hd 13 rfl) hjc) rfl <|
     ah) fun fa fw bs hv ap z q ow => ?_
   obtain ⟨s2, s3, s4⟩ := b3 bs s2 s3 s4; have s53 := zh hv 14; refine ae (v := .slice (fz SA SC) j SC) (ag rfl) (aq rfl s53) ?_; refine gp3 z q ow s2 s3 s4 fun fa fw z q ow s2 s3 s4 s5 => ?_; refine wt hK9 ?_; refine sq fun hK10 => ?_; refine sq fun hK11 => ?_; obtain ⟨c, hcdef⟩ : ∃ c, c = a.l.take 60 := ⟨_, rfl⟩; have hcl : c.length = j := by rw [hcdef, List.length_take]; omega
   have ow := Cu (AJ (yw ow hLk) hj); rw [← hcdef] at ow
   refine ro [yV _] 1 87 z q ow (
     uq1 rfl rfl rfl <|
     ah) fun fa fw bs hv ap z q ow => ?_
   obtain ⟨s2, s3, s4, s5⟩ := b4 bs s2 s3 s4 s5; have s6 := zh hv 0; refine wt hK11 ?_; refine wp_block ?_; refine bc (fun (i : Nat) fr u => (i ≤ j) ∧ fr.tmps.size = 87 ∧ fr.defers = [] ∧ Own w ((cT (.slice (fz SA SC) j SC) ((c.take i).map fT ++ c.drop i)) :: (dB (.slice B m.length cb) (L.set k (mY a, .slice SA a.l.length SC))) :: ((L.map bW).eraseIdx k)) u ∧ fr.eval (.tmp 2) = .slice none 0 0 ∧ fr.eval (.tmp 3) = .slice B m.length cb ∧ fr.eval (.tmp 4) = .int .i64 (k : Int) ∧ fr.eval (.tmp 5) = .slice (fz SA SC) j SC ∧ fr.eval (.tmp 6) = .int .i64 (i : Int)) (fun i => j - i) 0 ⟨(Nat.zero_le _), z, q, ow, s2, s3, s4, s5, s6⟩ (fun i b_ u_ hI => ?_)
   revert b_ u_; intro fa fw hI
   obtain ⟨hi0, z, q, ow, s2, s3, s4, s5, s6⟩ := hI; refine sq fun hK12 => ?_
   refine rgx [yV _, yV _, yV _, yV _] 4 87 z q ow (
     um s6 rfl <|
     um s5 rfl <|
     ua (rle Tryz.underlying35 (zd 1)) rfl <|
     ua (rlt (zd 0) (zd 2)) rfl <|
     ah) fun fa fw bs hv ap z q ow => ?_
   obtain ⟨s2, s3, s4, s5, s6⟩ := b5 bs s2 s3 s4 s5 s6; have s57 := zh hv 3
   by_cases hc2 : (i : Int) < ((j : Nat) : Int)
   ·refine ct s57 ((decide_eq_true_iff).2 hc2) ?_
    refine wp_skip ?_; refine tn hK12 ?_; refine sq fun hK14 => ?_; refine wp_block ?_; have hlti : i < j := by omega
    obtain ⟨y, hy⟩ := bQ (l := c) (i := i) (by omega); have hci := (jc (β := Unit) (f := fT) hy).1; obtain ⟨gc, hC, _, hcc⟩ := rP (ow.row 0 rfl) (Nat.lt_of_le_of_lt (Nat.zero_le _) (List.getElem?_eq_some_iff.1 hci).1); have ec := kj dW hC (ow.row 0 rfl) hci
    refine ro [yV _, yV _, yV _, yV _, yV _, yV (.pointer (some ⟨gc, 0 + i * 5 + 2, none⟩)), yV (.pointer (some ⟨gc, 0 + i * 5 + 2 + 2, none⟩)), yV _, yV _, yV _, yV _, yV (.pointer (some ⟨gc, 0 + i * 5 + 2, none⟩)), yV (.pointer (some ⟨gc, 0 + i * 5 + 2 + 2, none⟩)), yV _, yV _, yV _, yV _] 17 87 z q ow (
      um s5 rfl <|
      um s6 rfl <|
      um s5 rfl <|
      um s6 rfl <|
      ua (rpl 5 Tryz.underlying35 hC (zd 2) (zd 3) hlti) rfl <|
      ua (rfa (zd 4)) rfl <|
      ua (rfa (zd 5)) rfl <|
      aS (fun hk bs hd => kJ 4 rfl (by kernel_rfl) (dp hd 6 rfl) rfl (ec.kept hk) rfl) rfl <|
      um s5 rfl <|
      um s6 rfl <|
      ua (rpl 5 Tryz.underlying35 hC (zd 8) (zd 9) hlti) rfl <|
      ua (rfa (zd 10)) rfl <|
      ua (rfa (zd 11)) rfl <|
      aS (fun hk bs hd => kJ 4 rfl (by kernel_rfl) (dp hd 12 rfl) rfl (ec.kept hk) rfl) rfl <|
      aS (fun hk bs hd => B7 Tryz.underlying9 rfl (dp hd 13 rfl)) rfl <|
      aS (fun hk bs hd => yz rfl rfl rfl (n := (y.v.t.length)) (m := 300) (dp hd 14 rfl) rfl rfl) rfl <|
      aS (fun hk bs hd => zg (u := .string ⟨y.v.t.toArray⟩) (l := none) (h := some (.int .i64 ((min y.v.t.length 300) : Nat))) (m := none) rfl (dp hd 7 rfl) rfl (congrArg some ((dp hd 15 rfl).trans (congrArg (Value.int .i64) rfl))) rfl (kF Tryz.underlying9 y.v.t (min y.v.t.length 300) (Nat.min_le_left _ _))) rfl <|
      ah) fun fa fw bs hv ap z q ow => ?_
    obtain ⟨s2, s3, s4, s5, s6⟩ := b5 bs s2 s3 s4 s5 s6; have s60 := zh hv 0; have s61 := zh hv 1; have s76 := zh hv 16; refine ae (v := .pointer (some ⟨gc, 0 + i * 5, none⟩)) (ag rfl) (jw 5 Tryz.underlying35 (by kernel_rfl) rfl hC s60 s61 hlti) ?_; refine ae (v := .pointer (some ⟨gc, 0 + i * 5 + 2, none⟩)) (ag rfl) (bH rfl (af (t := 77) z rfl) (by kernel_rfl)) ?_; refine ae (v := .pointer (some ⟨gc, 0 + i * 5 + 2 + 2, none⟩)) (ag rfl) (bH rfl (af (t := 78) (ab z) rfl) (by kernel_rfl)) ?_; refine qt ow (ag rfl) rfl rfl (af (t := 79) (ab (ab z)) rfl) (by omega) (pb 79 (pb 78 (pb 77 s76 rfl) rfl) rfl) hC hci (fun fw2 ofw2 => ?_); have ow : Own w ((cT (.slice (fz SA SC) j SC) (((c.take i).map fT ++ c.drop i).set i (fT y))) :: (dB (.slice B m.length cb) (L.set k (mY a, .slice SA a.l.length SC))) :: ((L.map bW).eraseIdx k)) _ := ofw2; refine gt5 (ab (ab (ab z))) (ac (ac (ac q))) ow 2 (pb 79 (pb 78 (pb 77 s2 rfl) rfl) rfl) 3 (pb 79 (pb 78 (pb 77 s3 rfl) rfl) rfl) 4 (pb 79 (pb 78 (pb 77 s4 rfl) rfl) rfl) 5 (pb 79 (pb 78 (pb 77 s5 rfl) rfl) rfl) 6 (pb 79 (pb 78 (pb 77 s6 rfl) rfl) rfl) fun fa fw z q ow s2 s3 s4 s5 s6 => ?_; refine bp ?_; refine bn ?_; refine tn hK14 ?_
    refine ro [yV _, yV (.int .i64 ((i + 1 : Nat) : Int))] 2 87 z q ow (
      um s6 rfl <|
      ua (rad (zd 0) zc) rfl <|
      ah) fun fa fw bs hv ap z q ow => ?_
    obtain ⟨s2, s3, s4, s5, s6⟩ := b5 bs s2 s3 s4 s5 s6; have s59 := zh hv 1; refine ae (v := .int .i64 ((i + 1 : Nat) : Int)) (ag rfl) (aq rfl s59) ?_; refine gp4 z q ow s2 s3 s4 s5 fun fa fw z q ow s2 s3 s4 s5 s6 => ?_; refine bp ?_; exact bK ⟨(i + 1), ⟨hlti, z, q, (yA ow hy), s2, s3, s4, s5, s6⟩, (show j - (i + 1) < j - i by omega)⟩
   refine cf s57 (decide_eq_true_iff) hc2 ?_; refine wp_exit ?_; refine aX ?_; refine aX ?_; refine aP ?_; refine tn hK10 ?_; have ow := ow; rw [vY (f := fT) (by omega)] at ow; have hcm : c.map fT = (gu a).l := by rw [hcdef]; rfl
   refine ro [yV _, yV _, yV _, yV _, yV (.pointer (some ⟨g, 0 + k * 9 + 4, none⟩)), yV (.pointer (some ⟨g, 0 + k * 9 + 4 + 4, none⟩))] 6 87 z q ow (
     um s3 rfl <|
     um s4 rfl <|
     um s5 rfl <|
     ua (rpl 9 Tryz.underlying22 hB (zd 0) (zd 1) hltk) rfl <|
     ua (rfa (zd 3)) rfl <|
     ua (rfa (zd 4)) rfl <|
     ah) fun fa fw bs hv ap z q ow => ?_
   obtain ⟨s2, s3, s4⟩ := b3 bs s2 s3 s4; have s82 := zh hv 2; have s85 := zh hv 5; refine qs ow (ag rfl) rfl rfl s85 (by omega) s82 rfl hB (zx hLk) (z := gu a) rfl (fun fw3 ofw3 => ?_); have ow : Own w ((cT (.slice (fz SA SC) j SC) (c.map fT)) :: (dB (.slice B m.length cb) ((L.set k (mY a, .slice SA a.l.length SC)).set k (gu a, .slice (fz SA SC) j SC))) :: ((L.map bW).eraseIdx k)) _ := ofw3; refine gt3 z q ow 2 s2 3 s3 4 s4 fun fa fw z q ow s2 s3 s4 => ?_; refine bp ?_; refine bn ?_; refine tn hK7 ?_
   refine ro [yV _, yV (.int .i64 ((k + 1 : Nat) : Int))] 2 87 z q ow (
     um s4 rfl <|
     ua (rad (zd 0) zc) rfl <|
     ah) fun fa fw bs hv ap z q ow => ?_
   obtain ⟨s2, s3, s4⟩ := b3 bs s2 s3 s4; have s18 := zh hv 1; refine ae (v := .int .i64 ((k + 1 : Nat) : Int)) (ag rfl) (aq rfl s18) ?_; refine gp2 z q ow s2 s3 fun fa fw z q ow s2 s3 s4 => ?_; refine bp ?_; exact bK ⟨(k + 1), ⟨(L.set k (gu a, .slice (fz SA SC) j SC)), hltk, (yy hL ha), z, q, (yB ow hcm hkL), s2, s3, s4⟩, (show m.length - (k + 1) < m.length - k by omega)⟩
  refine cf s16 (decide_eq_true_iff) hc1 ?_; refine wp_exit ?_; refine aX ?_; refine aX ?_; refine aP ?_; refine tn hK3 ?_
  refine rgx [yV _, yV _] 2 87 z q ow (
    um s3 rfl <|
    uq3 0 rfl rfl <|
    ah) fun fa fw bs hv ap z q ow => ?_
  have s2 := zh hv 1; refine wp_ret ?_; refine am rfl (ak s2) q ?_; exact ⟨_, L, rfl, by rw [hL, vY (by omega), hmdef]; rfl, ow⟩
end

section
open Go.RowKit Lv
theorem OwnV.at_ {w : World} {base n cap : Nat} {A : Option Addr} {l : List Vl} (h : OwnV w base (.slice A n cap) l) {i : Nat} (hi : i < l.length) :
    ∃ g, A = some ⟨g, 0, none⟩ ∧ base ≤ g ∧ g < w.heap.size ∧ n = l.length ∧ n ≤ cap ∧ w.cell? ⟨g, i * 3, none⟩ = some (.int .u8 (l.getD i aG).k) ∧ w.cell? ⟨g, i * 3 + 1, none⟩ = some (.int .i64 (l.getD i aG).n) ∧ w.cell? ⟨g, i * 3 + 2, none⟩ = some (.string ⟨(l.getD i aG).t.toArray⟩) ∧ ∀ o, w.frozen? ⟨g, o, none⟩ = false := by
  rcases h.2 with ⟨_, h0⟩ | ⟨g, cap', cur, e, hg, hh, h4, h5, h6, h7⟩
  · omega
  · cases e
    have hr := RowV.box (t := 25) (cs := cur) hh h7 i hi; obtain ⟨b, off, e, _, c0, c1, c2⟩ := hr
    cases e
    rw [Nat.zero_add] at c0 c1 c2; exact ⟨g, rfl, hg, (Array.getElem?_eq_some_iff.1 hh).1, rfl, h4, c0, c1, c2, fun o => Box.loose (t := 25) (cs := cur) hh o⟩
theorem OwnV.form {w : World} {base : Nat} {v : Value} {l : List Vl} (h : OwnV w base v l) : ∃ A cap, v = .slice A l.length cap := by
  obtain ⟨A, cap, e, _⟩ := h.row; exact ⟨A, cap, e⟩
end

namespace Lv
open Go
end Lv

section
open Go.RowKit Lv
theorem Box.three {w : World} {p : Nat} {a : Vl} (h : Box w p 25 (cq a)) : p < w.heap.size ∧ w.cell? ⟨p, 0, none⟩ = some (.int .u8 a.k) ∧ w.cell? ⟨p, 1, none⟩ = some (.int .i64 a.n) ∧ w.cell? ⟨p, 2, none⟩ = some (.string ⟨a.t.toArray⟩) ∧ w.frozen? ⟨p, 0, none⟩ = false ∧ w.frozen? ⟨p, 1, none⟩ = false ∧ w.frozen? ⟨p, 2, none⟩ = false :=
  ⟨h.inside, h.cell 0, h.cell 1, h.cell 2, h.loose 0, h.loose 1, h.loose 2⟩
theorem Box.cells3 {w : World} {p : Nat} {T : TypeId} {a b c : Value} (h : Box w p T #[a, b, c]) : w.cell? ⟨p, 0, none⟩ = some a ∧ w.cell? ⟨p, 1, none⟩ = some b ∧ w.cell? ⟨p, 2, none⟩ = some c := ⟨h.cell 0, h.cell 1, h.cell 2⟩
end

section
open Go.RowKit Lv
theorem ff {P : Program} {f : Func} {R : Ending → World → Prop} {x : Exit} {a : Act} {W : World} (F : World → Prop) (hF : F W) (h : ∀ wf, F wf → bodyPost P f R x a wf) : bodyPost P f R x a W := h W hF
structure Tri (w : World) (p : Nat) (a b c : Vl) : Prop where
  A : Box w p 25 (cq a)
  B : Box w (p + 1) 25 (cq b)
  C : Box w (p + 1 + 1) 25 (cq c)
theorem Tri.kept {w w' : World} {p : Nat} {a b c : Vl} (h : Tri w p a b c) (k : Kept w w') : Tri w' p a b c := ⟨h.A.kept k, h.B.kept k, h.C.kept k⟩
theorem Tri.made (w : World) (a b c : Vl) : Tri (((w.alloc (.cells (cq a) 25)).alloc (.cells (cq b) 25)).alloc (.cells (cq c) 25)) w.heap.size a b c :=
  ⟨((Box.new w _ _).alloc _).alloc _, (Box.newAt (by simp) _ _).alloc _, Box.newAt (by simp) _ _⟩
theorem Tri.far {w : World} {p g : Nat} {a b c : Vl} (h : Tri w p a b c) (hg : p + 1 + 1 < g) (x y z : Value) : Tri (((w.setCell ⟨g, 0, none⟩ x).setCell ⟨g, 1, none⟩ y).setCell ⟨g, 2, none⟩ z) p a b c := ⟨Box.far3 h.A (by omega), Box.far3 h.B (by omega), Box.far3 h.C (by omega)⟩
theorem Tri.inside {w : World} {p : Nat} {a b c : Vl} (h : Tri w p a b c) : p + 1 + 1 < w.heap.size := h.C.inside
end

section
open Go.RowKit Lv
end

section
open Go.RowKit Lv
theorem RowV.head {w : World} {b off : Nat} {a : Vl} {r : List Vl} (h : RowV w (some ⟨b, off, none⟩) (a :: r)) : b < w.heap.size ∧ w.cell? ⟨b, off, none⟩ = some (.int .u8 a.k) ∧ w.cell? ⟨b, off + 1, none⟩ = some (.int .i64 a.n) ∧ w.cell? ⟨b, off + 2, none⟩ = some (.string ⟨a.t.toArray⟩) := by
  obtain ⟨b', off', e, hb, x0, x1, x2⟩ := h 0 (by simp)
  cases e
  simp only [Nat.zero_mul, Nat.add_zero, List.getD_cons_zero] at x0 x1 x2
  exact ⟨hb, x0, x1, x2⟩
theorem RowV.second {w : World} {b off : Nat} {a c : Vl} {r : List Vl} (h : RowV w (some ⟨b, off, none⟩) (a :: c :: r)) : w.cell? ⟨b, off + 3, none⟩ = some (.int .u8 c.k) ∧ w.cell? ⟨b, off + 3 + 1, none⟩ = some (.int .i64 c.n) ∧ w.cell? ⟨b, off + 3 + 2, none⟩ = some (.string ⟨c.t.toArray⟩) := by
  obtain ⟨b', off', e, hb, x0, x1, x2⟩ := h 1 (by simp)
  cases e
  exact ⟨x0, x1, x2⟩
end

section
open Go.RowKit Lv
theorem yC (t : List UInt8) {j : Nat} (hj : min (t.length : Int) 300 = (j : Int)) : (ByteArray.mk t.toArray).extract 0 j = ⟨(t.take 300).toArray⟩ := by
  rw [ar, List.drop_zero]
  congr 2
  by_cases c : t.length ≤ 300
  · rw [List.take_of_length_le (by omega), List.take_of_length_le (by omega)]
  · rw [show j = 300 by omega]
theorem oW (n : Int) : -5 < Int.tmod n 5 ∧ Int.tmod n 5 < 5 := by
  have h1 := Int.tmod_lt_of_pos n (b := 5) (by omega); have h2 := Int.tmod_lt_of_pos (-n) (b := 5) (by omega); rw [Int.neg_tmod] at h2
  omega
theorem rQ (v : Vl) (w : World) (hw : mI v) : Calls Tryz.prog 18 #[al v] w fun e w' => e = .returned (al (be v)) ∧ Kept w w' := by
  obtain ⟨k, n, t⟩ := v; obtain ⟨hk, ⟨n1, n2⟩, ht⟩ := hw
  simp only at hk n1 n2 ht
  have ml : maxLen ≤ 9223372036854775807 := by decide
  have tl : t.length ≤ 9223372036854775807 := Nat.le_trans ht ml; obtain ⟨j, hj⟩ : ∃ j : Nat, min (t.length : Int) 300 = (j : Int) := ⟨min t.length 300, by omega⟩; have jl : j ≤ t.length := by omega
  have hx := yC t hj; have CK := Lib.hid (fun w => fs ⟨k, n, t.take 300⟩ w ⟨n1, n2⟩ (by simp; omega)); have lu : (t.take 300).length ≤ 300 := by rw [List.length_take]; omega
  have Z := aj; have B1 : Hid (Box ((w.alloc (.cells (cq ⟨k, n, t.take 300⟩) 25)).alloc (.cells #[.int .u8 0, .int .i64 0, .string ⟨#[]⟩] 25)) (w.heap.size + 1) 25 (cq aG)) := Lib.hid (Box.newAt (by simp) _ _); have B0 : Hid (Box ((w.alloc (.cells (cq ⟨k, n, t.take 300⟩) 25)).alloc (.cells #[.int .u8 0, .int .i64 0, .string ⟨#[]⟩] 25)) w.heap.size 25 (cq ⟨k, n, t.take 300⟩)) := Lib.hid ((Box.new w _ _).alloc _); clear ht ml; have cut : jP ⟨k, n, t⟩ = ⟨k, n, t.take 300⟩ := rfl
  cases ok : vOk ⟨k, n, t.take 300⟩ with
  | true =>
    rw [da ok] at CK
    have EF : Hid (be ⟨k, n, t⟩ = ⟨k, n, t.take 300⟩) := by
      show _ = _; exact (by unfold be; rw [cut, if_pos ok] : be ⟨k, n, t⟩ = ⟨k, n, t.take 300⟩)
    clear ok cut; go_enter Tryz.func18, Tryz.ntmps18; go_wp2_with fail; refine (CK.out _).mono ?_; rintro e w1 ⟨rfl, k1⟩; obtain ⟨i0, p0, p1, p2, _⟩ := (B0.out.kept k1).three; have C1 := Lib.hid (B1.out.kept k1); obtain ⟨j0, q0, q1, q2, g0, g1, g2⟩ := C1.out.three; have KK : Hid (Kept w w1) := Lib.hid (Kept.trans kpt k1); clear k1; go_wp2_with fail; refine ff (fun wf => Box wf (w.heap.size + 1) 25 (cq ⟨k, n, t.take 300⟩) ∧ Kept w wf) ⟨Box.set3 C1.out, KK.out.set3 (by omega)⟩ ?_; rintro wf ⟨z0, kf⟩; obtain ⟨e0, e1, e2⟩ := z0.cells3; exact bodyPost_ret (v := al ⟨k, n, t.take 300⟩) (by simp [results, Tryz.results18, go_sem, e0, e1, e2]) rfl ⟨congrArg (fun z => Ending.returned (al z)) EF.out.symm, kf⟩
  | false =>
    rw [cG ok] at CK
    have EG : Hid (be ⟨k, n, t⟩ = if k % 5 = 2 then fQ (decide (Int.tmod n 2 ≠ 0)) else if k % 5 = 3 then ⟨3, 0, [120]⟩ else if k % 5 = 4 then aW (1 + Int.tmod (Int.tmod n 5 + 5) 5) else if k % 5 = 0 then ⟨0, 0, []⟩ else aK (max n (-9223372036854775807))) := by
      show _ = _; unfold be; rw [cut, if_neg (by rw [ok]; exact Bool.false_ne_true)]
    clear ok cut; obtain ⟨q, hq⟩ : ∃ q : Nat, q = k % 5 := ⟨_, rfl⟩; have q5 : q < 5 := by omega
    have km : (k : Int) % 5 = (q : Int) := by omega
    rw [← hq] at EG; clear hq
    match q, q5 with
    | 0, _ =>
      have EF : Hid (be ⟨k, n, t⟩ = ⟨0, 0, []⟩) := EG; have km : (k : Int) % 5 = 0 := km; clear EG; go_enter Tryz.func18, Tryz.ntmps18; go_wp2_with fail; refine (CK.out _).mono ?_; rintro e w1 ⟨rfl, k1⟩; obtain ⟨i0, p0, p1, p2, _⟩ := (B0.out.kept k1).three; have C1 := Lib.hid (B1.out.kept k1); obtain ⟨j0, q0, q1, q2, g0, g1, g2⟩ := C1.out.three; have KK : Hid (Kept w w1) := Lib.hid (Kept.trans kpt k1); clear k1; go_wp2_with fail; refine ff (fun wf => Box wf (w.heap.size + 1) 25 (cq (⟨0, 0, []⟩ : Vl)) ∧ Kept w wf) ⟨Box.set3 C1.out, KK.out.set3 (by omega)⟩ ?_; rintro wf ⟨z0, kf⟩; obtain ⟨e0, e1, e2⟩ := z0.cells3; exact bodyPost_ret (v := al (⟨0, 0, []⟩ : Vl)) (by simp [results, Tryz.results18, go_sem, e0, e1, e2]) rfl ⟨congrArg (fun z => Ending.returned (al z)) EF.out.symm, kf⟩
    | 1, _ =>
      have EF : Hid (be ⟨k, n, t⟩ = aK (max n (-9223372036854775807))) := EG; have km : (k : Int) % 5 = 1 := km; obtain ⟨z, hz⟩ : ∃ z, max n (-9223372036854775807) = z := ⟨_, rfl⟩; rw [hz] at EF; have z1 : -9223372036854775808 ≤ z := by omega
      have z2 : z ≤ 9223372036854775807 := by omega
      have T := Lib.hid (fun w => gd z w z1 z2); generalize aK z = y at *; clear EG; go_enter Tryz.func18, Tryz.ntmps18; go_wp2_with fail; refine (CK.out _).mono ?_; rintro e w1 ⟨rfl, k1⟩; obtain ⟨i0, p0, p1, p2, _⟩ := (B0.out.kept k1).three; have C1 := Lib.hid (B1.out.kept k1); obtain ⟨j0, q0, q1, q2, g0, g1, g2⟩ := C1.out.three; have KK : Hid (Kept w w1) := Lib.hid (Kept.trans kpt k1); clear k1; go_wp2_with fail; refine (T.out _).mono ?_; rintro e w2 ⟨rfl, k2⟩; have C1 := Lib.hid (C1.out.kept k2); have KK := Lib.hid (KK.out.trans k2); obtain ⟨j0, q0, q1, q2, g0, g1, g2⟩ := C1.out.three; clear k2; go_wp2_with fail; refine ff (fun wf => Box wf (w.heap.size + 1) 25 (cq y) ∧ Kept w wf) ⟨Box.set3 C1.out, KK.out.set3 (by omega)⟩ ?_; rintro wf ⟨z0, kf⟩; obtain ⟨e0, e1, e2⟩ := z0.cells3; exact bodyPost_ret (v := al y) (by simp [results, Tryz.results18, go_sem, e0, e1, e2]) rfl ⟨congrArg (fun z => Ending.returned (al z)) EF.out.symm, kf⟩
    | 2, _ =>
      have km : (k : Int) % 5 = 2 := km; obtain ⟨bb, hb⟩ : ∃ bb, (Int.tmod n 2 != 0) = bb := ⟨_, rfl⟩
      have EF : Hid (be ⟨k, n, t⟩ = fQ bb) := by
        show _ = _; rw [EG.out, if_pos rfl, ← hb]
        congr 1
        by_cases c : Int.tmod n 2 = 0
        · rw [c]; rfl
        · rw [decide_eq_true c]; symm; rw [bne_iff_ne]; exact c
      have T := Lib.hid (fun w => sC bb w); clear EG; go_enter Tryz.func18, Tryz.ntmps18; go_wp2_with fail; refine (CK.out _).mono ?_; rintro e w1 ⟨rfl, k1⟩; obtain ⟨i0, p0, p1, p2, _⟩ := (B0.out.kept k1).three; have C1 := Lib.hid (B1.out.kept k1); obtain ⟨j0, q0, q1, q2, g0, g1, g2⟩ := C1.out.three; have KK : Hid (Kept w w1) := Lib.hid (Kept.trans kpt k1); clear k1; go_wp2_with fail; refine (T.out _).mono ?_; rintro e w2 ⟨rfl, k2⟩; have C1 := Lib.hid (C1.out.kept k2); have KK := Lib.hid (KK.out.trans k2); obtain ⟨j0, q0, q1, q2, g0, g1, g2⟩ := C1.out.three; clear k2; go_wp2_with fail; refine ff (fun wf => Box wf (w.heap.size + 1) 25 (cq (fQ bb)) ∧ Kept w wf) ⟨Box.set3 C1.out, KK.out.set3 (by omega)⟩ ?_; rintro wf ⟨z0, kf⟩; obtain ⟨e0, e1, e2⟩ := z0.cells3; exact bodyPost_ret (v := al (fQ bb)) (by simp [results, Tryz.results18, go_sem, e0, e1, e2]) rfl ⟨congrArg (fun z => Ending.returned (al z)) EF.out.symm, kf⟩
    | 3, _ =>
      have EF : Hid (be ⟨k, n, t⟩ = ⟨3, 0, [120]⟩) := EG; have km : (k : Int) % 5 = 3 := km; clear EG; go_enter Tryz.func18, Tryz.ntmps18; go_wp2_with fail; refine (CK.out _).mono ?_; rintro e w1 ⟨rfl, k1⟩; obtain ⟨i0, p0, p1, p2, _⟩ := (B0.out.kept k1).three; have C1 := Lib.hid (B1.out.kept k1); obtain ⟨j0, q0, q1, q2, g0, g1, g2⟩ := C1.out.three; have KK : Hid (Kept w w1) := Lib.hid (Kept.trans kpt k1); clear k1; go_wp2_with fail; refine ff (fun wf => Box wf (w.heap.size + 1) 25 (cq (⟨3, 0, [120]⟩ : Vl)) ∧ Kept w wf) ⟨Box.set3 C1.out, KK.out.set3 (by omega)⟩ ?_; rintro wf ⟨z0, kf⟩; obtain ⟨e0, e1, e2⟩ := z0.cells3; exact bodyPost_ret (v := al (⟨3, 0, [120]⟩ : Vl)) (by simp [results, Tryz.results18, go_sem, e0, e1, e2]) rfl ⟨congrArg (fun z => Ending.returned (al z)) EF.out.symm, kf⟩
    | 4, _ =>
      have EF : Hid (be ⟨k, n, t⟩ = aW (1 + Int.tmod (Int.tmod n 5 + 5) 5)) := EG; have km : (k : Int) % 5 = 4 := km; have t5 := oW n; obtain ⟨t51, t52⟩ := t5; obtain ⟨z, hz⟩ : ∃ z, Int.tmod n 5 = z := ⟨_, rfl⟩; rw [hz] at EF t51 t52; have u5 := oW (z + 5); obtain ⟨u51, u52⟩ := u5; obtain ⟨y, hy⟩ : ∃ y, Int.tmod (z + 5) 5 = y := ⟨_, rfl⟩; rw [hy] at EF u51 u52; have T := Lib.hid (fun w => eY (1 + y) w); generalize aW (1 + y) = f at *; clear EG; go_enter Tryz.func18, Tryz.ntmps18; go_wp2_with fail; refine (CK.out _).mono ?_; rintro e w1 ⟨rfl, k1⟩; obtain ⟨i0, p0, p1, p2, _⟩ := (B0.out.kept k1).three; have C1 := Lib.hid (B1.out.kept k1); obtain ⟨j0, q0, q1, q2, g0, g1, g2⟩ := C1.out.three; have KK : Hid (Kept w w1) := Lib.hid (Kept.trans kpt k1); clear k1; go_wp2_with fail; refine (T.out _).mono ?_; rintro e w2 ⟨rfl, k2⟩; have C1 := Lib.hid (C1.out.kept k2); have KK := Lib.hid (KK.out.trans k2); obtain ⟨j0, q0, q1, q2, g0, g1, g2⟩ := C1.out.three; clear k2; go_wp2_with fail; refine ff (fun wf => Box wf (w.heap.size + 1) 25 (cq f) ∧ Kept w wf) ⟨Box.set3 C1.out, KK.out.set3 (by omega)⟩ ?_; rintro wf ⟨z0, kf⟩; obtain ⟨e0, e1, e2⟩ := z0.cells3; exact bodyPost_ret (v := al f) (by simp [results, Tryz.results18, go_sem, e0, e1, e2]) rfl ⟨congrArg (fun z => Ending.returned (al z)) EF.out.symm, kf⟩
    | q + 5, h => exact absurd h (by omega)
end

namespace Lv
open Go
end Lv

namespace Lv
open Go
end Lv

namespace Lv
open Go
theorem mr {v : Vl} (h : i64 v.n) : Small (be v) := by
  refine ⟨?_, Nat.le_trans (rL (mV v)) (by decide)⟩; have ok := mV v; unfold be
  split
  · exact h
  · split
    · unfold fQ; split <;> exact ⟨by decide, by decide⟩
    · split
      · exact ⟨by decide, by decide⟩
      · split
        · unfold aW; split
          · rename_i c; exact ⟨by show -9223372036854775808 ≤ (1 + Int.tmod (Int.tmod v.n 5 + 5) 5 : Int); omega, by show (1 + Int.tmod (Int.tmod v.n 5 + 5) 5 : Int) ≤ 9223372036854775807; omega⟩
          · exact ⟨by decide, by decide⟩
        · split
          · exact ⟨by decide, by decide⟩
          · unfold aK
            split
            · exact ⟨by decide, by decide⟩
            · obtain ⟨h1, h2⟩ := h
              exact ⟨by show -9223372036854775808 ≤ max v.n _; omega, by show max v.n _ ≤ (9223372036854775807 : Int); omega⟩
section
variable {a b : Vl} (ha : vOk a = true) (hb : vOk b = true) (ka : a.k ≠ 4) (kb : b.k ≠ 4)
include ha hb ka kb
end
end Lv

namespace Lv
open Go
/-! what comes out is valid -/
end Lv

namespace Lv
open Go
def AL (a : Ar) : Prop := i64 a.v.n ∧ ∀ c ∈ a.l, i64 c.v.n
def num64 (n : Int) : Prop := -9223372036854775807 ≤ n ∧ n ≤ 9223372036854775807
theorem AM {i : Int} (h : -900000000000000 ≤ i ∧ i ≤ 900000000000000) : bB ⟨1, i * 10000, []⟩ = ⟨1, i * 10000, []⟩ ∧ mM ⟨1, i * 10000, []⟩ = i := by
  have o : vOk ⟨1, i * 10000, []⟩ = true := by rw [ok1, decide_eq_true_eq]; exact ⟨rfl, by omega⟩
  have e := xC o (Or.inl rfl); refine ⟨e, ?_⟩; unfold mM; rw [e]; exact Int.mul_tdiv_cancel _ (by decide)
theorem rank_out {a : Ar} {i : Int} {d : Bool} (hn : (eJ [a]).2.2 = true) (hi : -900000000000000 ≤ i ∧ i ≤ 900000000000000) (h : i < 1 ∨ ((eJ [a]).1.length : Int) < i) : eK a ⟨1, i * 10000, []⟩ d = aW 3 := by
  obtain ⟨p1, p2⟩ := AM hi; unfold eK; rw [hn, if_neg (by simp), p1, p2]; have e : isE (⟨1, i * 10000, []⟩ : Vl) = false := rfl; rw [e, if_neg (by simp), if_pos h]
end Lv

namespace Lv
open Go
end Lv

namespace Lv
open Go
end Lv

namespace Lv
open Go
def ms (c : Cl) : Cl := { c with v := be c.v }
def tm (x : Rc) (acc : List Cl) (c : Cl) : Bool := decide ((be c.v).k ≠ 0) && gU x c.c c.r && (match acc.getLast? with | none => true | some p => cO p c)
def cn (x : Rc) (acc : List Cl) (c : Cl) : List Cl := if tm x acc c then acc ++ [ms c] else acc
def fg (x : Rc) (l : List Cl) : List Cl := l.foldl (cn x) []
def ed (a : Ar) : Ar := if a.w = true ∧ okR a.x = true then ⟨true, aG, a.x, fg a.x a.l⟩ else ⟨false, be a.v, qf, []⟩
def oX (l : List Ar) : List Ar := l.map ed
theorem rR {v : Vl} (h : vOk v = true) (hi : i64 v.n) : Small v := ⟨hi, Nat.le_trans (rL h) (by decide)⟩
theorem yD {l : List Cl} {c : Cl} (h : qg l) (hl : ∀ p, l.getLast? = some p → cO p c = true) : qg (l ++ [c]) := by
  refine List.pairwise_append.2 ⟨h, List.pairwise_singleton _ _, fun p hp q hq => ?_⟩
  simp only [List.mem_singleton] at hq
  subst hq
  obtain ⟨m, d, rfl⟩ : ∃ m d, l = m ++ [d] := by
    rcases List.eq_nil_or_concat l with e | ⟨m, d, e⟩
    · subst e; cases hp
    · exact ⟨m, d, by rw [e, List.concat_eq_append]⟩
  have hd := hl d (by simp); rcases List.mem_append.1 hp with h1 | h1
  · have h2 := (List.pairwise_append.1 h).2.2 p h1 d (by simp)
    unfold cO at h2 hd ⊢
    simp only [Bool.or_eq_true, Bool.and_eq_true, decide_eq_true_eq] at h2 hd ⊢
    omega
  · simp only [List.mem_singleton] at h1
    subst h1; exact hd
def we (x : Rc) (l : List Cl) : Prop := (∀ c ∈ l, eL x c) ∧ qg l
theorem yE {x : Rc} {acc : List Cl} {c : Cl} (h : we x acc) : we x (cn x acc c) ∧ (cn x acc c).length ≤ acc.length + 1 := by
  unfold cn
  by_cases hf : tm x acc c = true
  · rw [if_pos hf]
    unfold tm at hf
    simp only [Bool.and_eq_true, decide_eq_true_eq] at hf
    obtain ⟨⟨f1, f2⟩, f3⟩ := hf; refine ⟨⟨fun q hq => ?_, yD h.2 (fun p hp => ?_)⟩, by simp⟩
    · rcases List.mem_append.1 hq with h1 | h1
      · exact h.1 q h1
      · simp only [List.mem_singleton] at h1
        subst h1; exact ⟨f2, f1, mV _⟩
    · rw [hp] at f3
      exact f3
  · rw [if_neg hf]
    exact ⟨h, by omega⟩
theorem rS {x : Rc} : ∀ (l : List Cl) (acc : List Cl), we x acc → we x (l.foldl (cn x) acc) ∧ (l.foldl (cn x) acc).length ≤ acc.length + l.length
  | [], acc, h => ⟨h, by simp⟩
  | c :: l, acc, h => by
    obtain ⟨h1, h2⟩ := yE (c := c) h; obtain ⟨h3, h4⟩ := rS l _ h1; exact ⟨h3, by simp only [List.foldl_cons, List.length_cons]; omega⟩
theorem jR (x : Rc) (l : List Cl) : we x (fg x l) ∧ (fg x l).length ≤ l.length := by
  obtain ⟨h1, h2⟩ := rS (x := x) l [] ⟨(fun c h => by cases h), List.Pairwise.nil⟩; exact ⟨h1, by simpa [fg] using h2⟩
theorem rT {x : Rc} : ∀ (l : List Cl) (acc : List Cl), (∀ c ∈ acc, i64 c.v.n) → (∀ c ∈ l, i64 c.v.n) → ∀ c ∈ l.foldl (cn x) acc, i64 c.v.n
  | [], acc, h, _ => h
  | c :: l, acc, h, g => by
    refine rT l _ (fun q hq => ?_) (fun q hq => g q (List.mem_cons_of_mem _ hq)); unfold cn at hq
    by_cases hf : tm x acc c = true
    · rw [if_pos hf] at hq
      rcases List.mem_append.1 hq with h1 | h1
      · exact h q h1
      · simp only [List.mem_singleton] at h1
        subst h1; exact (mr (g c List.mem_cons_self)).1
    · rw [if_neg hf] at hq
      exact h q hq
theorem wi {a : Ar} (h : AL a) : AL (ed a) := by
  unfold ed
  split
  · exact ⟨show i64 (0 : Int) from ⟨by decide, by decide⟩, rT _ _ (fun c h => by cases h) h.2⟩
  · exact ⟨(mr h.1).1, fun c h => by cases h⟩
theorem yF {l : List Ar} (h : ∀ a ∈ l, AL a) : ∀ a ∈ oX l, AL a := fun a ha => by
  obtain ⟨b, hb, rfl⟩ := List.mem_map.1 ha; exact wi (h b hb)
theorem oY (a : Ar) : br (ed a) = true ∧ (ed a).l.length ≤ a.l.length := by
  unfold ed
  split
  · rename_i h
    obtain ⟨h1, h2⟩ := jR a.x a.l; exact ⟨sT.2 ⟨h.2, h1.1, h1.2⟩, h2⟩
  · refine ⟨?_, Nat.zero_le _⟩
    unfold br
    simp [mV]
theorem AN {a : Ar} (h : br a = true) (hi : AL a) : Small a.v ∧ ∀ c ∈ a.l, Small c.v := by
  obtain ⟨w, v, x, l⟩ := a
  cases w
  · unfold br at h
    simp at h
    refine ⟨rR h.1.1 hi.1, fun c hc => ?_⟩; have := h.2
    simp only at hc
    rw [this] at hc
    cases hc
  · unfold br at h
    simp only [if_true, Bool.and_eq_true, decide_eq_true_eq] at h
    obtain ⟨⟨⟨h1, h2, h3⟩, _⟩, h4⟩ := h; exact ⟨⟨hi.1, by simp only; rw [h3]; simp⟩, fun c hc => rR ((dx.1 h4).1 c hc).2.2 (hi.2 c hc)⟩
theorem yG {l : List Ar} : ∀ a ∈ oX l, br a = true := fun a h => by
  obtain ⟨b, _, rfl⟩ := List.mem_map.1 h; exact (oY b).1
theorem wj (l : List Ar) : (oX l).length = l.length := List.length_map ..
theorem qu {l : List Ar} {n : Nat} (h : ∀ a ∈ l, a.l.length ≤ n) : ∀ a ∈ oX l, a.l.length ≤ n := fun a ha => by
  obtain ⟨b, hb, rfl⟩ := List.mem_map.1 ha; exact Nat.le_trans (oY b).2 (h b hb)
theorem yH (a : Ar) : (rq a).length ≤ a.l.length + 1 := by
  unfold rq
  split
  · refine Nat.le_trans (List.length_filter_le _ _) ?_
    rw [List.length_map]
    omega
  · simp
theorem lf {n : Nat} : ∀ {l : List Ar}, (∀ a ∈ l, a.l.length ≤ n) → (aF l).length ≤ l.length * (n + 1)
  | [], _ => by simp [aF]
  | a :: l, h => by
    have h1 := yH a; have h2 := h a List.mem_cons_self; have h3 := lf (l := l) (fun b hb => h b (List.mem_cons_of_mem _ hb)); unfold aF at h3 ⊢; rw [List.map_cons, List.flatten_cons, List.length_append, List.length_cons, Nat.succ_mul]
    omega
end Lv
