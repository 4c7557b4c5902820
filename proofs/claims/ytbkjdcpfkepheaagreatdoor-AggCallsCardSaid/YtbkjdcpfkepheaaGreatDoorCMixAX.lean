/- Small texts together: GFew16, GFew16b, GFew, MFlogic, GLogic2, GLogic3, GLogic5, GLogic6, GGood, MMeans, MAgg4, MNumLaw, MNumLaw2, MAgg5, MAgg6, MAgg7, MAgg8, GGood16. -/
import Derived.Test.YtbkjdcpfkepheaaGreatDoorCGRow16
import Derived.Test.YtbkjdcpfkepheaaGreatDoorCMixAP
import Derived.Test.YtbkjdcpfkepheaaGreatDoorCMixAM
import Derived.Test.YtbkjdcpfkepheaaGreatDoorCMixAV
import Derived.Test.YtbkjdcpfkepheaaGreatDoorCMixAT
set_option linter.unusedVariables false
set_option linter.unusedSimpArgs false
set_option maxHeartbeats 4000000
set_option maxRecDepth 100000
namespace Go.Proofs.YtbkjdcpfkepheaaGreatDoor
section
open Go.RowKit Lv
set_option maxRecDepth 100000
theorem gR : En 60 := by intro args w; go_simp
theorem gt : En 93 := by intro args w; go_simp
theorem pa (w : World) :
    Calls Tryz.prog 93 #[.slice none 0 0] w fun e w' => ∃ v, e = .returned v ∧ er w.heap.size [] v w' ∧ Kept w w' := by
  go_enter Tryz.func93, Tryz.ntmps93; refine z00 5 [(0, .slice none 0 0)] ?_; intro _ s; refine zr s 1 (zP Z0) ?_; intro _ fw s; refine zt_ s 1 (zP Z0) ?_; intro _ fw s K1 hK1; refine zW s (v := (.slice none 0 0)) (wE rfl Tryz.underlying35 (uH _ 5 _ 48 (by kernel_rfl) rfl) rfl (s.g 3) (World.ownsRow_nil _ 0 _ 5)) ?_; intro _ fw s; refine zw s ?_; intro _ fw s; refine wt hK1 ?_; refine wp_ret ?_; refine z1 s ?_; exact ⟨_, rfl, World.ownsRow_nil _ _ _ _, s.o.kept⟩
theorem mY (ad : Addr) (cap : Nat) (l : List Cl) (w : World) (hr : RowK 5 clV w (some ad) l) (hl : l.length ≤ 2932031007402) :
    Calls Tryz.prog 93 #[.slice (some ad) l.length cap] w fun e w' => ∃ v, e = .returned v ∧ er w.heap.size l v w' ∧ Kept w w' := by
  go_enter Tryz.func93, Tryz.ntmps93; refine z00 5 [(0, .slice (some ad) l.length cap)] ?_; intro _ s; refine zr s 1 (zP Z0) ?_; intro _ fw s; have ow := s.o.nil 46 5; have s := s.ow ow; refine zt_ s 1 (zP Z0) ?_; intro _ fw s K1 hK1; refine ku (aC rfl) rfl Tryz.underlying35 (k := 5) (by_ := 48) (uH _ _ _ _ (by kernel_rfl) rfl) (by decide) (news := (l.map clV).flatten) rfl (s.g 3) (s.o.row 0 rfl) (jB eC l) (zo eC (hr.kept s.o.kept)) zn (by omega) (by simp only [maxLen]; omega) s.o.kept.size (fun vr1 fw1 ho hg hb => ?_); have ow := s.o.turn 0 rfl (t' := Th.row w.heap.size 46 5 vr1 (0 + l.length) ([] ++ (l.map clV).flatten)) ho hg (dP hb); clear ho hg hb; refine zg (s.ow ow) ?_; intro _ fw s; refine zw s ?_; intro _ fw s; refine wt hK1 ?_; refine wp_ret ?_; refine z1 s ?_; have ho := s.o.row 0 rfl; rw [Nat.zero_add, List.nil_append] at ho; exact ⟨_, rfl, ho, s.o.kept⟩
theorem pd (A : Option Addr) (cap : Nat) (l : List Cl) (w : World) (hr : RowK 5 clV w A l) (hl : l.length ≤ 2932031007402) (hn : A = none → cap = 0) :
    Calls Tryz.prog 93 #[.slice A l.length cap] w fun e w' => ∃ v, e = .returned v ∧ er w.heap.size l v w' ∧ Kept w w' := by
  cases A with
  | some ad => exact mY ad cap l w hr hl
  | none =>
    have h0 : l = [] := Classical.byContradiction fun c => by obtain ⟨b, off, e, _⟩ := hr.addr c; cases e
    subst h0; rw [hn rfl]; exact pa w
theorem qQ (b : Nat) (x : Rc) (A : Option Addr) (cap : Nat) (l : List Cl) (w : World) (hr : RowK 5 clV w A l) (hl : l.length ≤ 2932031007402) (hn : A = none → cap = 0) (hb : b ≤ w.heap.size) :
    Calls Tryz.prog 60 #[.agg #[.int .i64 x.c1, .int .i64 x.r1, .int .i64 x.c2, .int .i64 x.r2, .slice A l.length cap]] w fun e w' => ∃ v, e = .returned v ∧ mu b x l v w' ∧ Kept w w' := by
  go_enter Tryz.func60, Tryz.ntmps60; refine z00 8 [(0, .agg #[.int .i64 x.c1, .int .i64 x.r1, .int .i64 x.c2, .int .i64 x.r2, .slice A l.length cap])] ?_; intro _ s; refine zr s 2 (zV (zB Z0 (.cells #[.int .i64 x.c1, .int .i64 x.r1, .int .i64 x.c2, .int .i64 x.r2, .slice A l.length cap] 37 (0, 0))) (.cells #[.int .i64 0, .int .i64 0, .int .i64 0, .int .i64 0, .slice none 0 0] 37 (0, 0))) ?_; intro gb1 gb2 _ fw s; refine zt_ s 2 (zL (zF Z0 4) 1) ?_; intro _ fw s K1 hK1; refine aU (aC rfl) (bZ (u := .slice A l.length cap) rfl (s.g 4) (gt _ _)) ((pd A cap l _ (hr.kept s.o.kept) hl hn).mono ?_); rintro _ fw ⟨vc, rfl, oc, hk⟩; refine ⟨_, rfl, ?_⟩; rcases (rfl : (0 : Nat) = 0) with _
  have ow := zt s.o hk oc (Nat.le_refl _); refine zg (s.ow ow) ?_; intro _ fw s; refine zW s (v := .pointer (some ⟨gb1, 4, none⟩)) (aE rfl (s.g 1) (by kernel_rfl)) ?_; intro _ fw s; refine lV (aC rfl) rfl (su (off := 4) rfl (s.g 6) (s.g 5) (by kernel_rfl) (s.o.box 2 rfl) (mv oc) (Nat.le_of_ble_eq_true rfl)) ?_; have ow : Own w [Th.row 0 46 5 vc l.length (l.map clV).flatten, Th.obj gb2 (.cells #[.int .i64 0, .int .i64 0, .int .i64 0, .int .i64 0, .slice none 0 0] 37 (0, 0)), Th.obj gb1 (.cells #[.int .i64 x.c1, .int .i64 x.r1, .int .i64 x.c2, .int .i64 x.r2, vc] 37 (0, 0))] _ := s.o.put 2 rfl 4 [vc]; have s := s.ow ow; refine wt hK1 ?_; refine zt_ s 1 (zA Z0 (.agg #[.int .i64 x.c1, .int .i64 x.r1, .int .i64 x.c2, .int .i64 x.r2, vc]) 5 2) ?_; intro _ fw s K2 hK2; refine zS1 s 1 (.agg #[.int .i64 x.c1, .int .i64 x.r1, .int .i64 x.c2, .int .i64 x.r2, vc]) (fW (rfl) (fW (rfl) (fW (rfl) (fW (rfl) (fW (mv oc) rfl))))) ?_; intro fw s; refine wt hK2 ?_; refine wp_ret ?_; refine ac (v := .agg #[.int .i64 x.c1, .int .i64 x.r1, .int .i64 x.c2, .int .i64 x.r2, vc]) rfl (.cons (rC s 5 1) .nil) rfl s.q ?_; obtain ⟨SA, SC, rfl⟩ := mX oc; exact ⟨_, rfl, ⟨SA, SC, rfl, zp (s.o.rowNew 0 rfl) hb⟩, s.o.kept⟩
theorem qR (A : Option Addr) (cap : Nat) (l : List Ar) (w : World) (hr : ArgsIn w A l) (hl : l.length ≤ 900000) (hla : ∀ a ∈ l, a.l.length ≤ 2932031007402) :
    Calls Tryz.prog 29 #[.slice A l.length cap] w fun e w' => OwnArgs w l e w' := by
  go_enter Tryz.func29, Tryz.ntmps29; refine z00 32 [(0, .slice A l.length cap)] ?_; intro _ s; refine zr s 1 (zP Z0) ?_; intro _ fw s; refine zr s 1 (zP Z0) ?_; intro _ fw s; refine sq fun hK1 => ?_; refine zr s 1 (zP Z0) ?_; intro _ fw s; refine wp_block ?_; refine aP (fun (k : Nat) fr u => ∃ (v : Value), ∃ (L : List (Ar × Value)), (k ≤ l.length) ∧ (L.map Prod.fst = l.take k) ∧ Sg 32 w ((dW v L) :: (L.map cf)) [(0, .slice A l.length cap), (2, .slice none 0 0), (3, v), (4, .int .i64 (k : Int))] fr u) (fun k => l.length - k) 0 ⟨(.slice none 0 0), [], (Nat.zero_le _), (by simp), (s.ow (kU s.o)).c⟩ (fun k b_ u_ hI => ?_)
  revert b_ u_; intro fa fw hI
  obtain ⟨v, L, hk0, hL, s⟩ := hI; refine sq fun hK2 => ?_; refine zr s 4 (zP (zN (zP (zP Z0)))) ?_; intro _ fw s; refine zi_ s ?_ ?_
  ·intro hc1
   refine wp_skip ?_; refine tn hK2 ?_; refine sq fun hK3 => ?_; refine wp_block ?_; have hltk : k < l.length := by omega
   obtain ⟨a, ha⟩ := bI hltk; obtain ⟨ba, oa, A1, c1, Aa, ea, r1, l1, n1⟩ := hr.elem ha; have hal := hla a (List.mem_of_getElem? ha); obtain ⟨bz, hbz⟩ : ∃ b, b = fw.heap.size := ⟨_, rfl⟩
   refine rgn [yV _, yV _, yV _, yV _, yV (.pointer (some ⟨ba, oa + k * 9, none⟩)), yV _, yV _, yV _, yV _, yV (.pointer (some ⟨ba, oa + k * 9 + 1, none⟩)), yV (ae a.v), yV _, yV _, yV _, yV (.pointer (some ⟨ba, oa + k * 9 + 4, none⟩)), yV (.agg #[.int .i64 a.x.c1, .int .i64 a.x.r1, .int .i64 a.x.c2, .int .i64 a.x.r2, .slice A1 a.l.length c1]), yP (mu bz a.x a.l) (oX _ _ _), yP (Cd bz a) (sT _ _), yP (uI bz a) (qN _ _)] 19 32 s.z (by kernel_rfl) (by kernel_rfl) (
     aS (fun hk bs hd => fs rfl (bs.get 3 rfl (s.g 3))) rfl <|
     aS (fun hk bs hd => fs rfl (bs.get 0 rfl (s.g 0))) rfl <|
     aS (fun hk bs hd => fs rfl (bs.get 4 rfl (s.g 4))) rfl <|
     ua (rpl 9 Tryz.underlying22 Aa (zd 1) (zd 2) hltk) rfl <|
     ua (rfa (zd 3)) rfl <|
     aS (fun hk bs hd => dS 0 rfl (by kernel_rfl) (dp hd 4 rfl) rfl (ea.kept (s.o.keep hk).kept) rfl) rfl <|
     aS (fun hk bs hd => fs rfl (bs.get 0 rfl (s.g 0))) rfl <|
     aS (fun hk bs hd => fs rfl (bs.get 4 rfl (s.g 4))) rfl <|
     ua (rpl 9 Tryz.underlying22 Aa (zd 6) (zd 7) hltk) rfl <|
     ua (rfa (zd 8)) rfl <|
     aS (fun hk bs hd => bf (n := 3) 1 rfl (by kernel_rfl) (by kernel_rfl) (dp hd 9 rfl) rfl (ea.kept (s.o.keep hk).kept)) rfl <|
     aS (fun hk bs hd => fs rfl (bs.get 0 rfl (s.g 0))) rfl <|
     aS (fun hk bs hd => fs rfl (bs.get 4 rfl (s.g 4))) rfl <|
     ua (rpl 9 Tryz.underlying22 Aa (zd 11) (zd 12) hltk) rfl <|
     ua (rfa (zd 13)) rfl <|
     aS (fun hk bs hd => bf (n := 5) 4 rfl (by kernel_rfl) (by kernel_rfl) (dp hd 14 rfl) rfl (ea.kept (s.o.keep hk).kept)) rfl <|
     arm (fun aa ww hk bs hd => by
       have d15 := dp hd 15 rfl; exact eh (aC rfl) (bZ (u := .agg #[.int .i64 a.x.c1, .int .i64 a.x.r1, .int .i64 a.x.c2, .int .i64 a.x.r2, .slice A1 a.l.length c1]) rfl (d15) (gR _ _)) ((qQ bz a.x A1 c1 a.l ww (r1.kept (s.o.keep hk).kept) hal n1 (hbz ▸ hk.size)).mono fun _ _ ⟨_, he, hq, hk2⟩ => ⟨_, he, hq, hk2⟩) rfl
       ) <|
     arm (fun aa ww hk bs hd => by
       have d5 := dp hd 5 rfl; have d10 := dp hd 10 rfl; obtain ⟨SA, SC, e16, hsv⟩ := (show mu bz a.x a.l (aa.eval (.tmp 27)) ww from vK hd 16 rfl); exact iG (aC rfl) (xb3 rfl (d5) (d10) e16 (by kernel_rfl)) (⟨SA, SC, rfl, hsv⟩) (Kept.refl _) rfl
       ) <|
     arm (fun aa ww hk bs hd => by
       obtain ⟨SA, SC, e17, hsv⟩ := (show Cd bz a (aa.eval (.tmp 28)) ww from vK hd 17 rfl); exact iG (aC rfl) (eR (us := #[(0, aA a (.slice SA a.l.length SC))]) (b := .cells #[.bool a.w, .int .u8 a.v.k, .int .i64 a.v.n, .string ⟨a.v.t.toArray⟩, .int .i64 a.x.c1, .int .i64 a.x.r1, .int .i64 a.x.c2, .int .i64 a.x.r2, .slice SA a.l.length SC] 39 (0, 0)) rfl (by simp only [List.map_toArray, List.map_cons, List.map_nil, e17]) (by kernel_rfl)) (⟨ww.heap.size, SA, SC, rfl, hbz ▸ hk.size, Go.heap_alloc_new _ _, lC hsv ((Kept.refl _).alloc _)⟩) ((Kept.refl _).alloc _) rfl
       ) <|
     Iq) fun fa fw hk bs hv ap => ?_
   obtain ⟨z, q, ov⟩ := aft hk bs s.z s.q s.o; have s0 := bs.get 0 rfl (s.g 0); have s2 := bs.get 2 rfl (s.g 2); have s3 := bs.get 3 rfl (s.g 3); have s4 := bs.get 4 rfl (s.g 4); have s11 := zh hv 0; obtain ⟨gs, SA, SC, s29, hgs, hgb, hsv⟩ := (show uI bz a (fa.eval (.tmp 29)) fw from IW hv 18 rfl rfl rfl); have ov := wF s.o ov hbz hsv; have ow := ov; have s := ((((((ix z q ow).i (t := 0) (v := .slice A l.length cap) s0).i (t := 2) (v := .slice none 0 0) s2).i (t := 3) (v := v) s3).i (t := 4) (v := .int .i64 (k : Int)) s4).i (t := 11) (v := v) s11).i (t := 29) (v := .slice (some ⟨gs, 0, none⟩) 1 1) s29; refine gP (aC rfl) rfl (y := a) (sy := (.slice SA a.l.length SC)) (s.g 11) (s.g 29) (s.o.thing 1 rfl) hgb rfl (by have := congrArg List.length hL; rw [List.length_map, List.length_take] at this; omega) (fun vr1 fw1 ho hg hb => ?_); have ow := s.o.turn 1 rfl (t' := dW vr1 (L ++ [(a, (.slice SA a.l.length SC))])) ho hg (dP hb); clear ho hg hb; refine zg (s.ow ow) ?_; intro _ fw s; refine zw s ?_; intro _ fw s; refine aN ?_; refine aB ?_; refine tn hK3 ?_; refine zu s 2 (by exact zAn (zP Z0) k 1) ?_; intro _ fw s; refine zw s ?_; intro _ fw s; refine aN ?_; exact bg ⟨(k + 1), ⟨vr1, (L ++ [(a, (.slice SA a.l.length SC))]), hltk, (by rw [List.map_append, hL, fu ha]; rfl), (s.ow (oY (s := (.slice SA a.l.length SC)) (y := a) s.o)).c⟩, (show l.length - (k + 1) < l.length - k by omega)⟩
  intro hc1; refine wp_exit ?_; refine aM ?_; refine aM ?_; refine aD ?_; refine tn hK1 ?_; refine zr s 2 (zP (zP Z0)) ?_; intro _ fw s; refine wp_ret ?_; refine z1 s ?_; exact ⟨v, L, rfl, by rw [hL, List.take_of_length_le (by omega)], s.o⟩
end

section
open Go.RowKit Lv
set_option maxRecDepth 100000
theorem Ch {a : Act} {w : World} {o : Oper} {T : TypeId} (hT : T = 3) {x y : Operand} {ts : Array TypeId} (ho : o.op = .call { callee := .builtin .min, args := #[x, y], argTypes := ts }) (ht : o.type = T) {n m r : Nat} (hx : a.eval x = .int .i64 n) (hy : a.eval y = .int .i64 m) (hr : min n m = r) : (execOp a.eval o).run Tryz.prog w = .ok (.value (.int .i64 r)) w := by
  subst hr; exact Ip hT ho ht hx hy
theorem EV {w : World} {b n n' c k : Nat} {e : TypeId} {A : Option Addr} {xs : List Value} (h : w.ownsRow b e k (.slice A n c) n' xs) : n ≤ c := by
  rcases h.2 with ⟨e1, c0⟩ | ⟨g, cap, cur, hv, hg, hh, h4, r⟩
  · cases e1; exact Nat.le_refl _
  · cases hv; exact h4
theorem GP {w0 w : World} {T : List Th} {A : Option Addr} {j c : Nat} {l : List Cl} (h : Own w0 (dc (.slice A j c) l :: T) w) : Own w0 (dc (.slice (fz A c) j c) l :: T) w := by
  rcases (h.row 0 rfl).2 with ⟨e1, c0⟩ | ⟨g, cap, cur, hv, r⟩
  · cases e1
    exact h
  · cases hv
    rw [ss]; exact h
theorem Ci {w0 w : World} {T : List Th} {v : Value} {c : List Cl} {i : Nat} {y : Cl} (h : Own w0 (dc v (((c.take i).map gq ++ c.drop i).set i (gq y)) :: T) w) (hy : c[i]? = some y) : Own w0 (dc v ((c.take (i + 1)).map gq ++ c.drop (i + 1)) :: T) w := by
  rw [(jF (β := Unit) (f := gq) hy).2] at h; exact h
theorem Cj {w0 w : World} {B SA : Option Addr} {n cb j SC k : Nat} {L : List (Ar × Value)} {a : Ar} {s1 : Value} {c : List Cl} (h : Own w0 (dc (.slice SA j SC) (c.map gq) :: dW (.slice B n cb) ((L.set k (Jt a, s1)).set k (gQ a, .slice SA j SC)) :: (L.map cf).eraseIdx k) w) (hcm : c.map gq = (gQ a).l) (hk : k < L.length) : Own w0 (dW (.slice B n cb) (L.set k (gQ a, .slice SA j SC)) :: (L.set k (gQ a, .slice SA j SC)).map cf) w := by
  rw [List.set_set, hcm] at h; exact Cf (p := (gQ a, .slice SA j SC)) h hk
theorem gS : En 29 := by intro args w; go_simp
theorem zz (A : Option Addr) (cap : Nat) (l : List Ar) (w : World) (hr : ArgsIn w A l) (hc : l.length ≤ cap) (hw : ∀ a ∈ l, a.l.length ≤ 2932031007402) :
    Calls Tryz.prog 10 #[.slice A l.length cap] w fun e w' => OwnArgs w (jE l) e w' := by
  obtain ⟨m, hmdef⟩ : ∃ m, m = l.take 20 := ⟨_, rfl⟩; have hm : ArgsIn w A m := by rw [hmdef]; exact hr.take 20
  have hmn : m.length = min l.length 20 := by rw [hmdef, List.length_take, Nat.min_comm]
  have hml : m.length ≤ 900000 := by omega
  have hma : ∀ a ∈ m, a.l.length ≤ 2932031007402 := fun a h => hw a (by rw [hmdef] at h; exact List.mem_of_mem_take h); have hncap : m.length ≤ cap := by omega
  go_enter Tryz.func10, Tryz.ntmps10; refine z00 87 [(0, .slice A l.length cap)] ?_; intro _ s; refine zr s 1 (zP Z0) ?_; intro _ fw s; refine zt_ s 5 (zO (zO (zN (zP (zP Z0))) fun cc => Ch rfl rfl rfl (n := (l.length)) (m := 20) cc.e rfl hmn.symm) fun cc => by exact qO (s := 9) Tryz.underlying22 (by kernel_rfl) rfl cc.e cc.e hncap) ?_; intro _ fw s K1 hK1; refine aU (aC rfl) (bZ (u := .slice (fz A cap) m.length cap) rfl (s.g 11) (gS _ _)) ((qR (fz A cap) cap m _ ((hm.kept s.o.kept).fz cap) hml hma).mono ?_); rintro _ fw ⟨vc, L0, rfl, hL0, oc⟩; refine ⟨_, rfl, ?_⟩; rcases (rfl : (0 : Nat) = 0) with _
  have ow := qP s.o oc; obtain ⟨B, cb, rfl⟩ : ∃ B c, vc = .slice B m.length c := by obtain ⟨B, c, e⟩ := bV (ow.row 0 rfl); exact ⟨B, c, by rw [e, show L0.length = m.length by rw [← hL0, List.length_map]]⟩
  refine zg (s.ow ow) ?_; intro _ fw s; refine zw s ?_; intro _ fw s; refine wt hK1 ?_; refine sq fun hK2 => ?_; refine zr s 1 (zP Z0) ?_; intro _ fw s; refine wp_block ?_; refine aP (fun (k : Nat) fr u => ∃ (L : List (Ar × Value)), (k ≤ m.length) ∧ (L.map Prod.fst = (m.take k).map gQ ++ m.drop k) ∧ Sg 87 w ((dW (.slice B m.length cb) L) :: (L.map cf)) [(2, .slice none 0 0), (3, .slice B m.length cb), (4, .int .i64 (k : Int))] fr u) (fun k => m.length - k) 0 ⟨L0, (Nat.zero_le _), (by simpa using hL0), s.c⟩ (fun k b_ u_ hI => ?_)
  revert b_ u_; intro fa fw hI
  obtain ⟨L, hk0, hL, s⟩ := hI; refine sq fun hK3 => ?_; refine zr s 4 (zP (zN (zP (zP Z0)))) ?_; intro _ fw s; refine zi_ s ?_ ?_
  ·intro hc1
   refine wp_skip ?_; refine tn hK3 ?_; refine sq fun hK4 => ?_; refine wp_block ?_; have hltk : k < m.length := by omega
   obtain ⟨a, ha⟩ := bI hltk; obtain ⟨sa, hLk⟩ := GO hL ha; obtain ⟨SA, SC, rfl⟩ : ∃ A c, sa = .slice A a.l.length c := bV (s.o.has _ (List.mem_cons_of_mem _ (List.mem_map_of_mem (List.mem_of_getElem? hLk)))); have hkL := (List.getElem?_eq_some_iff.1 hLk).1; obtain ⟨g, hB, hmlen, hcb⟩ := uK (s.o.row 0 rfl) (by omega); have ea := lD gd hB (s.o.row 0 rfl) hLk; refine zt_ s 17 (zO (zO (zO (zO (zF (zF (zO (zP (zP (zO (zF (zF (zO (zP (zP (zP (zP Z0)))) fun cc => al 9 Tryz.underlying22 (by kernel_rfl) rfl hB cc.e cc.e hltk) (0 + k * 9 + 1)) (0 + k * 9 + 1 + 2)) fun cc => dS 3 rfl (by kernel_rfl) cc.e rfl (ea.kept cc.k) rfl))) fun cc => al 9 Tryz.underlying22 (by kernel_rfl) rfl hB cc.e cc.e hltk) (0 + k * 9 + 1)) (0 + k * 9 + 1 + 2)) fun cc => dS 3 rfl (by kernel_rfl) cc.e rfl (ea.kept cc.k) rfl) fun cc => Gm Tryz.underlying9 rfl cc.e) fun cc => Ch rfl rfl rfl (n := (a.v.t.length)) (m := 300) cc.e rfl rfl) fun cc => by exact Dp (u := .string ⟨a.v.t.toArray⟩) (l := none) (h := some (.int .i64 ((min a.v.t.length 300) : Nat))) (m := none) rfl cc.e rfl (congrArg some (cc.e.trans (congrArg (Value.int .i64) rfl))) rfl (lY Tryz.underlying9 a.v.t (min a.v.t.length 300) (Nat.min_le_left _ _))) ?_; intro _ fw s K5 hK5; refine zW s (v := .pointer (some ⟨g, 0 + k * 9, none⟩)) (al 9 Tryz.underlying22 (by kernel_rfl) rfl hB (s.g 19) (s.g 20) hltk) ?_; intro _ fw s; refine zW s (v := .pointer (some ⟨g, 0 + k * 9 + 1, none⟩)) (aE rfl (s.g 36) (by kernel_rfl)) ?_
   intro _ fw s; refine zW s (v := .pointer (some ⟨g, 0 + k * 9 + 1 + 2, none⟩)) (aE rfl (s.g 37) (by kernel_rfl)) ?_; intro _ fw s; refine wG s.o (aC rfl) rfl rfl (s.g 38) (by omega) (s.g 35) hB hLk (fun fw1 ofw1 => ?_); have ow : Own w ((dW (.slice B m.length cb) (L.set k (Jt a, .slice SA a.l.length SC))) :: (L.map cf)) _ := ofw1; have s := s.ow ow; refine wt hK5 ?_; have eb := lD gd hB (s.o.row 0 rfl) (DJ (y := (Jt a, .slice SA a.l.length SC)) hLk); obtain ⟨j, hj⟩ : ∃ j, j = min a.l.length 60 := ⟨_, rfl⟩; have hjc : j ≤ SC := by obtain h := EV (s.o.has _ (List.mem_cons_of_mem _ (List.mem_map_of_mem (List.mem_of_getElem? hLk)))); omega
   refine zt_ s 15 (zO (zO (zN (zO (zF (zF (zO (zP (zP (zO (zF (zF (zO (zP (zP Z0)) fun cc => al 9 Tryz.underlying22 (by kernel_rfl) rfl hB cc.e cc.e hltk) (0 + k * 9 + 4)) (0 + k * 9 + 4 + 4)) fun cc => dS 8 rfl (by kernel_rfl) cc.e rfl (eb.kept cc.k) rfl))) fun cc => al 9 Tryz.underlying22 (by kernel_rfl) rfl hB cc.e cc.e hltk) (0 + k * 9 + 4)) (0 + k * 9 + 4 + 4)) fun cc => dS 8 rfl (by kernel_rfl) cc.e rfl (eb.kept cc.k) rfl)) fun cc => Ch rfl rfl rfl (n := (a.l.length)) (m := 60) cc.e rfl hj.symm) fun cc => by exact qO (s := 5) Tryz.underlying35 (by kernel_rfl) rfl cc.e cc.e hjc) ?_; intro _ fw s K6 hK6; refine zw s ?_; intro _ fw s; refine wt hK6 ?_; refine sq fun hK7 => ?_; obtain ⟨c, hcdef⟩ : ∃ c, c = a.l.take 60 := ⟨_, rfl⟩; have hcl : c.length = j := by rw [hcdef, List.length_take]; omega
   have ow := GP (EU (Ce s.o hLk) hj); rw [← hcdef] at ow; have s := s.ow ow; refine zr s 1 (zP Z0) ?_; intro _ fw s; refine wp_block ?_; refine aP (fun (i : Nat) fr u => (i ≤ j) ∧ Sg 87 w ((dc (.slice (fz SA SC) j SC) ((c.take i).map gq ++ c.drop i)) :: (dW (.slice B m.length cb) (L.set k (Jt a, .slice SA a.l.length SC))) :: ((L.map cf).eraseIdx k)) [(2, .slice none 0 0), (3, .slice B m.length cb), (4, .int .i64 (k : Int)), (5, .slice (fz SA SC) j SC), (6, .int .i64 (i : Int))] fr u) (fun i => j - i) 0 ⟨(Nat.zero_le _), s.c⟩ (fun i b_ u_ hI => ?_)
   revert b_ u_; intro fa fw hI
   obtain ⟨hi0, s⟩ := hI; refine sq fun hK8 => ?_; refine zr s 4 (zP (zN (zP (zP Z0)))) ?_; intro _ fw s; refine zi_ s ?_ ?_
   ·intro hc2
    refine wp_skip ?_; refine tn hK8 ?_; refine sq fun hK9 => ?_; refine wp_block ?_; have hlti : i < j := by omega
    obtain ⟨y, hy⟩ := bI (l := c) (i := i) (by omega); have hci := (jF (β := Unit) (f := gq) hy).1; obtain ⟨gc, hC, _, hcc⟩ := uK (s.o.row 0 rfl) (Nat.lt_of_le_of_lt (Nat.zero_le _) (List.getElem?_eq_some_iff.1 hci).1); have ec := lD eC hC (s.o.row 0 rfl) hci; refine zu s 17 (by exact zO (zO (zO (zO (zF (zF (zO (zP (zP (zO (zF (zF (zO (zP (zP (zP (zP Z0)))) fun cc => al 5 Tryz.underlying35 (by kernel_rfl) rfl hC cc.e cc.e hlti) (0 + i * 5 + 2)) (0 + i * 5 + 2 + 2)) fun cc => dS 4 rfl (by kernel_rfl) cc.e rfl (ec.kept cc.k) rfl))) fun cc => al 5 Tryz.underlying35 (by kernel_rfl) rfl hC cc.e cc.e hlti) (0 + i * 5 + 2)) (0 + i * 5 + 2 + 2)) fun cc => dS 4 rfl (by kernel_rfl) cc.e rfl (ec.kept cc.k) rfl) fun cc => Gm Tryz.underlying9 rfl cc.e) fun cc => Ch rfl rfl rfl (n := (y.v.t.length)) (m := 300) cc.e rfl rfl) fun cc => by exact Dp (u := .string ⟨y.v.t.toArray⟩) (l := none) (h := some (.int .i64 ((min y.v.t.length 300) : Nat))) (m := none) rfl cc.e rfl (congrArg some (cc.e.trans (congrArg (Value.int .i64) rfl))) rfl (lY Tryz.underlying9 y.v.t (min y.v.t.length 300) (Nat.min_le_left _ _))) ?_; intro _ fw s; refine zW s (v := .pointer (some ⟨gc, 0 + i * 5, none⟩)) (al 5 Tryz.underlying35 (by kernel_rfl) rfl hC (s.g 60) (s.g 61) hlti) ?_; intro _ fw s; refine zW s (v := .pointer (some ⟨gc, 0 + i * 5 + 2, none⟩)) (aE rfl (s.g 77) (by kernel_rfl)) ?_; intro _ fw s; refine zW s (v := .pointer (some ⟨gc, 0 + i * 5 + 2 + 2, none⟩)) (aE rfl (s.g 78) (by kernel_rfl)) ?_
    intro _ fw s; refine sV s.o (aC rfl) rfl rfl (s.g 79) (by omega) (s.g 76) hC hci (fun fw2 ofw2 => ?_); have ow : Own w ((dc (.slice (fz SA SC) j SC) (((c.take i).map gq ++ c.drop i).set i (gq y))) :: (dW (.slice B m.length cb) (L.set k (Jt a, .slice SA a.l.length SC))) :: ((L.map cf).eraseIdx k)) _ := ofw2; have s := s.ow ow; refine aN ?_; refine aB ?_; refine tn hK9 ?_; refine zu s 2 (by exact zAn (zP Z0) i 1) ?_; intro _ fw s; refine zw s ?_; intro _ fw s; refine aN ?_; exact bg ⟨(i + 1), ⟨hlti, (s.ow (Ci s.o hy)).c⟩, (show j - (i + 1) < j - i by omega)⟩
   intro hc2; refine wp_exit ?_; refine aM ?_; refine aM ?_; refine aD ?_; refine tn hK7 ?_; have ow := s.o; rw [zv (f := gq) (by omega)] at ow; have hcm : c.map gq = (gQ a).l := by rw [hcdef]; rfl
   have s := s.ow ow; refine zu s 6 (by exact zF (zF (zO (zP (zP (zP Z0))) fun cc => al 9 Tryz.underlying22 (by kernel_rfl) rfl hB cc.e cc.e hltk) (0 + k * 9 + 4)) (0 + k * 9 + 4 + 4)) ?_; intro _ fw s; refine sU s.o (aC rfl) rfl rfl (s.g 85) (by omega) (s.g 82) rfl hB (DJ hLk) (z := gQ a) rfl (fun fw3 ofw3 => ?_); have ow : Own w ((dc (.slice (fz SA SC) j SC) (c.map gq)) :: (dW (.slice B m.length cb) ((L.set k (Jt a, .slice SA a.l.length SC)).set k (gQ a, .slice (fz SA SC) j SC))) :: ((L.map cf).eraseIdx k)) _ := ofw3; have s := s.ow ow; refine aN ?_; refine aB ?_; refine tn hK4 ?_; refine zu s 2 (by exact zAn (zP Z0) k 1) ?_; intro _ fw s; refine zw s ?_; intro _ fw s; refine aN ?_; exact bg ⟨(k + 1), ⟨(L.set k (gQ a, .slice (fz SA SC) j SC)), hltk, (Cg hL ha), (s.ow (Cj s.o hcm hkL)).c⟩, (show m.length - (k + 1) < m.length - k by omega)⟩
  intro hc1; refine wp_exit ?_; refine aM ?_; refine aM ?_; refine aD ?_; refine tn hK2 ?_; refine zr s 2 (zP (zP Z0)) ?_; intro _ fw s; refine wp_ret ?_; refine z1 s ?_; exact ⟨_, L, rfl, by rw [hL, zv (by omega), hmdef]; rfl, s.o⟩
end

section
open Go.RowKit Lv
theorem OwnV.at_ {w : World} {base n cap : Nat} {A : Option Addr} {l : List Vl} (h : OwnV w base (.slice A n cap) l) {i : Nat} (hi : i < l.length) :
    ∃ g, A = some ⟨g, 0, none⟩ ∧ base ≤ g ∧ g < w.heap.size ∧ n = l.length ∧ n ≤ cap ∧ w.cell? ⟨g, i * 3, none⟩ = some (.int .u8 (l.getD i aj).k) ∧ w.cell? ⟨g, i * 3 + 1, none⟩ = some (.int .i64 (l.getD i aj).n) ∧ w.cell? ⟨g, i * 3 + 2, none⟩ = some (.string ⟨(l.getD i aj).t.toArray⟩) ∧ ∀ o, w.frozen? ⟨g, o, none⟩ = false := by
  rcases h.2 with ⟨_, h0⟩ | ⟨g, cap', cur, e, hg, hh, h4, h5, h6, h7⟩
  · omega
  · cases e
    have hr := RowV.box (t := 25) (cs := cur) hh h7 i hi; obtain ⟨b, off, e, _, c0, c1, c2⟩ := hr
    cases e
    rw [Nat.zero_add] at c0 c1 c2; exact ⟨g, rfl, hg, (Array.getElem?_eq_some_iff.1 hh).1, rfl, h4, c0, c1, c2, fun o => Box.loose (t := 25) (cs := cur) hh o⟩
theorem OwnV.form {w : World} {base : Nat} {v : Value} {l : List Vl} (h : OwnV w base v l) : ∃ A cap, v = .slice A l.length cap := by
  obtain ⟨A, cap, e, _⟩ := h.row; exact ⟨A, cap, e⟩
end

namespace Lv
open Go
end Lv

section
open Go.RowKit Lv
theorem Box.three {w : World} {p : Nat} {a : Vl} (h : Box w p 25 (cn a)) : p < w.heap.size ∧ w.cell? ⟨p, 0, none⟩ = some (.int .u8 a.k) ∧ w.cell? ⟨p, 1, none⟩ = some (.int .i64 a.n) ∧ w.cell? ⟨p, 2, none⟩ = some (.string ⟨a.t.toArray⟩) ∧ w.frozen? ⟨p, 0, none⟩ = false ∧ w.frozen? ⟨p, 1, none⟩ = false ∧ w.frozen? ⟨p, 2, none⟩ = false :=
  ⟨h.inside, h.cell 0, h.cell 1, h.cell 2, h.loose 0, h.loose 1, h.loose 2⟩
theorem Box.cells3 {w : World} {p : Nat} {T : TypeId} {a b c : Value} (h : Box w p T #[a, b, c]) : w.cell? ⟨p, 0, none⟩ = some a ∧ w.cell? ⟨p, 1, none⟩ = some b ∧ w.cell? ⟨p, 2, none⟩ = some c := ⟨h.cell 0, h.cell 1, h.cell 2⟩
end

section
open Go.RowKit Lv
theorem fI {P : Program} {f : Func} {R : Ending → World → Prop} {x : Exit} {a : Act} {W : World} (F : World → Prop) (hF : F W) (h : ∀ wf, F wf → bodyPost P f R x a wf) : bodyPost P f R x a W := h W hF
structure Tri (w : World) (p : Nat) (a b c : Vl) : Prop where
  A : Box w p 25 (cn a)
  B : Box w (p + 1) 25 (cn b)
  C : Box w (p + 1 + 1) 25 (cn c)
theorem Tri.kept {w w' : World} {p : Nat} {a b c : Vl} (h : Tri w p a b c) (k : Kept w w') : Tri w' p a b c := ⟨h.A.kept k, h.B.kept k, h.C.kept k⟩
theorem Tri.made (w : World) (a b c : Vl) : Tri (((w.alloc (.cells (cn a) 25)).alloc (.cells (cn b) 25)).alloc (.cells (cn c) 25)) w.heap.size a b c :=
  ⟨((Box.new w _ _).alloc _).alloc _, (Box.newAt (by simp) _ _).alloc _, Box.newAt (by simp) _ _⟩
theorem Tri.far {w : World} {p g : Nat} {a b c : Vl} (h : Tri w p a b c) (hg : p + 1 + 1 < g) (x y z : Value) : Tri (((w.setCell ⟨g, 0, none⟩ x).setCell ⟨g, 1, none⟩ y).setCell ⟨g, 2, none⟩ z) p a b c := ⟨Box.far3 h.A (by omega), Box.far3 h.B (by omega), Box.far3 h.C (by omega)⟩
theorem Tri.inside {w : World} {p : Nat} {a b c : Vl} (h : Tri w p a b c) : p + 1 + 1 < w.heap.size := h.C.inside
end

section
open Go.RowKit Lv
end

section
open Go.RowKit Lv
theorem RowV.head {w : World} {b off : Nat} {a : Vl} {r : List Vl} (h : RowV w (some ⟨b, off, none⟩) (a :: r)) : b < w.heap.size ∧ w.cell? ⟨b, off, none⟩ = some (.int .u8 a.k) ∧ w.cell? ⟨b, off + 1, none⟩ = some (.int .i64 a.n) ∧ w.cell? ⟨b, off + 2, none⟩ = some (.string ⟨a.t.toArray⟩) := by
  obtain ⟨b', off', e, hb, x0, x1, x2⟩ := h 0 (by simp)
  cases e
  simp only [Nat.zero_mul, Nat.add_zero, List.getD_cons_zero] at x0 x1 x2
  exact ⟨hb, x0, x1, x2⟩
theorem RowV.second {w : World} {b off : Nat} {a c : Vl} {r : List Vl} (h : RowV w (some ⟨b, off, none⟩) (a :: c :: r)) : w.cell? ⟨b, off + 3, none⟩ = some (.int .u8 c.k) ∧ w.cell? ⟨b, off + 3 + 1, none⟩ = some (.int .i64 c.n) ∧ w.cell? ⟨b, off + 3 + 2, none⟩ = some (.string ⟨c.t.toArray⟩) := by
  obtain ⟨b', off', e, hb, x0, x1, x2⟩ := h 1 (by simp)
  cases e
  exact ⟨x0, x1, x2⟩
end

section
open Go.RowKit Lv
theorem Ck (t : List UInt8) {j : Nat} (hj : min (t.length : Int) 300 = (j : Int)) : (ByteArray.mk t.toArray).extract 0 j = ⟨(t.take 300).toArray⟩ := by
  rw [am, List.drop_zero]
  congr 2
  by_cases c : t.length ≤ 300
  · rw [List.take_of_length_le (by omega), List.take_of_length_le (by omega)]
  · rw [show j = 300 by omega]
theorem qS (n : Int) : -5 < Int.tmod n 5 ∧ Int.tmod n 5 < 5 := by
  have h1 := Int.tmod_lt_of_pos n (b := 5) (by omega); have h2 := Int.tmod_lt_of_pos (-n) (b := 5) (by omega); rw [Int.neg_tmod] at h2
  omega
theorem uL (v : Vl) (w : World) (hw : oB v) : Calls Tryz.prog 18 #[ae v] w fun e w' => e = .returned (ae (ck v)) ∧ Kept w w' := by
  obtain ⟨k, n, t⟩ := v; obtain ⟨hk, ⟨n1, n2⟩, ht⟩ := hw
  simp only at hk n1 n2 ht
  have ml : maxLen ≤ 9223372036854775807 := by decide
  have tl : t.length ≤ 9223372036854775807 := Nat.le_trans ht ml; obtain ⟨j, hj⟩ : ∃ j : Nat, min (t.length : Int) 300 = (j : Int) := ⟨min t.length 300, by omega⟩; have jl : j ≤ t.length := by omega
  have hx := Ck t hj; have CK := Lib.hid (fun w => cZ ⟨k, n, t.take 300⟩ w ⟨n1, n2⟩ (by simp; omega)); have lu : (t.take 300).length ≤ 300 := by rw [List.length_take]; omega
  have Z := af; have B1 : Hid (Box ((w.alloc (.cells (cn ⟨k, n, t.take 300⟩) 25)).alloc (.cells #[.int .u8 0, .int .i64 0, .string ⟨#[]⟩] 25)) (w.heap.size + 1) 25 (cn aj)) := Lib.hid (Box.newAt (by simp) _ _); have B0 : Hid (Box ((w.alloc (.cells (cn ⟨k, n, t.take 300⟩) 25)).alloc (.cells #[.int .u8 0, .int .i64 0, .string ⟨#[]⟩] 25)) w.heap.size 25 (cn ⟨k, n, t.take 300⟩)) := Lib.hid ((Box.new w _ _).alloc _); clear ht ml; have cut : kT ⟨k, n, t⟩ = ⟨k, n, t.take 300⟩ := rfl
  cases ok : vOk ⟨k, n, t.take 300⟩ with
  | true =>
    rw [cX ok] at CK
    have EF : Hid (ck ⟨k, n, t⟩ = ⟨k, n, t.take 300⟩) := by
      show _ = _; exact (by unfold ck; rw [cut, if_pos ok] : ck ⟨k, n, t⟩ = ⟨k, n, t.take 300⟩)
    clear ok cut; go_enter Tryz.func18, Tryz.ntmps18; go_wp2_with fail; refine (CK.out _).mono ?_; rintro e w1 ⟨rfl, k1⟩; obtain ⟨i0, p0, p1, p2, _⟩ := (B0.out.kept k1).three; have C1 := Lib.hid (B1.out.kept k1); obtain ⟨j0, q0, q1, q2, g0, g1, g2⟩ := C1.out.three; have KK : Hid (Kept w w1) := Lib.hid (Kept.trans kpt k1); clear k1; go_wp2_with fail; refine fI (fun wf => Box wf (w.heap.size + 1) 25 (cn ⟨k, n, t.take 300⟩) ∧ Kept w wf) ⟨Box.set3 C1.out, KK.out.set3 (by omega)⟩ ?_; rintro wf ⟨z0, kf⟩; obtain ⟨e0, e1, e2⟩ := z0.cells3; exact bodyPost_ret (v := ae ⟨k, n, t.take 300⟩) (by simp [results, Tryz.results18, go_sem, e0, e1, e2]) rfl ⟨congrArg (fun z => Ending.returned (ae z)) EF.out.symm, kf⟩
  | false =>
    rw [cK ok] at CK
    have EG : Hid (ck ⟨k, n, t⟩ = if k % 5 = 2 then eL (decide (Int.tmod n 2 ≠ 0)) else if k % 5 = 3 then ⟨3, 0, [120]⟩ else if k % 5 = 4 then aG (1 + Int.tmod (Int.tmod n 5 + 5) 5) else if k % 5 = 0 then ⟨0, 0, []⟩ else ay (max n (-9223372036854775807))) := by
      show _ = _; unfold ck; rw [cut, if_neg (by rw [ok]; exact Bool.false_ne_true)]
    clear ok cut; obtain ⟨q, hq⟩ : ∃ q : Nat, q = k % 5 := ⟨_, rfl⟩; have q5 : q < 5 := by omega
    have km : (k : Int) % 5 = (q : Int) := by omega
    rw [← hq] at EG; clear hq
    match q, q5 with
    | 0, _ =>
      have EF : Hid (ck ⟨k, n, t⟩ = ⟨0, 0, []⟩) := EG; have km : (k : Int) % 5 = 0 := km; clear EG; go_enter Tryz.func18, Tryz.ntmps18; go_wp2_with fail; refine (CK.out _).mono ?_; rintro e w1 ⟨rfl, k1⟩; obtain ⟨i0, p0, p1, p2, _⟩ := (B0.out.kept k1).three; have C1 := Lib.hid (B1.out.kept k1); obtain ⟨j0, q0, q1, q2, g0, g1, g2⟩ := C1.out.three; have KK : Hid (Kept w w1) := Lib.hid (Kept.trans kpt k1); clear k1; go_wp2_with fail; refine fI (fun wf => Box wf (w.heap.size + 1) 25 (cn (⟨0, 0, []⟩ : Vl)) ∧ Kept w wf) ⟨Box.set3 C1.out, KK.out.set3 (by omega)⟩ ?_; rintro wf ⟨z0, kf⟩; obtain ⟨e0, e1, e2⟩ := z0.cells3; exact bodyPost_ret (v := ae (⟨0, 0, []⟩ : Vl)) (by simp [results, Tryz.results18, go_sem, e0, e1, e2]) rfl ⟨congrArg (fun z => Ending.returned (ae z)) EF.out.symm, kf⟩
    | 1, _ =>
      have EF : Hid (ck ⟨k, n, t⟩ = ay (max n (-9223372036854775807))) := EG; have km : (k : Int) % 5 = 1 := km; obtain ⟨z, hz⟩ : ∃ z, max n (-9223372036854775807) = z := ⟨_, rfl⟩; rw [hz] at EF; have z1 : -9223372036854775808 ≤ z := by omega
      have z2 : z ≤ 9223372036854775807 := by omega
      have T := Lib.hid (fun w => cm z w z1 z2); generalize ay z = y at *; clear EG; go_enter Tryz.func18, Tryz.ntmps18; go_wp2_with fail; refine (CK.out _).mono ?_; rintro e w1 ⟨rfl, k1⟩; obtain ⟨i0, p0, p1, p2, _⟩ := (B0.out.kept k1).three; have C1 := Lib.hid (B1.out.kept k1); obtain ⟨j0, q0, q1, q2, g0, g1, g2⟩ := C1.out.three; have KK : Hid (Kept w w1) := Lib.hid (Kept.trans kpt k1); clear k1; go_wp2_with fail; refine (T.out _).mono ?_; rintro e w2 ⟨rfl, k2⟩; have C1 := Lib.hid (C1.out.kept k2); have KK := Lib.hid (KK.out.trans k2); obtain ⟨j0, q0, q1, q2, g0, g1, g2⟩ := C1.out.three; clear k2; go_wp2_with fail; refine fI (fun wf => Box wf (w.heap.size + 1) 25 (cn y) ∧ Kept w wf) ⟨Box.set3 C1.out, KK.out.set3 (by omega)⟩ ?_; rintro wf ⟨z0, kf⟩; obtain ⟨e0, e1, e2⟩ := z0.cells3; exact bodyPost_ret (v := ae y) (by simp [results, Tryz.results18, go_sem, e0, e1, e2]) rfl ⟨congrArg (fun z => Ending.returned (ae z)) EF.out.symm, kf⟩
    | 2, _ =>
      have km : (k : Int) % 5 = 2 := km; obtain ⟨bb, hb⟩ : ∃ bb, (Int.tmod n 2 != 0) = bb := ⟨_, rfl⟩
      have EF : Hid (ck ⟨k, n, t⟩ = eL bb) := by
        show _ = _; rw [EG.out, if_pos rfl, ← hb]
        congr 1
        by_cases c : Int.tmod n 2 = 0
        · rw [c]; rfl
        · rw [decide_eq_true c]; symm; rw [bne_iff_ne]; exact c
      have T := Lib.hid (fun w => vH bb w); clear EG; go_enter Tryz.func18, Tryz.ntmps18; go_wp2_with fail; refine (CK.out _).mono ?_; rintro e w1 ⟨rfl, k1⟩; obtain ⟨i0, p0, p1, p2, _⟩ := (B0.out.kept k1).three; have C1 := Lib.hid (B1.out.kept k1); obtain ⟨j0, q0, q1, q2, g0, g1, g2⟩ := C1.out.three; have KK : Hid (Kept w w1) := Lib.hid (Kept.trans kpt k1); clear k1; go_wp2_with fail; refine (T.out _).mono ?_; rintro e w2 ⟨rfl, k2⟩; have C1 := Lib.hid (C1.out.kept k2); have KK := Lib.hid (KK.out.trans k2); obtain ⟨j0, q0, q1, q2, g0, g1, g2⟩ := C1.out.three; clear k2; go_wp2_with fail; refine fI (fun wf => Box wf (w.heap.size + 1) 25 (cn (eL bb)) ∧ Kept w wf) ⟨Box.set3 C1.out, KK.out.set3 (by omega)⟩ ?_; rintro wf ⟨z0, kf⟩; obtain ⟨e0, e1, e2⟩ := z0.cells3; exact bodyPost_ret (v := ae (eL bb)) (by simp [results, Tryz.results18, go_sem, e0, e1, e2]) rfl ⟨congrArg (fun z => Ending.returned (ae z)) EF.out.symm, kf⟩
    | 3, _ =>
      have EF : Hid (ck ⟨k, n, t⟩ = ⟨3, 0, [120]⟩) := EG; have km : (k : Int) % 5 = 3 := km; clear EG; go_enter Tryz.func18, Tryz.ntmps18; go_wp2_with fail; refine (CK.out _).mono ?_; rintro e w1 ⟨rfl, k1⟩; obtain ⟨i0, p0, p1, p2, _⟩ := (B0.out.kept k1).three; have C1 := Lib.hid (B1.out.kept k1); obtain ⟨j0, q0, q1, q2, g0, g1, g2⟩ := C1.out.three; have KK : Hid (Kept w w1) := Lib.hid (Kept.trans kpt k1); clear k1; go_wp2_with fail; refine fI (fun wf => Box wf (w.heap.size + 1) 25 (cn (⟨3, 0, [120]⟩ : Vl)) ∧ Kept w wf) ⟨Box.set3 C1.out, KK.out.set3 (by omega)⟩ ?_; rintro wf ⟨z0, kf⟩; obtain ⟨e0, e1, e2⟩ := z0.cells3; exact bodyPost_ret (v := ae (⟨3, 0, [120]⟩ : Vl)) (by simp [results, Tryz.results18, go_sem, e0, e1, e2]) rfl ⟨congrArg (fun z => Ending.returned (ae z)) EF.out.symm, kf⟩
    | 4, _ =>
      have EF : Hid (ck ⟨k, n, t⟩ = aG (1 + Int.tmod (Int.tmod n 5 + 5) 5)) := EG; have km : (k : Int) % 5 = 4 := km; have t5 := qS n; obtain ⟨t51, t52⟩ := t5; obtain ⟨z, hz⟩ : ∃ z, Int.tmod n 5 = z := ⟨_, rfl⟩; rw [hz] at EF t51 t52; have u5 := qS (z + 5); obtain ⟨u51, u52⟩ := u5; obtain ⟨y, hy⟩ : ∃ y, Int.tmod (z + 5) 5 = y := ⟨_, rfl⟩; rw [hy] at EF u51 u52; have T := Lib.hid (fun w => cC (1 + y) w); generalize aG (1 + y) = f at *; clear EG; go_enter Tryz.func18, Tryz.ntmps18; go_wp2_with fail; refine (CK.out _).mono ?_; rintro e w1 ⟨rfl, k1⟩; obtain ⟨i0, p0, p1, p2, _⟩ := (B0.out.kept k1).three; have C1 := Lib.hid (B1.out.kept k1); obtain ⟨j0, q0, q1, q2, g0, g1, g2⟩ := C1.out.three; have KK : Hid (Kept w w1) := Lib.hid (Kept.trans kpt k1); clear k1; go_wp2_with fail; refine (T.out _).mono ?_; rintro e w2 ⟨rfl, k2⟩; have C1 := Lib.hid (C1.out.kept k2); have KK := Lib.hid (KK.out.trans k2); obtain ⟨j0, q0, q1, q2, g0, g1, g2⟩ := C1.out.three; clear k2; go_wp2_with fail; refine fI (fun wf => Box wf (w.heap.size + 1) 25 (cn f) ∧ Kept w wf) ⟨Box.set3 C1.out, KK.out.set3 (by omega)⟩ ?_; rintro wf ⟨z0, kf⟩; obtain ⟨e0, e1, e2⟩ := z0.cells3; exact bodyPost_ret (v := ae f) (by simp [results, Tryz.results18, go_sem, e0, e1, e2]) rfl ⟨congrArg (fun z => Ending.returned (ae z)) EF.out.symm, kf⟩
    | q + 5, h => exact absurd h (by omega)
end

namespace Lv
open Go
theorem kV {L G : Int} : ∀ (l : List Int), (∀ x ∈ l, L ≤ x ∧ x ≤ G) → L * (l.length : Int) ≤ aW l ∧ aW l ≤ G * (l.length : Int)
  | [], _ => by simp [aW]
  | a :: l, h => by
    have ih := kV l (fun x hx => h x (List.mem_cons_of_mem _ hx)); have ha := h a (List.mem_cons_self ..); rw [List.length_cons, Int.natCast_add, Int.mul_add, Int.mul_add]
    simp only [aW]
    omega
theorem DK {X d B : Int} (d0 : 0 < d) (h : X ≤ B * d) : rnd X d ≤ B := by
  have q : X / d ≤ B := Int.ediv_le_of_le_mul d0 h; have e := Int.mul_ediv_add_emod X d; have r0 := Int.emod_nonneg X (b := d) (by omega); unfold rnd
  by_cases c : X / d = B
  · have r1 : X % d = 0 := by
      rw [c, Int.mul_comm] at e
      omega
    rw [if_neg (by omega)]; omega
  · split <;> omega
theorem zD {X d B : Int} (d0 : 0 < d) (h : B * d ≤ X) : B ≤ rnd X d := by
  have q : B ≤ X / d := Int.le_ediv_of_mul_le d0 h; have := (fD X d).1
  omega
theorem mz {L G : Int} {l : List Int} (h0 : l ≠ []) (h : ∀ x ∈ l, L ≤ x ∧ x ≤ G) :
    L ≤ sg (neg (aW l)) (rnd (abs (aW l)) l.length) ∧ sg (neg (aW l)) (rnd (abs (aW l)) l.length) ≤ G := by
  have t := kV l h; have n0 : (0 : Int) < (l.length : Int) := by have := List.length_pos_iff.2 h0; omega
  by_cases c : aW l < 0
  · have e1 : neg (aW l) = true := decide_eq_true c
    have e2 : abs (aW l) = -aW l := if_pos c; rw [e1, e2]; have a := DK (X := -aW l) (B := -L) n0 (by rw [Int.neg_mul]; omega); have b := zD (X := -aW l) (B := -G) n0 (by rw [Int.neg_mul]; omega)
    simp only [sg, if_true]
    omega
  · have e1 : neg (aW l) = false := decide_eq_false c
    have e2 : abs (aW l) = aW l := if_neg c; rw [e1, e2]; have a := DK (X := aW l) (B := G) n0 t.2; have b := zD (X := aW l) (B := L) n0 t.1
    simp only [sg, Bool.false_eq_true, if_false]
    omega
theorem sW {L G : Int} {l : List Int} (h0 : l ≠ []) (h : ∀ x ∈ l, L ≤ x ∧ x ≤ G) (hG : G ≤ 9223372036854775807) :
    ((bM l).2 = true ∧ L ≤ (bM l).1 ∧ (bM l).1 ≤ G) ∨ ((bM l).2 = false ∧ L < -9223372036854775807) := by
  have m := mz h0 h; unfold bM; rw [if_neg h0]; generalize sg (neg (aW l)) (rnd (abs (aW l)) l.length) = x at *
  by_cases c : -9223372036854775807 ≤ x
  · left; rw [dF c (by omega)]; exact ⟨rfl, m.1, m.2⟩
  · right; rw [dB (by omega)]; exact ⟨rfl, by omega⟩
theorem wH {c : Nat} (v : Int) (h : 0 < c) : bM (List.replicate c v) = fit v := by
  have h0 : List.replicate c v ≠ [] := by intro e; have := congrArg List.length e; simp at this; omega
  have m := mz (L := v) (G := v) h0 (fun x hx => by have := List.eq_of_mem_replicate hx; subst this; omega); unfold bM; rw [if_neg h0]
  congr 1
  omega
end Lv

namespace Lv
open Go
end Lv

namespace Lv
open Go
theorem nS {v : Vl} (h : i64 v.n) : Small (ck v) := by
  refine ⟨?_, Nat.le_trans (uG (oV v)) (by decide)⟩; have ok := oV v; unfold ck
  split
  · exact h
  · split
    · unfold eL; split <;> exact ⟨by decide, by decide⟩
    · split
      · exact ⟨by decide, by decide⟩
      · split
        · unfold aG; split
          · rename_i c; exact ⟨by show -9223372036854775808 ≤ (1 + Int.tmod (Int.tmod v.n 5 + 5) 5 : Int); omega, by show (1 + Int.tmod (Int.tmod v.n 5 + 5) 5 : Int) ≤ 9223372036854775807; omega⟩
          · exact ⟨by decide, by decide⟩
        · split
          · exact ⟨by decide, by decide⟩
          · unfold ay
            split
            · exact ⟨by decide, by decide⟩
            · obtain ⟨h1, h2⟩ := h
              exact ⟨by show -9223372036854775808 ≤ max v.n _; omega, by show max v.n _ ≤ (9223372036854775807 : Int); omega⟩
theorem EW {op : Int} {a b : Vl} (h : 7 ≤ op) (h2 : op ≤ 12) (ha : vOk a = true) (hb : vOk b = true) (ka : a.k ≠ 4) (kb : b.k ≠ 4) : (yx op a b).1 = eL (decide (if op = 7 then (lI a b).1 = 0 else if op = 8 then (lI a b).1 ≠ 0 else if op = 9 then (lI a b).1 < 0 else if op = 10 then (lI a b).1 ≤ 0 else if op = 11 then 0 < (lI a b).1 else 0 ≤ (lI a b).1)) := by
  unfold yx; rw [if_neg (by simp only [List.any_cons, ha, hb]; simp; omega), if_neg (by omega), if_pos (by omega)]; show Er op a b = _; unfold Er; rw [if_neg (by unfold isE; simpa using ka), if_neg (by unfold isE; simpa using kb)]
section
variable {a b : Vl} (ha : vOk a = true) (hb : vOk b = true) (ka : a.k ≠ 4) (kb : b.k ≠ 4)
include ha hb ka kb
theorem b9 : (yx 9 a b).1 = eL (decide ((lI a b).1 < 0)) := by rw [EW (by decide) (by decide) ha hb ka kb]; simp
end
end Lv

namespace Lv
open Go
/-! what comes out is valid -/
theorem res_ok (p : Int × Bool) : vOk (eX p) = true := by
  unfold eX
  split
  · exact rV _
  · rfl
theorem GQ {v : Vl} (hn : i64 v.n) : i64 (aL v).n := by
  by_cases ok : vOk v = true
  · rcases fd ok with rfl | ⟨n, _, rfl⟩ | rfl | rfl | ⟨t, ht, rfl⟩ | ⟨c, c1, c2, rfl⟩
    · exact ⟨by decide, by decide⟩
    · unfold aL; rw [ok]; exact hn
    · exact ⟨by decide, by decide⟩
    · exact ⟨by decide, by decide⟩
    · unfold aL; rw [ok]; exact (kn t).1
    · unfold aL; rw [ok]; exact hn
  · unfold aL; rw [if_pos (by simpa using ok)]; exact ⟨by decide, by decide⟩
end Lv

namespace Lv
open Go
def Bc (a : Ar) : Prop := i64 a.v.n ∧ ∀ c ∈ a.l, i64 c.v.n
def num64 (n : Int) : Prop := -9223372036854775807 ≤ n ∧ n ≤ 9223372036854775807
theorem Cm {v : Vl} (h : vOk v = true) (k : v.k = 1) (hn : i64 v.n) : num64 v.n ∧ v = ⟨1, v.n, []⟩ := by
  rcases fd h with rfl | ⟨n, hn0, rfl⟩ | rfl | rfl | ⟨t, _, rfl⟩ | ⟨c, _, _, rfl⟩
  · cases k
  · obtain ⟨h1, h2⟩ := hn
    simp only at h1 h2
    exact ⟨⟨by simp only; omega, h2⟩, rfl⟩
  · cases k
  · cases k
  · cases k
  · cases k
theorem EX {a : Ar} (h : Js a = true) (hi : Bc a) : ∀ v ∈ rK a, vOk v = true ∧ (v.k = 1 ∨ v.k = 4) ∧ i64 v.n := by
  intro v hv; unfold rK at hv; unfold Js at h
  by_cases w : a.w = true
  · rw [if_pos w] at hv h
    simp only [Bool.and_eq_true] at h
    obtain ⟨h1, h2⟩ := List.mem_filter.1 hv; obtain ⟨c, hc, rfl⟩ := List.mem_map.1 h1; have f := (dm.1 h.2).1 c hc; exact ⟨f.2.2, by simpa using h2, hi.2 c hc⟩
  · rw [if_neg w] at hv h
    rw [List.mem_singleton] at hv; subst hv; obtain ⟨k1, k2⟩ := pL a.v; exact ⟨k1, k2, GQ hi.1⟩
theorem Co {l : List Ar} (h : ∀ a ∈ l, Js a = true) (hi : ∀ a ∈ l, Bc a) : ∀ v ∈ aH l, vOk v = true ∧ (v.k = 1 ∨ v.k = 4) ∧ i64 v.n := by
  intro v hv; obtain ⟨s, hs, hv⟩ := List.mem_flatten.1 hv; obtain ⟨a, ha, rfl⟩ := List.mem_map.1 hs; exact EX (h a ha) (hi a ha) v hv
theorem wI {l : List Vl} (h : ax l = none) : ∀ v ∈ l, isE v = false := by
  unfold ax at h; rw [List.find?_eq_none] at h; intro v hv; have := h v hv
  simpa using this
theorem zG {l : List Vl} {e : Vl} (h : ax l = some e) : e ∈ l ∧ isE e = true := by
  unfold ax at h; exact ⟨List.mem_of_find?_eq_some h, List.find?_some h⟩
theorem EY {l : List Ar} (h : ∀ a ∈ l, Js a = true) (hi : ∀ a ∈ l, Bc a) :
    ((cE l).2.2 = true ∧ (cE l).2.1 = aj ∧ ∀ n ∈ (cE l).1, num64 n) ∨ ((cE l).2.2 = false ∧ (cE l).1 = [] ∧ vOk (cE l).2.1 = true ∧ (cE l).2.1.k = 4) := by
  have s := Co h hi; unfold cE
  cases e : ax (aH l) with
  | none =>
    refine Or.inl ⟨rfl, rfl, fun n hn => ?_⟩; obtain ⟨v, hv, rfl⟩ := List.mem_map.1 hn; obtain ⟨a, b, c⟩ := s v hv; have d := wI e v hv; unfold isE at d; rw [decide_eq_false_iff_not] at d; exact (Cm a (by omega) c).1
  | some x =>
    obtain ⟨hm, hE⟩ := zG e; unfold isE at hE; rw [decide_eq_true_eq] at hE; exact Or.inr ⟨rfl, rfl, (s x hm).1, hE⟩
theorem Cp {n : Int} (h : num64 n) : ay n = ⟨1, n, []⟩ := by
  obtain ⟨h1, h2⟩ := h; unfold ay; rw [if_neg (by omega)]
theorem EZ {i : Int} (h : -900000000000000 ≤ i ∧ i ≤ 900000000000000) : aL ⟨1, i * 10000, []⟩ = ⟨1, i * 10000, []⟩ ∧ dK ⟨1, i * 10000, []⟩ = i := by
  have o : vOk ⟨1, i * 10000, []⟩ = true := by rw [ok1, decide_eq_true_eq]; exact ⟨rfl, by omega⟩
  have e := Bp o (Or.inl rfl); refine ⟨e, ?_⟩; unfold dK; rw [e]; exact Int.mul_tdiv_cancel _ (by decide)
theorem rank_out {a : Ar} {i : Int} {d : Bool} (hn : (cE [a]).2.2 = true) (hi : -900000000000000 ≤ i ∧ i ≤ 900000000000000) (h : i < 1 ∨ ((cE [a]).1.length : Int) < i) : cH a ⟨1, i * 10000, []⟩ d = aG 3 := by
  obtain ⟨p1, p2⟩ := EZ hi; unfold cH; rw [hn, if_neg (by simp), p1, p2]; have e : isE (⟨1, i * 10000, []⟩ : Vl) = false := rfl; rw [e, if_neg (by simp), if_pos h]
end Lv

namespace Lv
open Go
end Lv

namespace Lv
open Go
theorem uM {x : Rc} (h : okR x = true) : 1 ≤ aJ x ∧ aJ x ≤ 1048576 ∧ aJ x = (x.c2 - x.c1 + 1) * (x.r2 - x.r1 + 1) := by
  have hs : aJ x = bh x * cd x := by unfold aJ; rw [if_pos h]
  rw [eD] at h; have h1 : bh x * cd x ≤ 1024 * 1024 := Int.mul_le_mul (by unfold bh; omega) (by unfold cd; omega) (by unfold cd; omega) (by omega); have h2 : 1 * 1 ≤ bh x * cd x := Int.mul_le_mul (by unfold bh; omega) (by unfold cd; omega) (by omega) (by unfold bh; omega); refine ⟨by omega, by omega, hs⟩
end Lv

namespace Lv
open Go
def nT (c : Cl) : Cl := { c with v := ck c.v }
def wJ (x : Rc) (acc : List Cl) (c : Cl) : Bool := decide ((ck c.v).k ≠ 0) && jL x c.c c.r && (match acc.getLast? with | none => true | some p => dA p c)
def co (x : Rc) (acc : List Cl) (c : Cl) : List Cl := if wJ x acc c then acc ++ [nT c] else acc
def fJ (x : Rc) (l : List Cl) : List Cl := l.foldl (co x) []
def eF (a : Ar) : Ar := if a.w = true ∧ okR a.x = true then ⟨true, aj, a.x, fJ a.x a.l⟩ else ⟨false, ck a.v, sD, []⟩
def qT (l : List Ar) : List Ar := l.map eF
theorem uN {v : Vl} (h : vOk v = true) (hi : i64 v.n) : Small v := ⟨hi, Nat.le_trans (uG h) (by decide)⟩
theorem Cq {l : List Cl} {c : Cl} (h : mf l) (hl : ∀ p, l.getLast? = some p → dA p c = true) : mf (l ++ [c]) := by
  refine List.pairwise_append.2 ⟨h, List.pairwise_singleton _ _, fun p hp q hq => ?_⟩
  simp only [List.mem_singleton] at hq
  subst hq
  obtain ⟨m, d, rfl⟩ : ∃ m d, l = m ++ [d] := by
    rcases List.eq_nil_or_concat l with e | ⟨m, d, e⟩
    · subst e; cases hp
    · exact ⟨m, d, by rw [e, List.concat_eq_append]⟩
  have hd := hl d (by simp); rcases List.mem_append.1 hp with h1 | h1
  · have h2 := (List.pairwise_append.1 h).2.2 p h1 d (by simp)
    unfold dA at h2 hd ⊢
    simp only [Bool.or_eq_true, Bool.and_eq_true, decide_eq_true_eq] at h2 hd ⊢
    omega
  · simp only [List.mem_singleton] at h1
    subst h1; exact hd
def zH (x : Rc) (l : List Cl) : Prop := (∀ c ∈ l, dT x c) ∧ mf l
theorem Cr {x : Rc} {acc : List Cl} {c : Cl} (h : zH x acc) : zH x (co x acc c) ∧ (co x acc c).length ≤ acc.length + 1 := by
  unfold co
  by_cases hf : wJ x acc c = true
  · rw [if_pos hf]
    unfold wJ at hf
    simp only [Bool.and_eq_true, decide_eq_true_eq] at hf
    obtain ⟨⟨f1, f2⟩, f3⟩ := hf; refine ⟨⟨fun q hq => ?_, Cq h.2 (fun p hp => ?_)⟩, by simp⟩
    · rcases List.mem_append.1 hq with h1 | h1
      · exact h.1 q h1
      · simp only [List.mem_singleton] at h1
        subst h1; exact ⟨f2, f1, oV _⟩
    · rw [hp] at f3
      exact f3
  · rw [if_neg hf]
    exact ⟨h, by omega⟩
theorem uO {x : Rc} : ∀ (l : List Cl) (acc : List Cl), zH x acc → zH x (l.foldl (co x) acc) ∧ (l.foldl (co x) acc).length ≤ acc.length + l.length
  | [], acc, h => ⟨h, by simp⟩
  | c :: l, acc, h => by
    obtain ⟨h1, h2⟩ := Cr (c := c) h; obtain ⟨h3, h4⟩ := uO l _ h1; exact ⟨h3, by simp only [List.foldl_cons, List.length_cons]; omega⟩
theorem kW (x : Rc) (l : List Cl) : zH x (fJ x l) ∧ (fJ x l).length ≤ l.length := by
  obtain ⟨h1, h2⟩ := uO (x := x) l [] ⟨(fun c h => by cases h), List.Pairwise.nil⟩; exact ⟨h1, by simpa [fJ] using h2⟩
theorem uP {x : Rc} : ∀ (l : List Cl) (acc : List Cl), (∀ c ∈ acc, i64 c.v.n) → (∀ c ∈ l, i64 c.v.n) → ∀ c ∈ l.foldl (co x) acc, i64 c.v.n
  | [], acc, h, _ => h
  | c :: l, acc, h, g => by
    refine uP l _ (fun q hq => ?_) (fun q hq => g q (List.mem_cons_of_mem _ hq)); unfold co at hq
    by_cases hf : wJ x acc c = true
    · rw [if_pos hf] at hq
      rcases List.mem_append.1 hq with h1 | h1
      · exact h q h1
      · simp only [List.mem_singleton] at h1
        subst h1; exact (nS (g c List.mem_cons_self)).1
    · rw [if_neg hf] at hq
      exact h q hq
theorem zJ {a : Ar} (h : Bc a) : Bc (eF a) := by
  unfold eF
  split
  · exact ⟨show i64 (0 : Int) from ⟨by decide, by decide⟩, uP _ _ (fun c h => by cases h) h.2⟩
  · exact ⟨(nS h.1).1, fun c h => by cases h⟩
theorem Cs {l : List Ar} (h : ∀ a ∈ l, Bc a) : ∀ a ∈ qT l, Bc a := fun a ha => by
  obtain ⟨b, hb, rfl⟩ := List.mem_map.1 ha; exact zJ (h b hb)
theorem qU (a : Ar) : Js (eF a) = true ∧ (eF a).l.length ≤ a.l.length := by
  unfold eF
  split
  · rename_i h
    obtain ⟨h1, h2⟩ := kW a.x a.l; exact ⟨nK.2 ⟨h.2, h1.1, h1.2⟩, h2⟩
  · refine ⟨?_, Nat.zero_le _⟩
    unfold Js
    simp [oV]
theorem E4 {a : Ar} (h : Js a = true) (hi : Bc a) : Small a.v ∧ ∀ c ∈ a.l, Small c.v := by
  obtain ⟨w, v, x, l⟩ := a
  cases w
  · unfold Js at h
    simp at h
    refine ⟨uN h.1.1 hi.1, fun c hc => ?_⟩; have := h.2
    simp only at hc
    rw [this] at hc
    cases hc
  · unfold Js at h
    simp only [if_true, Bool.and_eq_true, decide_eq_true_eq] at h
    obtain ⟨⟨⟨h1, h2, h3⟩, _⟩, h4⟩ := h; exact ⟨⟨hi.1, by simp only; rw [h3]; simp⟩, fun c hc => uN ((dm.1 h4).1 c hc).2.2 (hi.2 c hc)⟩
theorem Ct {l : List Ar} : ∀ a ∈ qT l, Js a = true := fun a h => by
  obtain ⟨b, _, rfl⟩ := List.mem_map.1 h; exact (qU b).1
theorem zM (l : List Ar) : (qT l).length = l.length := List.length_map ..
theorem sX {l : List Ar} {n : Nat} (h : ∀ a ∈ l, a.l.length ≤ n) : ∀ a ∈ qT l, a.l.length ≤ n := fun a ha => by
  obtain ⟨b, hb, rfl⟩ := List.mem_map.1 ha; exact Nat.le_trans (qU b).2 (h b hb)
theorem Cu (a : Ar) : (rK a).length ≤ a.l.length + 1 := by
  unfold rK
  split
  · refine Nat.le_trans (List.length_filter_le _ _) ?_
    rw [List.length_map]
    omega
  · simp
theorem qV {n : Nat} : ∀ {l : List Ar}, (∀ a ∈ l, a.l.length ≤ n) → (aH l).length ≤ l.length * (n + 1)
  | [], _ => by simp [aH]
  | a :: l, h => by
    have h1 := Cu a; have h2 := h a List.mem_cons_self; have h3 := qV (l := l) (fun b hb => h b (List.mem_cons_of_mem _ hb)); unfold aH at h3 ⊢; rw [List.map_cons, List.flatten_cons, List.length_append, List.length_cons, Nat.succ_mul]
    omega
end Lv

section
open Go.RowKit Lv
set_option maxRecDepth 100000
theorem mA (l : List Ar) : (jE l).length ≤ 20 := by unfold jE; rw [List.length_map, List.length_take]; omega
theorem iZ (l : List Ar) : ∀ a ∈ jE l, a.l.length ≤ 60 := fun a ha => by
  obtain ⟨b, _, rfl⟩ := List.mem_map.1 ha; show ((b.l.take 60).map gq).length ≤ 60; rw [List.length_map, List.length_take]
  omega
theorem uQ {v : Vl} (h : oB v) : oB (kT v) := ⟨h.1, h.2.1, Nat.le_trans (by show (v.t.take 300).length ≤ 300; rw [List.length_take]; omega) (by decide)⟩
theorem wK {l : List Ar} (h : ∀ a ∈ l, oB a.v ∧ ∀ c ∈ a.l, oB c.v) : ∀ a ∈ jE l, oB a.v ∧ ∀ c ∈ a.l, oB c.v := fun a ha => by
  obtain ⟨b, hb, rfl⟩ := List.mem_map.1 ha; obtain ⟨h1, h2⟩ := h b (List.mem_of_mem_take hb); refine ⟨uQ h1, fun c hc => ?_⟩; obtain ⟨d, hd, rfl⟩ := List.mem_map.1 hc; exact uQ (h2 d (List.mem_of_mem_take hd))
theorem jG {m l : List Ar} (hm : m = jE l) (A : Option Addr) (cap : Nat) (w : World) (hr : ArgsIn w A l) (hc : l.length ≤ cap) (hw : ∀ a ∈ l, a.l.length ≤ 2932031007402) : Calls Tryz.prog 10 #[.slice A l.length cap] w fun e w' => sS w m e w' := by
  subst hm; exact (zz A cap l w hr hc hw).mono fun _ _ h => h.new
theorem uR {w0 w : World} {H : List Th} (h : Own w0 H w) : Own w0 (Th.row 0 46 5 (.slice none 0 0) 0 [] :: H) w := uJ (h.nil 46 5) oW rfl
theorem GR {a : Act} {w : World} {o : Oper} {T2 : TypeId} {x y : Operand} (ho : o.op = .binOp .sub 3 x y T2) {n : Nat} (hx : a.eval x = .int .i64 (n : Int)) (h0 : ¬ n = 0) (h1 : n ≤ 900000) (hy : a.eval y = .int .i64 1 := by rfl) : (execOp a.eval o).run Tryz.prog w = .ok (.value (.int .i64 ((n - 1 : Nat) : Int))) w := by
  have e : ((n - 1 : Nat) : Int) = (n : Int) - 1 := by omega
  rw [e]; exact Ek (Or.inl rfl) ho (n := n) (m := 1) hx hy (by omega) (by omega)
theorem zQ {w : World} {b n c : Nat} {A : Option Addr} {acc : List Cl} (h : w.ownsRow b 46 5 (.slice A n c) acc.length (acc.map clV).flatten) : ∃ (gc : Nat) (pl : Cl), ¬ (((acc.length : Nat) : Int) = (0 : Int)) → A = some ⟨gc, 0, none⟩ ∧ ElemK w gc (0 + (acc.length - 1) * 5) (clV pl) ∧ acc.getLast? = some pl := by
  rcases Nat.eq_zero_or_pos acc.length with h0 | h0
  · exact ⟨0, ⟨0, 0, aj⟩, fun c => absurd (by omega) c⟩
  · obtain ⟨g, hA, _⟩ := uK h h0
    obtain ⟨pl, hp⟩ := bI (l := acc) (i := acc.length - 1) (by omega); exact ⟨g, pl, fun _ => ⟨hA, lD eC hA h hp, by rw [List.getLast?_eq_getElem?]; exact hp⟩⟩
theorem qW {x : Rc} {acc : List Cl} {c pl : Cl} (h : ¬ (((acc.length : Nat) : Int) = (0 : Int)) → acc.getLast? = some pl) : wJ x acc c = true ↔ ((ck c.v).k ≠ 0 ∧ jL x c.c c.r = true) ∧ (((acc.length : Nat) : Int) = (0 : Int) ∨ dA pl c = true) := by
  unfold wJ; rw [Bool.and_eq_true, Bool.and_eq_true, decide_eq_true_eq]; refine and_congr_right fun _ => ?_
  by_cases h0 : ((acc.length : Nat) : Int) = (0 : Int)
  · have : acc = [] := List.eq_nil_of_length_eq_zero (by omega)
    subst this
    simp
  · rw [h h0]
    exact ⟨fun z => Or.inr z, fun z => z.resolve_left h0⟩
theorem Cv {x : Rc} {acc : List Cl} {c pl : Cl} {gc : Nat} {A : Option Addr} {w : World} {p : Nat} (h : ¬ (((acc.length : Nat) : Int) = (0 : Int)) → A = some ⟨gc, 0, none⟩ ∧ ElemK w gc p (clV pl) ∧ acc.getLast? = some pl) (g : ((((ck c.v).k : Int) ≠ (0 : Int)) ∧ (jL x c.c c.r = true)) ∧ ((((acc.length : Nat) : Int) = (0 : Int)) ∨ (dA pl c = true))) : co x acc c = acc ++ [nT c] := by
  unfold co; rw [if_pos ((qW fun z => (h z).2.2).2 ⟨⟨by have := g.1.1; omega, g.1.2⟩, g.2⟩)]
theorem E5 {x : Rc} {acc : List Cl} {c pl : Cl} {gc : Nat} {A : Option Addr} {w : World} {p : Nat} (h : ¬ (((acc.length : Nat) : Int) = (0 : Int)) → A = some ⟨gc, 0, none⟩ ∧ ElemK w gc p (clV pl) ∧ acc.getLast? = some pl) (g : ¬ (((((ck c.v).k : Int) ≠ (0 : Int)) ∧ (jL x c.c c.r = true)) ∧ ((((acc.length : Nat) : Int) = (0 : Int)) ∨ (dA pl c = true)))) : co x acc c = acc := by
  unfold co; rw [if_neg]; intro z; obtain ⟨⟨z1, z2⟩, z3⟩ := (qW fun z => (h z).2.2).1 z; exact g ⟨⟨by omega, z2⟩, z3⟩
theorem qX {x : Rc} {l acc z : List Cl} {i : Nat} {c : Cl} (h : acc = (l.take i).foldl (co x) []) (hc : l[i]? = some c) (hz : co x acc c = z) : z = (l.take (i + 1)).foldl (co x) [] := by
  rw [fu hc, List.foldl_append, ← h, List.foldl_cons, List.foldl_nil, hz]
theorem qY (x : Rc) (l : List Cl) (i : Nat) : ((l.take i).foldl (co x) []).length ≤ l.length := by
  have h := (kW x (l.take i)).2; unfold fJ at h; rw [List.length_take] at h
  omega
theorem qZ {L : List (Ar × Value)} {m : List Ar} {k : Nat} {a y : Ar} {s : Value} (hL : L.map Prod.fst = (m.take k).map eF) (ha : m[k]? = some a) (hy : eF a = y) : (L ++ [(y, s)]).map Prod.fst = (m.take (k + 1)).map eF := by
  rw [List.map_append, hL, fu ha, List.map_append, List.map_singleton, List.map_singleton, hy]
theorem E6 {a : Ar} (h : (¬ (a.w = true)) ∨ ((iy a.x : Int) ≠ (0 : Int))) : eF a = ⟨false, ck a.v, sD, []⟩ := by
  unfold eF; rw [if_neg]; rintro ⟨h1, h2⟩; rcases h with h | h
  · exact h h1
  · exact h (ui h2)
theorem uS {a : Ar} (h : ¬ ((¬ (a.w = true)) ∨ ((iy a.x : Int) ≠ (0 : Int)))) : okR a.x = true := lA (fun c => h (Or.inr c))
theorem Cw {a : Ar} (h : ¬ ((¬ (a.w = true)) ∨ ((iy a.x : Int) ≠ (0 : Int)))) : eF a = ⟨true, aj, a.x, fJ a.x a.l⟩ := by
  unfold eF; rw [if_pos ⟨Classical.byContradiction fun c => h (Or.inl c), uS h⟩]
section
variable {w : World} {a : Act} {o : Oper} {ops : Array Oper} {rest : List Oper} {Q : Exit → Act → World → Prop}
theorem pf (hw : Region.wanted o (yielded ops a.tmps) = true) {s x : Operand} (ho : o.op = .call { callee := .builtin .append, args := #[s, x], argTypes := #[35, 35] }) {v : Value} {l : List Cl} {y : Cl} {g c : Nat} (hs : a.eval s = v) (hx : a.eval x = .slice (some ⟨g, 0, none⟩) 1 c) (hown : (dc v l).p w) (hg : w.heap[g]? = some (.cells #[.int .i64 y.c, .int .i64 y.r, .int .u8 y.v.k, .int .i64 y.v.n, .string ⟨y.v.t.toArray⟩] 46 (0, 0))) (hl : l.length ≤ 900000)
    (h : ∀ v' w', (dc v' (l ++ [y])).p w' → w.grownBy w' v.ownBlock → (v'.ownBlock = v.ownBlock ∨ v'.ownBlock = some w.heap.size) → wpList Tryz.prog ops Q rest (a.put o.dst v') w') : wpList Tryz.prog ops Q (o :: rest) a w := by
  refine ku hw ho Tryz.underlying35 (k := 5) (by_ := 48) (uH _ _ _ _ (by kernel_rfl) rfl) (by decide) (news := clV y) hs hx hown rfl (fun j u hj => ?_) (zm y) (by omega) (by simp only [maxLen]; omega) (Nat.zero_le _) (fun v' w' ho' hg' hb => h v' w' ?_ hg' hb)
  · rw [Go.WideShapes.add_plain, Nat.zero_add, cell_of_row w g j _ 46 (0, 0) hg, ← hj]
    simp [clV]
  · show w'.ownsRow 0 46 5 v' (l ++ [y]).length ((l ++ [y]).map clV).flatten
    rw [List.length_append, List.length_singleton, List.map_append, List.flatten_append]; exact (by simpa using ho')
end
theorem cS : En 10 := by intro args w; go_simp
theorem wL (A : Option Addr) (cap : Nat) (l : List Ar) (w : World) (hr : ArgsIn w A l) (hc : l.length ≤ cap) (hw : ∀ a ∈ l, a.l.length ≤ 2932031007402) (hwd : ∀ a ∈ l, oB a.v ∧ ∀ c ∈ a.l, oB c.v) :
    Calls Tryz.prog 13 #[.slice A l.length cap] w fun e w' => OwnArgs w (qT (jE l)) e w' := by
  obtain ⟨m, hmdef⟩ : ∃ m, m = jE l := ⟨_, rfl⟩; have hml : m.length ≤ 20 := by rw [hmdef]; exact mA l
  have hmc : ∀ a ∈ m, a.l.length ≤ 60 := by rw [hmdef]; exact iZ l
  have hmw : ∀ a ∈ m, oB a.v ∧ ∀ c ∈ a.l, oB c.v := by rw [hmdef]; exact wK hwd
  go_enter Tryz.func13, Tryz.ntmps13; refine z00 113 [(0, .slice A l.length cap)] ?_; intro _ s; refine zr s 1 (zP Z0) ?_; intro _ fw s; refine zr s 1 (zP Z0) ?_; intro _ fw s; refine zt_ s 1 (zP Z0) ?_; intro _ fw s K1 hK1; refine aU (aC rfl) (bZ (u := .slice A l.length cap) rfl (s.g 11) (cS _ _)) ((jG hmdef A cap _ (hr.kept s.o.kept) hc hw).mono ?_); rintro _ fw ⟨A1, p1, rfl, hr1, hp1, hn1, hk⟩; refine ⟨_, rfl, ?_⟩; rcases (rfl : (0 : Nat) = 0) with _
  obtain ⟨w1, rfl⟩ : ∃ z, z = fw := ⟨_, rfl⟩; have o0 := s.o.keep hk; clear hk; have ow := Own.start w1; refine zg (s.ow ow) ?_; intro _ fw s; refine zw s ?_; intro _ fw s; refine wt hK1 ?_; refine sq fun hK2 => ?_; refine zr s 1 (zP Z0) ?_; intro _ fw s; refine wp_block ?_; refine aP (fun (k : Nat) fr u => ∃ (v : Value), ∃ (L : List (Ar × Value)), (k ≤ m.length) ∧ (L.map Prod.fst = (m.take k).map eF) ∧ Sg 113 w1 ((dW v L) :: (L.map cf)) [(2, .slice none 0 0), (3, v), (4, .slice A1 m.length p1), (5, .int .i64 (k : Int))] fr u) (fun k => m.length - k) 0 ⟨(.slice none 0 0), [], (Nat.zero_le _), (by simp), (s.ow (kU s.o)).c⟩ (fun k b_ u_ hI => ?_)
  revert b_ u_; intro fa fw hI
  obtain ⟨v, L, hk0, hL, s⟩ := hI; refine sq fun hK3 => ?_; refine zr s 4 (zP (zN (zP (zP Z0)))) ?_; intro _ fw s; refine zi_ s ?_ ?_
  ·intro hc1
   refine wp_skip ?_; refine tn hK3 ?_; refine sq fun hK4 => ?_; refine wp_block ?_; have hltk : k < m.length := by omega
   obtain ⟨a, ha⟩ := bI hltk; obtain ⟨ba, oa, A3, c3, Aa, ea, r1, l1⟩ := hr1.elem ha; have hac := hmc a (List.mem_of_getElem? ha); have hwa := hmw a (List.mem_of_getElem? ha); refine zt_ s 7 (zV (zO (zF (zF (zO (zP (zP Z0)) fun cc => al 9 Tryz.underlying22 (by kernel_rfl) rfl Aa cc.e cc.e hltk) (oa + k * 9 + 4)) (oa + k * 9 + 4)) (v := aR a.x) fun cc => bf (n := 4) 4 rfl (by kernel_rfl) (by kernel_rfl) cc.e rfl (ea.kept cc.ow.kept)) (.cells #[.int .i64 0, .int .i64 0, .int .i64 0, .int .i64 0] 34 (0, 0))) ?_; intro gb1 _ fw s K5 hK5; refine zS s 0 ?_; intro fw s; refine wt hK5 ?_; refine sq fun hK6 => ?_; refine zr s 11 (zO (zPi (zCI (zAi (zP (zP (zO (zF (zO (zP (zP Z0)) fun cc => al 9 Tryz.underlying22 (by kernel_rfl) rfl Aa cc.e cc.e hltk) (oa + k * 9)) fun cc => dS 0 rfl (by kernel_rfl) cc.e rfl (ea.kept cc.ow.kept) rfl))) (aR a.x) 4 0) fun cc => mi a.x _)) fun cc => gA rfl cc.e rfl (fun hb => cc.f hb)) ?_; intro _ fw s; refine zb s (bor (jc (Iff.rfl)) (decide_eq_true_iff)) ?_ ?_
   ·intro hc2
    have hg2 : eF a = (⟨false, ck a.v, sD, []⟩ : Ar) := E6 hc2; refine zt_ s 9 (zNl (zO (zC (zO (zF (zO (zP (zP (zP Z0))) fun cc => al 9 Tryz.underlying22 (by kernel_rfl) rfl Aa cc.e cc.e hltk) (oa + k * 9 + 1)) (v := ae a.v) fun cc => bf (n := 3) 1 rfl (by kernel_rfl) (by kernel_rfl) cc.e rfl (ea.kept cc.ow.kept)) fun cc => uL a.v _ hwa.1) (v := .agg #[.bool false, .int .u8 ((ck a.v).k), .int .i64 ((ck a.v).n), .string ⟨((ck a.v).t).toArray⟩, .int .i64 0, .int .i64 0, .int .i64 0, .int .i64 0, .slice none 0 0]) fun cc => xb1 rfl cc.e (by kernel_rfl)) (b := .cells #[.bool false, .int .u8 ((ck a.v).k), .int .i64 ((ck a.v).n), .string ⟨((ck a.v).t).toArray⟩, .int .i64 0, .int .i64 0, .int .i64 0, .int .i64 0, .slice none 0 0] 39 (0, 0)) (m := 1) fun cc => qs rfl cc.e (by kernel_rfl)) ?_; intro gb2 _ fw s K7 hK7; refine gP (aC rfl) rfl (y := (⟨false, ck a.v, sD, []⟩ : Ar)) (sy := (.slice none 0 0)) (s.g 36) (s.g 44) (s.o.thing 2 rfl) (s.o.get 0 rfl) rfl (by have := congrArg List.length hL; simp only [List.length_map, List.length_take] at this; omega) (fun vr1 fw1 ho hg hb => ?_); have ow := s.o.turn 2 rfl (t' := dW vr1 (L ++ [((⟨false, ck a.v, sD, []⟩ : Ar), (.slice none 0 0))])) ho hg (dP hb); clear ho hg hb; refine zg (s.ow ow) ?_; intro _ fw s; refine zw s ?_; intro _ fw s; refine wt hK7 ?_; refine wp_exit ?_; refine aM ?_; refine aD ?_; refine tn hK4 ?_; refine zu s 2 (by exact zAn (zP Z0) k 1) ?_
    intro _ fw s; refine zw s ?_; intro _ fw s; refine aN ?_; exact bg ⟨(k + 1), ⟨vr1, (L ++ [((⟨false, ck a.v, sD, []⟩ : Ar), (.slice none 0 0))]), hltk, (qZ hL ha hg2), (s.ow (oY (s := (.slice none 0 0)) (y := (⟨false, ck a.v, sD, []⟩ : Ar)) (uR (s.o.sub (List.Sublist.cons _ (List.Sublist.cons _ (List.Sublist.cons_cons _ (List.Sublist.refl _)))))))).c⟩, (show m.length - (k + 1) < m.length - k by omega)⟩
   intro hc2; have hg := Cw hc2; have hok := uS hc2; refine wp_skip ?_; refine tn hK6 ?_; refine zt_ s 3 (zV (zO (zA Z0 (aR a.x) 4 0) (v := .agg #[.int .i64 a.x.c1, .int .i64 a.x.r1, .int .i64 a.x.c2, .int .i64 a.x.r2, .slice none 0 0]) fun cc => xb1 rfl cc.e (by kernel_rfl)) (.cells #[.int .i64 0, .int .i64 0, .int .i64 0, .int .i64 0, .slice none 0 0] 37 (0, 0))) ?_; intro gb3 _ fw s K8 hK8; refine zS s 0 ?_; intro fw s; refine wt hK8 ?_; refine sq fun hK9 => ?_; refine zr s 1 (zP Z0) ?_; intro _ fw s; refine wp_block ?_; refine aP (fun (i : Nat) fr u => ∃ (A2 : Option Addr), ∃ (c2 : Nat), ∃ (acc : List Cl), (i ≤ a.l.length) ∧ (acc = (a.l.take i).foldl (co a.x) []) ∧ Sg 113 w1 ((dc (.slice A2 acc.length c2) acc) :: (Th.obj gb3 (.cells #[.int .i64 a.x.c1, .int .i64 a.x.r1, .int .i64 a.x.c2, .int .i64 a.x.r2, .slice A2 acc.length c2] 37 (0, 0))) :: (Th.obj gb1 (.cells #[.int .i64 a.x.c1, .int .i64 a.x.r1, .int .i64 a.x.c2, .int .i64 a.x.r2] 34 (0, 0))) :: (dW v L) :: (L.map cf)) [(2, .slice none 0 0), (3, v), (4, .slice A1 m.length p1), (5, .int .i64 (k : Int)), (6, .pointer (some ⟨gb1, 0, none⟩)), (7, .pointer (some ⟨gb3, 0, none⟩)), (8, .int .i64 (i : Int))] fr u) (fun i => a.l.length - i) 0 ⟨none, 0, [], (Nat.zero_le _), (by simp), (s.ow (uR s.o)).c⟩ (fun i b_ u_ hI => ?_)
   revert b_ u_; intro fa fw hI
   obtain ⟨A2, c2, acc, hi0, hacc, s⟩ := hI; refine sq fun hK10 => ?_; refine zr s 9 (zP (zN (zO (zF (zF (zO (zP (zP (zP Z0))) fun cc => al 9 Tryz.underlying22 (by kernel_rfl) rfl Aa cc.e cc.e hltk) (oa + k * 9 + 4)) (oa + k * 9 + 4 + 4)) fun cc => dS 8 rfl (by kernel_rfl) cc.e rfl (ea.kept cc.ow.kept) rfl))) ?_; intro _ fw s; refine zi_ s ?_ ?_
   ·intro hc3
    refine wp_skip ?_; refine tn hK10 ?_; refine sq fun hK11 => ?_; refine wp_block ?_; have hlti : i < a.l.length := by omega
    obtain ⟨cl, hcl⟩ := bI hlti; obtain ⟨bcl, ocl, Acl, ecl⟩ := r1.elem hcl; refine zt_ s 10 (zV (zO (zO (zP (zO (zF (zF (zO (zP (zP Z0)) fun cc => al 9 Tryz.underlying22 (by kernel_rfl) rfl Aa cc.e cc.e hltk) (oa + k * 9 + 4)) (oa + k * 9 + 4 + 4)) fun cc => dS 8 rfl (by kernel_rfl) cc.e rfl (ea.kept cc.ow.kept) rfl)) fun cc => al 5 Tryz.underlying35 (by kernel_rfl) rfl Acl cc.e cc.e hlti) (v := .agg #[.int .i64 cl.c, .int .i64 cl.r, .int .u8 cl.v.k, .int .i64 cl.v.n, .string ⟨cl.v.t.toArray⟩]) fun cc => bf (n := 5) 0 rfl (by kernel_rfl) (by kernel_rfl) cc.e rfl (ecl.kept cc.ow.kept)) (.cells #[.int .i64 0, .int .i64 0, .int .u8 0, .int .i64 0, .string ⟨[].toArray⟩] 46 (0, 0))) ?_; intro gb4 _ fw s K12 hK12; refine zS s 0 ?_; intro fw s; refine wt hK12 ?_; refine zt_ s 4 (zF (zC (zA (zF Z0 2) (ae cl.v) 3 0) fun cc => uL cl.v _ (hwa.2 _ (List.mem_of_getElem? hcl))) 2) ?_; intro _ fw s K13 hK13; refine zS s 0 ?_; intro fw s; refine wt hK13 ?_; refine zr s 4 (zP (zN (zL (zF Z0 4) 2))) ?_; intro _ fw s; obtain ⟨gc, pl, hpl⟩ := zQ (s.o.row 1 rfl); have hal : acc.length ≤ 60 := by have := (qY a.x a.l i); rw [← hacc] at this; omega
    refine zr s 26 (zO (zI (zCI (zAi (zFi (zI (zFi (zI (zI (zPi (zLi (zFi (zPi (zPi (zPi (zP (zO (zCI (zAi (zFi (zAi (zP (zP (zL (zF (zF Z0 2) 2) 0))) (aR a.x) 4 3) 0) (.agg #[.int .i64 cl.c, .int .i64 cl.r]) 2 0) fun cc => qv a.x cl.c cl.r _) fun cc => gm rfl cc.e (fun hb => cc.f hb) rfl))))) 4) 2)) (v := .int .i64 ((acc.length - 1 : Nat) : Int)) (run := by exact fun cc hz => GR rfl (cc.f hz) (by have := of_decide_eq_false hz.2; omega) (by omega))) (v := .pointer (some ⟨gc, 0 + (acc.length - 1) * 5, none⟩)) (run := by exact fun cc hz => al 5 Tryz.underlying35 (by kernel_rfl) rfl (hpl (of_decide_eq_false hz.2)).1 (cc.f hz) (cc.f hz) (by have := of_decide_eq_false hz.2; omega))) (0 + (acc.length - 1) * 5)) (v := .agg #[.int .i64 pl.c, .int .i64 pl.r]) (run := by exact fun cc hz => bf (n := 2) 0 rfl (by kernel_rfl) (by kernel_rfl) (cc.f hz) rfl ((hpl (of_decide_eq_false hz.2)).2.1.kept cc.k))) 0) (.agg #[.int .i64 cl.c, .int .i64 cl.r]) 2 0) fun cc => qw pl cl _) (v := .bool ((decide (((acc.length : Nat) : Int) = (0 : Int))) || (dA pl cl))) (run := by exact fun cc hz => gA rfl (cc.f hz) rfl (fun hb => cc.f (And.intro hz hb)))) fun cc => gm rfl cc.e (fun hb => cc.f hb) rfl) ?_; intro _ fw s; refine zb s (pE (pE (decide_eq_true_iff) (Iff.rfl)) (bor (decide_eq_true_iff) (Iff.rfl))) ?_ ?_
    ·intro hc4
     have hstep := Cv hpl hc4; refine zu s 4 (by exact zNl (zA (zL (zF Z0 4) 2) (.agg #[.int .i64 cl.c, .int .i64 cl.r, .int .u8 ((ck cl.v).k), .int .i64 ((ck cl.v).n), .string ⟨((ck cl.v).t).toArray⟩]) 5 0) (b := .cells #[.int .i64 cl.c, .int .i64 cl.r, .int .u8 ((ck cl.v).k), .int .i64 ((ck cl.v).n), .string ⟨((ck cl.v).t).toArray⟩] 46 (0, 0)) (m := 1) fun cc => qs rfl cc.e (by kernel_rfl)) ?_; intro gb5 _ fw s; refine pf (aC rfl) rfl (y := nT cl) (s.g 102) (s.g 104) (s.o.thing 2 rfl) (s.o.get 0 rfl) (by omega) (fun vr2 fw2 ho hg hb => ?_); have ow := s.o.turn 2 rfl (t' := dc vr2 (acc ++ [nT cl])) ho hg (dP hb); clear ho hg hb; refine zg (s.ow ow) ?_; intro _ fw s; refine zW s (v := .pointer (some ⟨gb3, 4, none⟩)) (aE rfl (s.g 7) (by kernel_rfl)) ?_; intro _ fw s; refine lV (aC rfl) rfl (su (off := 4) rfl (s.g 106) (s.g 105) (by kernel_rfl) (s.o.box 3 rfl) (ym (s.o.row 2 rfl)) (Nat.le_of_ble_eq_true rfl)) ?_; have ow : Own w1 ((Th.obj gb5 (.cells #[.int .i64 cl.c, .int .i64 cl.r, .int .u8 ((ck cl.v).k), .int .i64 ((ck cl.v).n), .string ⟨((ck cl.v).t).toArray⟩] 46 (0, 0))) :: (Th.obj gb4 (.cells #[.int .i64 cl.c, .int .i64 cl.r, .int .u8 ((ck cl.v).k), .int .i64 ((ck cl.v).n), .string ⟨((ck cl.v).t).toArray⟩] 46 (0, 0))) :: (dc vr2 (acc ++ [nT cl])) :: (Th.obj gb3 (.cells #[.int .i64 a.x.c1, .int .i64 a.x.r1, .int .i64 a.x.c2, .int .i64 a.x.r2, vr2] 37 (0, 0))) :: (Th.obj gb1 (.cells #[.int .i64 a.x.c1, .int .i64 a.x.r1, .int .i64 a.x.c2, .int .i64 a.x.r2] 34 (0, 0))) :: (dW v L) :: (L.map cf)) _ := s.o.put 3 rfl 4 [vr2]
     have s := s.ow ow; refine aN ?_; refine aB ?_; refine tn hK11 ?_; refine zu s 2 (by exact zAn (zP Z0) i 1) ?_; intro _ fw s; refine zw s ?_; intro _ fw s; refine aN ?_; obtain ⟨A3, c3, rfl⟩ := bV (s.o.row 2 rfl); exact bg ⟨(i + 1), ⟨A3, c3, (acc ++ [nT cl]), hlti, (qX hacc hcl hstep), (s.ow s.o.tail.tail).c⟩, (show a.l.length - (i + 1) < a.l.length - i by omega)⟩
    intro hc4; have hstep := E5 hpl hc4; refine wp_skip ?_; refine aB ?_; refine tn hK11 ?_; refine zu s 2 (by exact zAn (zP Z0) i 1) ?_; intro _ fw s; refine zw s ?_; intro _ fw s; refine aN ?_; exact bg ⟨(i + 1), ⟨A2, c2, acc, hlti, (qX hacc hcl hstep), (s.ow s.o.tail).c⟩, (show a.l.length - (i + 1) < a.l.length - i by omega)⟩
   intro hc3; refine wp_exit ?_; refine aM ?_; refine aM ?_; refine aD ?_; refine tn hK9 ?_; have hg2 : eF a = (⟨true, aj, a.x, acc⟩ : Ar) := by rw [hg, hacc, List.take_of_length_le (by omega)]; rfl
   refine zu s 4 (by exact zNl (zO (zA (zP Z0) (.agg #[.int .i64 a.x.c1, .int .i64 a.x.r1, .int .i64 a.x.c2, .int .i64 a.x.r2, .slice A2 acc.length c2]) 5 1) (v := .agg #[.bool true, .int .u8 0, .int .i64 0, .string ⟨[].toArray⟩, .int .i64 a.x.c1, .int .i64 a.x.r1, .int .i64 a.x.c2, .int .i64 a.x.r2, .slice A2 acc.length c2]) fun cc => xb2 rfl rfl cc.e (by kernel_rfl)) (b := .cells #[.bool true, .int .u8 0, .int .i64 0, .string ⟨[].toArray⟩, .int .i64 a.x.c1, .int .i64 a.x.r1, .int .i64 a.x.c2, .int .i64 a.x.r2, .slice A2 acc.length c2] 39 (0, 0)) (m := 1) fun cc => qs rfl cc.e (by kernel_rfl)) ?_; intro gb6 _ fw s; refine gP (aC rfl) rfl (y := (⟨true, aj, a.x, acc⟩ : Ar)) (sy := (.slice A2 acc.length c2)) (s.g 107) (s.g 110) (s.o.thing 4 rfl) (s.o.get 0 rfl) rfl (by have := congrArg List.length hL; simp only [List.length_map, List.length_take] at this; omega) (fun vr3 fw3 ho hg hb => ?_); have ow := s.o.turn 4 rfl (t' := dW vr3 (L ++ [((⟨true, aj, a.x, acc⟩ : Ar), (.slice A2 acc.length c2))])) ho hg (dP hb); clear ho hg hb; refine zg (s.ow ow) ?_; intro _ fw s; refine zw s ?_; intro _ fw s; refine aN ?_; refine aB ?_; refine tn hK4 ?_; refine zu s 2 (by exact zAn (zP Z0) k 1) ?_; intro _ fw s; refine zw s ?_; intro _ fw s; refine aN ?_; exact bg ⟨(k + 1), ⟨vr3, (L ++ [((⟨true, aj, a.x, acc⟩ : Ar), (.slice A2 acc.length c2))]), hltk, (qZ hL ha hg2), (s.ow (oY (s := (.slice A2 acc.length c2)) (y := (⟨true, aj, a.x, acc⟩ : Ar)) (s.o.sub (List.Sublist.cons _ (List.Sublist.cons_cons _ (List.Sublist.cons _ (List.Sublist.cons _ (List.Sublist.cons_cons _ (List.Sublist.refl _))))))))).c⟩, (show m.length - (k + 1) < m.length - k by omega)⟩
  intro hc1; refine wp_exit ?_; refine aM ?_; refine aM ?_; refine aD ?_; refine tn hK2 ?_; refine zr s 2 (zP (zP Z0)) ?_; intro _ fw s; refine wp_ret ?_; refine z1 s ?_; exact ⟨v, L, rfl, by rw [hL, List.take_of_length_le (by omega), hmdef]; rfl, qP o0 s.o⟩
