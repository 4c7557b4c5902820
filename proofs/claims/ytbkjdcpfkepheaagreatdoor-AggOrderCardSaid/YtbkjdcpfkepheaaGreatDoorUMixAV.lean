/- Small texts together: GFew16, GFew16b, GFew, MFlogic, GLogic2, GLogic3, GLogic5, GLogic6, GGood, MMeans, MAgg4, MNumLaw, MNumLaw2, MAgg5, MAgg6, MAgg7, MAgg8. -/
import Derived.Test.YtbkjdcpfkepheaaGreatDoorUGRow16
import Derived.Test.YtbkjdcpfkepheaaGreatDoorUMixAL
import Derived.Test.YtbkjdcpfkepheaaGreatDoorUMixAT
import Derived.Test.YtbkjdcpfkepheaaGreatDoorUMixAN
import Derived.Test.YtbkjdcpfkepheaaGreatDoorUMixAR
set_option linter.unusedVariables false
set_option linter.unusedSimpArgs false
namespace Go.Proofs.YtbkjdcpfkepheaaGreatDoor
open Go.RowKit Lv
set_option maxRecDepth 100000
theorem en_louvrekit_CopyArea : En 60 := by intro args w; go_simp
theorem en_louvrekit_CopyCells : En 93 := by intro args w; go_simp
set_option maxHeartbeats 4000000 in
theorem copycells_nil (w : World) :
    Calls Tryz.prog 93 #[.slice none 0 0] w fun e w' => ∃ v, e = .returned v ∧ CellsNew w.heap.size [] v w' ∧ Kept w w' := by
  go_enter Tryz.func93, Tryz.ntmps93; refine sq fun hK1 => ?_
  refine ro [yV _] 1 5 rfl rfl (Own.start w) (
    aS (fun hk bs hd => xassign rfl rfl) rfl <|
    arm0) fun fa fw bs hv ap z q ow => ?_
  have s0 := bs.get 0 rfl rfl; have s2 := gv hv 0 rfl rfl; refine wt hK1 ?_; refine sq fun hK2 => ?_
  refine ro [yV _] 1 5 z q ow (
    mvS s0 rfl rfl rfl rfl <|
    arm0) fun fa fw bs hv ap z q ow => ?_
  have s2 := bg bs s2; have s3 := gv hv 0 rfl rfl; refine wl_value (v := (.slice none 0 0)) (want0 rfl) (xappendNil rfl Tryz.underlying35 (info_k _ 5 _ 48 (by kernel_rfl) rfl) rfl s3 (World.ownsRow_nil _ 0 _ 5)) ?_; refine wl_value (v := (.slice none 0 0)) (want0 rfl) (xassign rfl (put_in (t := 4) z rfl)) ?_; refine gt1 (put_size (put_size z)) (put_def (put_def q)) ow 2 (put_in (t := 2) (put_size z) rfl) fun fa fw z q ow s2 => ?_; refine wt hK2 ?_; refine wp_ret ?_; refine results_one rfl (res_tmp s2) q ?_; exact ⟨_, rfl, World.ownsRow_nil _ _ _ _, ow.kept⟩
set_option maxHeartbeats 4000000 in
theorem copycells_some (ad : Addr) (cap : Nat) (l : List Cl) (w : World) (hr : RowK 5 clV w (some ad) l) (hl : l.length ≤ 2932031007402) :
    Calls Tryz.prog 93 #[.slice (some ad) l.length cap] w fun e w' => ∃ v, e = .returned v ∧ CellsNew w.heap.size l v w' ∧ Kept w w' := by
  go_enter Tryz.func93, Tryz.ntmps93; refine sq fun hK1 => ?_
  refine ro [yV _] 1 5 rfl rfl (Own.start w) (
    aS (fun hk bs hd => xassign rfl rfl) rfl <|
    arm0) fun fa fw bs hv ap z q ow => ?_
  have s0 := bs.get 0 rfl rfl; have s2 := gv hv 0 rfl rfl; refine wt hK1 ?_; refine sq fun hK2 => ?_; have ow := ow.nil 46 5
  refine ro [yV _] 1 5 z q ow (
    mvS s0 rfl rfl rfl rfl <|
    arm0) fun fa fw bs hv ap z q ow => ?_
  have s2 := bg bs s2; have s3 := gv hv 0 rfl rfl; refine wl_appendK (want0 rfl) rfl Tryz.underlying35 (k := 5) (by_ := 48) (info_k _ _ _ _ (by kernel_rfl) rfl) (by decide) (news := (l.map clV).flatten) rfl s3 (ow.row 0 rfl) (flat_len clV_len l) (rowK_flat clV_len (hr.kept ow.kept)) flatC_one (by omega) (by simp only [maxLen]; omega) ow.kept.size (fun vr1 fw1 ho hg hb => ?_); have ow := ow.turn 0 rfl (t' := Th.row w.heap.size 46 5 vr1 (0 + l.length) ([] ++ (l.map clV).flatten)) ho hg (turn_new hb); clear ho hg hb; refine wl_value (v := vr1) (want0 rfl) (xassign rfl (put_in (t := 4) z rfl)) ?_; refine gt1 (put_size (put_size z)) (put_def (put_def q)) ow 2 (put_in (t := 2) (put_size z) rfl) fun fa fw z q ow s2 => ?_; refine wt hK2 ?_; refine wp_ret ?_; refine results_one rfl (res_tmp s2) q ?_; have ho := ow.row 0 rfl; rw [Nat.zero_add, List.nil_append] at ho; exact ⟨_, rfl, ho, ow.kept⟩
theorem copycells_any (A : Option Addr) (cap : Nat) (l : List Cl) (w : World) (hr : RowK 5 clV w A l) (hl : l.length ≤ 2932031007402) (hn : A = none → cap = 0) :
    Calls Tryz.prog 93 #[.slice A l.length cap] w fun e w' => ∃ v, e = .returned v ∧ CellsNew w.heap.size l v w' ∧ Kept w w' := by
  cases A with
  | some ad => exact copycells_some ad cap l w hr hl
  | none =>
    have h0 : l = [] := Classical.byContradiction fun c => by obtain ⟨b, off, e, _⟩ := hr.addr c; cases e
    subst h0; rw [hn rfl]; exact copycells_nil w
set_option maxHeartbeats 4000000 in
theorem copyarea_any (b : Nat) (x : Rc) (A : Option Addr) (cap : Nat) (l : List Cl) (w : World) (hr : RowK 5 clV w A l) (hl : l.length ≤ 2932031007402) (hn : A = none → cap = 0) (hb : b ≤ w.heap.size) :
    Calls Tryz.prog 60 #[.agg #[.int .i64 x.c1, .int .i64 x.r1, .int .i64 x.c2, .int .i64 x.r2, .slice A l.length cap]] w fun e w' => ∃ v, e = .returned v ∧ AreaNew b x l v w' ∧ Kept w w' := by
  go_enter Tryz.func60, Tryz.ntmps60; refine sq fun hK1 => ?_
  refine ro [yNew w.heap.size (.cells #[.int .i64 x.c1, .int .i64 x.r1, .int .i64 x.c2, .int .i64 x.r2, .slice A l.length cap] 37 (0, 0)), yNew w.heap.size (.cells #[.int .i64 0, .int .i64 0, .int .i64 0, .int .i64 0, .slice none 0 0] 37 (0, 0))] 2 8 rfl rfl (Own.start w) (
    aP (fun hk bs hd => xbox rfl (bs.get 0 rfl rfl) (by kernel_rfl)) rfl <|
    aP (fun hk bs hd => xalloc rfl (by kernel_rfl)) rfl <|
    arm0) fun fa fw bs hv ap z q ov => ?_
  obtain ⟨gb1, s1, bgb1, hgb1⟩ := gotP hv 0 rfl rfl rfl; have ov := ov.cons hgb1 (Nat.le_trans (Own.start w).kept.size bgb1) ((Own.start w).below bgb1); obtain ⟨gb2, s2, bgb2, hgb2⟩ := gotP hv 1 rfl rfl rfl; have ov := ov.cons hgb2 (Nat.le_trans (Own.start w).kept.size bgb2) (ne_cons (apartP ap 0 1 rfl rfl rfl s1 rfl s2 rfl) ((Own.start w).below bgb2)); have ow := ov; refine wt hK1 ?_; refine sq fun hK2 => ?_
  refine ro [yV (.pointer (some ⟨gb1, 4, none⟩)), yV _] 2 8 z q ow (
    aS (fun hk bs hd => xfieldAddr rfl (bg bs s1) (by kernel_rfl)) rfl <|
    aS (fun hk bs hd => xloadB rfl (by kernel_rfl) (dp hd 0 rfl) ((ow.keep hk).box 1 rfl) rfl) rfl <|
    arm0) fun fa fw bs hv ap z q ow => ?_
  obtain ⟨s1, s2⟩ := b2 bs s1 s2; have s4 := gv hv 1 rfl rfl; refine wl_enter (want0 rfl) (xcall1 (u := .slice A l.length cap) rfl s4 (en_louvrekit_CopyCells _ _)) ((copycells_any A cap l _ (hr.kept ow.kept) hl hn).mono ?_); rintro _ fw ⟨vc, rfl, oc, hk⟩; refine ⟨_, rfl, ?_⟩; rcases (rfl : (0 : Nat) = 0) with _
  have ow := cells_add ow hk oc (Nat.le_refl _); refine wl_value (v := .pointer (some ⟨gb1, 4, none⟩)) (want0 rfl) (xfieldAddr rfl (pb 5 s1 rfl) (by kernel_rfl)) ?_; refine wl_skip (want0 rfl) rfl (xstoreR (off := 4) rfl (put_in (t := 6) (put_size z) rfl) (pb 6 (put_in (t := 5) z rfl) rfl) (by kernel_rfl) (ow.box 2 rfl) (cells_one16 oc) (Nat.le_of_ble_eq_true rfl)) ?_; have ow : Own w [Th.row 0 46 5 vc l.length (l.map clV).flatten, Th.obj gb2 (.cells #[.int .i64 0, .int .i64 0, .int .i64 0, .int .i64 0, .slice none 0 0] 37 (0, 0)), Th.obj gb1 (.cells #[.int .i64 x.c1, .int .i64 x.r1, .int .i64 x.c2, .int .i64 x.r2, vc] 37 (0, 0))] _ := ow.put 2 rfl 4 [vc]; refine gt2 (put_size (put_size z)) (put_def (put_def q)) ow 1 (pb 6 (pb 5 s1 rfl) rfl) 2 (pb 6 (pb 5 s2 rfl) rfl) fun fa fw z q ow s1 s2 => ?_; refine wt hK2 ?_; refine sq fun hK3 => ?_
  refine ro [yV (.agg #[.int .i64 x.c1, .int .i64 x.r1, .int .i64 x.c2, .int .i64 x.r2, vc])] 1 8 z q ow (
    aS (fun hk bs hd => xloadN 5 rfl (by kernel_rfl) (by kernel_rfl) (bg bs s1) ((ow.keep hk).box 2 rfl) (Nat.le_of_ble_eq_true rfl) rfl) rfl <|
    arm0) fun fa fw bs hv ap z q ow => ?_
  have s2 := bg bs s2; have s7 := gv hv 0 rfl rfl; refine wl_store ow 1 0 (want0 rfl) rfl rfl s2 s7 (by kernel_rfl) rfl (one_cons (rfl) (one_cons (rfl) (one_cons (rfl) (one_cons (rfl) (one_cons (cells_one16 oc) rfl))))) rfl fun fw ow => ?_; refine wt hK3 ?_; refine wp_ret ?_; refine results_one rfl (res_cell (n := 5) _ s2 (by kernel_rfl) (by kernel_rfl) (ow.box 1 rfl) (Nat.le_of_ble_eq_true rfl) rfl) q ?_; obtain ⟨SA, SC, rfl⟩ := cellsNew_slice oc; exact ⟨_, rfl, ⟨SA, SC, rfl, row_least (ow.rowNew 0 rfl) hb⟩, ow.kept⟩
set_option maxHeartbeats 4000000 in
theorem copyargs_any (A : Option Addr) (cap : Nat) (l : List Ar) (w : World) (hr : ArgsIn w A l) (hl : l.length ≤ 900000) (hla : ∀ a ∈ l, a.l.length ≤ 2932031007402) :
    Calls Tryz.prog 29 #[.slice A l.length cap] w fun e w' => OwnArgs w l e w' := by
  go_enter Tryz.func29, Tryz.ntmps29; refine sq fun hK1 => ?_
  refine ro [yV _] 1 32 rfl rfl (Own.start w) (
    aS (fun hk bs hd => xassign rfl rfl) rfl <|
    arm0) fun fa fw bs hv ap z q ow => ?_
  have s0 := bs.get 0 rfl rfl; have s2 := gv hv 0 rfl rfl; refine wt hK1 ?_; refine sq fun hK2 => ?_
  refine ro [yV _] 1 32 z q ow (
    aS (fun hk bs hd => xassign rfl rfl) rfl <|
    arm0) fun fa fw bs hv ap z q ow => ?_
  obtain ⟨s0, s2⟩ := b2 bs s0 s2; have s3 := gv hv 0 rfl rfl; refine wt hK2 ?_; refine sq fun hK3 => ?_; refine sq fun hK4 => ?_
  refine ro [yV _] 1 32 z q ow (
    aS (fun hk bs hd => xassign rfl rfl) rfl <|
    arm0) fun fa fw bs hv ap z q ow => ?_
  obtain ⟨s0, s2, s3⟩ := b3 bs s0 s2 s3; have s4 := gv hv 0 rfl rfl; refine wt hK4 ?_; refine wp_block ?_; refine wp_loop_g (fun (k : Nat) fr u => ∃ (v : Value), ∃ (L : List (Ar × Value)), (k ≤ l.length) ∧ (L.map Prod.fst = l.take k) ∧ fr.tmps.size = 32 ∧ fr.defers = [] ∧ Own w ((argTh v L) :: (L.map cellTh)) u ∧ fr.eval (.tmp 0) = .slice A l.length cap ∧ fr.eval (.tmp 2) = .slice none 0 0 ∧ fr.eval (.tmp 3) = v ∧ fr.eval (.tmp 4) = .int .i64 (k : Int)) (fun k => l.length - k) 0 ⟨(.slice none 0 0), [], (Nat.zero_le _), (by simp), z, q, (own_args_nil ow), s0, s2, s3, s4⟩ (fun k b_ u_ hI => ?_)
  revert b_ u_; intro fa fw hI
  obtain ⟨v, L, hk0, hL, z, q, ow, s0, s2, s3, s4⟩ := hI; refine sq fun hK5 => ?_; refine sq fun hK6 => ?_
  refine ro [yV _, yV _, yV _, yV _] 4 32 z q ow (
    mvS s4 rfl rfl rfl rfl <|
    mvS s0 rfl rfl rfl rfl <|
    aS (fun hk bs hd => xlen Tryz.underlying22 rfl (dp hd 1 rfl)) rfl <|
    aS (fun hk bs hd => xlss rfl (dp hd 0 rfl) (dp hd 2 rfl)) rfl <|
    arm0) fun fa fw bs hv ap z q ow => ?_
  obtain ⟨s0, s2, s3, s4⟩ := b4 bs s0 s2 s3 s4; have s8 := gv hv 3 rfl rfl; refine wt hK6 ?_
  by_cases hc1 : (k : Int) < ((l.length : Nat) : Int)
  ·refine ct s8 ((decide_eq_true_iff).2 hc1) ?_
   refine wp_skip ?_; refine tn hK5 ?_; refine sq fun hK7 => ?_; refine wp_block ?_; have hltk : k < l.length := by omega
   obtain ⟨a, ha⟩ := at_some hltk; obtain ⟨ba, oa, A1, c1, Aa, ea, r1, l1, n1⟩ := hr.elem ha; have hal := hla a (List.mem_of_getElem? ha); obtain ⟨bz, hbz⟩ : ∃ b, b = fw.heap.size := ⟨_, rfl⟩
   refine ro [yV _, yV _, yV _, yV _, yV (.pointer (some ⟨ba, oa + k * 9, none⟩)), yV _, yV _, yV _, yV _, yV (.pointer (some ⟨ba, oa + k * 9 + 1, none⟩)), yV (aggV a.v), yV _, yV _, yV _, yV (.pointer (some ⟨ba, oa + k * 9 + 4, none⟩)), yV (.agg #[.int .i64 a.x.c1, .int .i64 a.x.r1, .int .i64 a.x.c2, .int .i64 a.x.r2, .slice A1 a.l.length c1]), yP (AreaNew bz a.x a.l) (areaNew_stays _ _ _), yP (ArNew bz a) (arNew_stays _ _), yP (ArsNew bz a) (arsNew_stays _ _)] 19 32 z q ow (
     mvS s3 rfl rfl rfl rfl <|
     mvS s0 rfl rfl rfl rfl <|
     mvS s4 rfl rfl rfl rfl <|
     aS (fun hk bs hd => xplaceK 9 Tryz.underlying22 (by kernel_rfl) rfl Aa (dp hd 1 rfl) (dp hd 2 rfl) hltk) rfl <|
     aS (fun hk bs hd => xfieldAddr rfl (dp hd 3 rfl) (by kernel_rfl)) rfl <|
     aS (fun hk bs hd => xcellK 0 rfl (by kernel_rfl) (dp hd 4 rfl) rfl (ea.kept (ow.keep hk).kept) rfl) rfl <|
     mvS s0 rfl rfl rfl rfl <|
     mvS s4 rfl rfl rfl rfl <|
     aS (fun hk bs hd => xplaceK 9 Tryz.underlying22 (by kernel_rfl) rfl Aa (dp hd 6 rfl) (dp hd 7 rfl) hltk) rfl <|
     aS (fun hk bs hd => xfieldAddr rfl (dp hd 8 rfl) (by kernel_rfl)) rfl <|
     aS (fun hk bs hd => xpartK (n := 3) 1 rfl (by kernel_rfl) (by kernel_rfl) (dp hd 9 rfl) rfl (ea.kept (ow.keep hk).kept)) rfl <|
     mvS s0 rfl rfl rfl rfl <|
     mvS s4 rfl rfl rfl rfl <|
     aS (fun hk bs hd => xplaceK 9 Tryz.underlying22 (by kernel_rfl) rfl Aa (dp hd 11 rfl) (dp hd 12 rfl) hltk) rfl <|
     aS (fun hk bs hd => xfieldAddr rfl (dp hd 13 rfl) (by kernel_rfl)) rfl <|
     aS (fun hk bs hd => xpartK (n := 5) 4 rfl (by kernel_rfl) (by kernel_rfl) (dp hd 14 rfl) rfl (ea.kept (ow.keep hk).kept)) rfl <|
     arm (fun aa ww hk bs hd => by
       have d15 := dp hd 15 rfl; exact stepX_enter (want0 rfl) (xcall1 (u := .agg #[.int .i64 a.x.c1, .int .i64 a.x.r1, .int .i64 a.x.c2, .int .i64 a.x.r2, .slice A1 a.l.length c1]) rfl (d15) (en_louvrekit_CopyArea _ _)) ((copyarea_any bz a.x A1 c1 a.l ww (r1.kept (ow.keep hk).kept) hal n1 (hbz ▸ hk.size)).mono fun _ _ ⟨_, he, hq, hk2⟩ => ⟨_, he, hq, hk2⟩) rfl
       ) <|
     arm (fun aa ww hk bs hd => by
       have d5 : aa.eval (.tmp 16) = .bool a.w := depX hd 5 rfl; have d10 : aa.eval (.tmp 21) = aggV a.v := depX hd 10 rfl; obtain ⟨SA, SC, e16, hsv⟩ := (show AreaNew bz a.x a.l (aa.eval (.tmp 27)) ww from depX hd 16 rfl); exact stepX_value (want0 rfl) (xbuild (us := #[(0, .bool a.w), (1, aggV a.v), (2, .agg #[.int .i64 a.x.c1, .int .i64 a.x.r1, .int .i64 a.x.c2, .int .i64 a.x.r2, .slice SA a.l.length SC])]) rfl (by simp only [List.map_toArray, List.map_cons, List.map_nil, d5, d10, e16]) (by kernel_rfl)) (⟨SA, SC, rfl, hsv⟩) (Kept.refl _) rfl
       ) <|
     arm (fun aa ww hk bs hd => by
       obtain ⟨SA, SC, e17, hsv⟩ := (show ArNew bz a (aa.eval (.tmp 28)) ww from depX hd 17 rfl); exact stepX_value (want0 rfl) (xbuildSlice (us := #[(0, .agg #[.bool a.w, .int .u8 a.v.k, .int .i64 a.v.n, .string ⟨a.v.t.toArray⟩, .int .i64 a.x.c1, .int .i64 a.x.r1, .int .i64 a.x.c2, .int .i64 a.x.r2, .slice SA a.l.length SC])]) (b := .cells #[.bool a.w, .int .u8 a.v.k, .int .i64 a.v.n, .string ⟨a.v.t.toArray⟩, .int .i64 a.x.c1, .int .i64 a.x.r1, .int .i64 a.x.c2, .int .i64 a.x.r2, .slice SA a.l.length SC] 39 (0, 0)) rfl (by simp only [List.map_toArray, List.map_cons, List.map_nil, e17]) (by kernel_rfl)) (⟨ww.heap.size, SA, SC, rfl, hbz ▸ hk.size, Go.heap_alloc_new _ _, row_keep hsv ((Kept.refl _).alloc _)⟩) ((Kept.refl _).alloc _) rfl
       ) <|
     arm0) fun fa fw bs hv ap z q ov => ?_
   obtain ⟨s0, s2, s3, s4⟩ := b4 bs s0 s2 s3 s4; have s11 := gv hv 0 rfl rfl; obtain ⟨gs, SA, SC, s29, hgs, hgb, hsv⟩ := (show ArsNew bz a (fa.eval (.tmp 29)) fw from gotY hv 18 rfl rfl rfl); have ov := own_cellsN ow ov hbz hsv; have ow := ov; refine wl_appendArg (want0 rfl) rfl (y := a) (sy := (.slice SA a.l.length SC)) s11 s29 (ow.thing 1 rfl) hgb rfl (by have := congrArg List.length hL; rw [List.length_map, List.length_take] at this; omega) (fun vr1 fw1 ho hg hb => ?_); have ow := ow.turn 1 rfl (t' := argTh vr1 (L ++ [(a, (.slice SA a.l.length SC))])) ho hg (turn_new hb); clear ho hg hb; refine wl_value (v := vr1) (want0 rfl) (xassign rfl (put_in (t := 30) z rfl)) ?_; refine gt4 (put_size (put_size z)) (put_def (put_def q)) ow 0 (pb 3 (pb 30 s0 rfl) rfl) 2 (pb 3 (pb 30 s2 rfl) rfl) 4 (pb 3 (pb 30 s4 rfl) rfl) 3 (put_in (t := 3) (put_size z) rfl) fun fa fw z q ow s0 s2 s4 s3 => ?_; refine wl_end ?_; refine block_n ?_; refine tn hK7 ?_
   refine ro [yV _, yV (.int .i64 ((k + 1 : Nat) : Int))] 2 32 z q ow (
     mvS s4 rfl rfl rfl rfl <|
     aS (fun hk bs hd => xadd (Or.inl rfl) rfl (dp hd 0 rfl) rfl (by omega) (by omega)) rfl <|
     arm0) fun fa fw bs hv ap z q ow => ?_
   obtain ⟨s0, s2, s4, s3⟩ := b4 bs s0 s2 s4 s3; have s10 := gv hv 1 rfl rfl; refine wl_value (v := .int .i64 ((k + 1 : Nat) : Int)) (want0 rfl) (xassign rfl s10) ?_; refine gp3 z q ow s0 s2 s3 fun fa fw z q ow s0 s2 s3 s4 => ?_; refine wl_end ?_; exact then_n ⟨(k + 1), ⟨vr1, (L ++ [(a, (.slice SA a.l.length SC))]), hltk, (by rw [List.map_append, hL, take_at ha]; rfl), z, q, (own_snoc (s := (.slice SA a.l.length SC)) (y := a) ow), s0, s2, s3, s4⟩, (show l.length - (k + 1) < l.length - k by omega)⟩
  refine cf s8 (decide_eq_true_iff) hc1 ?_; refine wp_exit ?_; refine then_e ?_; refine then_e ?_; refine block_hit ?_; refine tn hK3 ?_; refine sq fun hK8 => ?_
  refine ro [yV _, yV _] 2 32 z q ow (
    mvS s3 rfl rfl rfl rfl <|
    asD 0 rfl rfl rfl rfl rfl rfl <|
    arm0) fun fa fw bs hv ap z q ow => ?_
  have s2 := gv hv 1 rfl rfl; refine wt hK8 ?_; refine wp_ret ?_; refine results_one rfl (res_tmp s2) q ?_; exact ⟨v, L, rfl, by rw [hL, List.take_of_length_le (by omega)], ow⟩
end Go.Proofs.YtbkjdcpfkepheaaGreatDoor

namespace Go.Proofs.YtbkjdcpfkepheaaGreatDoor
open Go.RowKit Lv
set_option maxRecDepth 100000
theorem xminE {a : Act} {w : World} {o : Oper} {T : TypeId} (hT : T = 3) {x y : Operand} {ts : Array TypeId} (ho : o.op = .call { callee := .builtin .min, args := #[x, y], argTypes := ts }) (ht : o.type = T) {n m r : Nat} (hx : a.eval x = .int .i64 n) (hy : a.eval y = .int .i64 m) (hr : min n m = r) : (execOp a.eval o).run Tryz.prog w = .ok (.value (.int .i64 r)) w := by
  subst hr; exact xminN hT ho ht hx hy
theorem row_cap {w : World} {b n n' c k : Nat} {e : TypeId} {A : Option Addr} {xs : List Value} (h : w.ownsRow b e k (.slice A n c) n' xs) : n ≤ c := by
  rcases h.2 with ⟨e1, c0⟩ | ⟨g, cap, cur, hv, hg, hh, h4, r⟩
  · cases e1; exact Nat.le_refl _
  · cases hv; exact h4
theorem own_fz {w0 w : World} {T : List Th} {A : Option Addr} {j c : Nat} {l : List Cl} (h : Own w0 (cellRow (.slice A j c) l :: T) w) : Own w0 (cellRow (.slice (fz A c) j c) l :: T) w := by
  rcases (h.row 0 rfl).2 with ⟨e1, c0⟩ | ⟨g, cap, cur, hv, r⟩
  · cases e1
    exact h
  · cases hv
    rw [fz_some]; exact h
theorem few_cell {w0 w : World} {T : List Th} {v : Value} {c : List Cl} {i : Nat} {y : Cl} (h : Own w0 (cellRow v (((c.take i).map cutCl ++ c.drop i).set i (cutCl y)) :: T) w) (hy : c[i]? = some y) : Own w0 (cellRow v ((c.take (i + 1)).map cutCl ++ c.drop (i + 1)) :: T) w := by
  rw [(few_split (β := Unit) (f := cutCl) hy).2] at h; exact h
theorem few_push {w0 w : World} {B SA : Option Addr} {n cb j SC k : Nat} {L : List (Ar × Value)} {a : Ar} {s1 : Value} {c : List Cl} (h : Own w0 (cellRow (.slice SA j SC) (c.map cutCl) :: argTh (.slice B n cb) ((L.set k (cutTx a, s1)).set k (cutAr a, .slice SA j SC)) :: (L.map cellTh).eraseIdx k) w) (hcm : c.map cutCl = (cutAr a).l) (hk : k < L.length) : Own w0 (argTh (.slice B n cb) (L.set k (cutAr a, .slice SA j SC)) :: (L.set k (cutAr a, .slice SA j SC)).map cellTh) w := by
  rw [List.set_set, hcm] at h; exact own_push (p := (cutAr a, .slice SA j SC)) h hk
theorem en_louvrekit_CopyArgs : En 29 := by intro args w; go_simp
set_option maxHeartbeats 4000000 in
theorem few16_own (A : Option Addr) (cap : Nat) (l : List Ar) (w : World) (hr : ArgsIn w A l) (hc : l.length ≤ cap) (hw : ∀ a ∈ l, a.l.length ≤ 2932031007402) :
    Calls Tryz.prog 10 #[.slice A l.length cap] w fun e w' => OwnArgs w (few16 l) e w' := by
  obtain ⟨m, hmdef⟩ : ∃ m, m = l.take 20 := ⟨_, rfl⟩; have hm : ArgsIn w A m := by rw [hmdef]; exact hr.take 20
  have hmn : m.length = min l.length 20 := by rw [hmdef, List.length_take, Nat.min_comm]
  have hml : m.length ≤ 900000 := by omega
  have hma : ∀ a ∈ m, a.l.length ≤ 2932031007402 := fun a h => hw a (by rw [hmdef] at h; exact List.mem_of_mem_take h); have hncap : m.length ≤ cap := by omega
  go_enter Tryz.func10, Tryz.ntmps10; refine sq fun hK1 => ?_
  refine ro [yV _] 1 87 rfl rfl (Own.start w) (
    aS (fun hk bs hd => xassign rfl rfl) rfl <|
    arm0) fun fa fw bs hv ap z q ow => ?_
  have s0 := bs.get 0 rfl rfl; have s2 := gv hv 0 rfl rfl; refine wt hK1 ?_; refine sq fun hK2 => ?_
  refine ro [yV _, yV _, yV _, yV _, yV _] 5 87 z q ow (
    mvS s0 rfl rfl rfl rfl <|
    mvS s0 rfl rfl rfl rfl <|
    aS (fun hk bs hd => xlen Tryz.underlying22 rfl (dp hd 1 rfl)) rfl <|
    aS (fun hk bs hd => xminE rfl rfl rfl (n := (l.length)) (m := 20) (dp hd 2 rfl) rfl hmn.symm) rfl <|
    aS (fun hk bs hd => xsliceToK (s := 9) Tryz.underlying22 (by kernel_rfl) rfl (dp hd 0 rfl) (dp hd 3 rfl) hncap) rfl <|
    arm0) fun fa fw bs hv ap z q ow => ?_
  have s2 := bg bs s2; have s11 := gv hv 4 rfl rfl; refine wl_enter (want0 rfl) (xcall1 (u := .slice (fz A cap) m.length cap) rfl s11 (en_louvrekit_CopyArgs _ _)) ((copyargs_any (fz A cap) cap m _ ((hm.kept ow.kept).fz cap) hml hma).mono ?_); rintro _ fw ⟨vc, L0, rfl, hL0, oc⟩; refine ⟨_, rfl, ?_⟩; rcases (rfl : (0 : Nat) = 0) with _
  have ow := own_join0 ow oc; obtain ⟨B, cb, rfl⟩ : ∃ B c, vc = .slice B m.length c := by obtain ⟨B, c, e⟩ := row_slice (ow.row 0 rfl); exact ⟨B, c, by rw [e, show L0.length = m.length by rw [← hL0, List.length_map]]⟩
  refine wl_value (v := .slice B m.length cb) (want0 rfl) (xassign rfl (put_in (t := 12) z rfl)) ?_; refine gt2 (put_size (put_size z)) (put_def (put_def q)) ow 2 (pb 3 (pb 12 s2 rfl) rfl) 3 (put_in (t := 3) (put_size z) rfl) fun fa fw z q ow s2 s3 => ?_; refine wt hK2 ?_; refine sq fun hK3 => ?_; refine sq fun hK4 => ?_
  refine ro [yV _] 1 87 z q ow (
    aS (fun hk bs hd => xassign rfl rfl) rfl <|
    arm0) fun fa fw bs hv ap z q ow => ?_
  obtain ⟨s2, s3⟩ := b2 bs s2 s3; have s4 := gv hv 0 rfl rfl; refine wt hK4 ?_; refine wp_block ?_; refine wp_loop_g (fun (k : Nat) fr u => ∃ (L : List (Ar × Value)), (k ≤ m.length) ∧ (L.map Prod.fst = (m.take k).map cutAr ++ m.drop k) ∧ fr.tmps.size = 87 ∧ fr.defers = [] ∧ Own w ((argTh (.slice B m.length cb) L) :: (L.map cellTh)) u ∧ fr.eval (.tmp 2) = .slice none 0 0 ∧ fr.eval (.tmp 3) = .slice B m.length cb ∧ fr.eval (.tmp 4) = .int .i64 (k : Int)) (fun k => m.length - k) 0 ⟨L0, (Nat.zero_le _), (by simpa using hL0), z, q, ow, s2, s3, s4⟩ (fun k b_ u_ hI => ?_)
  revert b_ u_; intro fa fw hI
  obtain ⟨L, hk0, hL, z, q, ow, s2, s3, s4⟩ := hI; refine sq fun hK5 => ?_; refine sq fun hK6 => ?_
  refine ro [yV _, yV _, yV _, yV _] 4 87 z q ow (
    mvS s4 rfl rfl rfl rfl <|
    mvS s3 rfl rfl rfl rfl <|
    aS (fun hk bs hd => xlen Tryz.underlying22 rfl (dp hd 1 rfl)) rfl <|
    aS (fun hk bs hd => xlss rfl (dp hd 0 rfl) (dp hd 2 rfl)) rfl <|
    arm0) fun fa fw bs hv ap z q ow => ?_
  obtain ⟨s2, s3, s4⟩ := b3 bs s2 s3 s4; have s16 := gv hv 3 rfl rfl; refine wt hK6 ?_
  by_cases hc1 : (k : Int) < ((m.length : Nat) : Int)
  ·refine ct s16 ((decide_eq_true_iff).2 hc1) ?_
   refine wp_skip ?_; refine tn hK5 ?_; refine sq fun hK7 => ?_; refine wp_block ?_; refine sq fun hK8 => ?_; have hltk : k < m.length := by omega
   obtain ⟨a, ha⟩ := at_some hltk; obtain ⟨sa, hLk⟩ := few_at hL ha; obtain ⟨SA, SC, rfl⟩ : ∃ A c, sa = .slice A a.l.length c := row_slice (ow.has _ (List.mem_cons_of_mem _ (List.mem_map_of_mem (List.mem_of_getElem? hLk)))); have hkL := (List.getElem?_eq_some_iff.1 hLk).1; obtain ⟨g, hB, hmlen, hcb⟩ := own_at (ow.row 0 rfl) (by omega); have ea := own_elem argE_len hB (ow.row 0 rfl) hLk
   refine ro [yV _, yV _, yV _, yV _, yV _, yV (.pointer (some ⟨g, 0 + k * 9 + 1, none⟩)), yV (.pointer (some ⟨g, 0 + k * 9 + 1 + 2, none⟩)), yV _, yV _, yV _, yV _, yV (.pointer (some ⟨g, 0 + k * 9 + 1, none⟩)), yV (.pointer (some ⟨g, 0 + k * 9 + 1 + 2, none⟩)), yV _, yV _, yV _, yV _] 17 87 z q ow (
     mvS s3 rfl rfl rfl rfl <|
     mvS s4 rfl rfl rfl rfl <|
     mvS s3 rfl rfl rfl rfl <|
     mvS s4 rfl rfl rfl rfl <|
     aS (fun hk bs hd => xplaceK 9 Tryz.underlying22 (by kernel_rfl) rfl hB (dp hd 2 rfl) (dp hd 3 rfl) hltk) rfl <|
     aS (fun hk bs hd => xfieldAddr rfl (dp hd 4 rfl) (by kernel_rfl)) rfl <|
     aS (fun hk bs hd => xfieldAddr rfl (dp hd 5 rfl) (by kernel_rfl)) rfl <|
     aS (fun hk bs hd => xcellK 3 rfl (by kernel_rfl) (dp hd 6 rfl) rfl (ea.kept hk) rfl) rfl <|
     mvS s3 rfl rfl rfl rfl <|
     mvS s4 rfl rfl rfl rfl <|
     aS (fun hk bs hd => xplaceK 9 Tryz.underlying22 (by kernel_rfl) rfl hB (dp hd 8 rfl) (dp hd 9 rfl) hltk) rfl <|
     aS (fun hk bs hd => xfieldAddr rfl (dp hd 10 rfl) (by kernel_rfl)) rfl <|
     aS (fun hk bs hd => xfieldAddr rfl (dp hd 11 rfl) (by kernel_rfl)) rfl <|
     aS (fun hk bs hd => xcellK 3 rfl (by kernel_rfl) (dp hd 12 rfl) rfl (ea.kept hk) rfl) rfl <|
     aS (fun hk bs hd => xlenS Tryz.underlying9 rfl (dp hd 13 rfl)) rfl <|
     aS (fun hk bs hd => xminE rfl rfl rfl (n := (a.v.t.length)) (m := 300) (dp hd 14 rfl) rfl rfl) rfl <|
     aS (fun hk bs hd => xslice (u := .string ⟨a.v.t.toArray⟩) (l := none) (h := some (.int .i64 ((min a.v.t.length 300) : Nat))) (m := none) rfl (dp hd 7 rfl) rfl (congrArg some ((dp hd 15 rfl).trans (congrArg (Value.int .i64) rfl))) rfl (run_sliceTo Tryz.underlying9 a.v.t (min a.v.t.length 300) (Nat.min_le_left _ _))) rfl <|
     arm0) fun fa fw bs hv ap z q ow => ?_
   obtain ⟨s2, s3, s4⟩ := b3 bs s2 s3 s4; have s19 := gv hv 0 rfl rfl; have s20 := gv hv 1 rfl rfl; have s35 := gv hv 16 rfl rfl; refine wl_value (v := .pointer (some ⟨g, 0 + k * 9, none⟩)) (want0 rfl) (xplaceK 9 Tryz.underlying22 (by kernel_rfl) rfl hB s19 s20 hltk) ?_; refine wl_value (v := .pointer (some ⟨g, 0 + k * 9 + 1, none⟩)) (want0 rfl) (xfieldAddr rfl (put_in (t := 36) z rfl) (by kernel_rfl)) ?_; refine wl_value (v := .pointer (some ⟨g, 0 + k * 9 + 1 + 2, none⟩)) (want0 rfl) (xfieldAddr rfl (put_in (t := 37) (put_size z) rfl) (by kernel_rfl)) ?_; refine wl_argText ow (want0 rfl) rfl rfl (put_in (t := 38) (put_size (put_size z)) rfl) (by omega) (pb 38 (pb 37 (pb 36 s35 rfl) rfl) rfl) hB hLk (fun fw1 ofw1 => ?_); have ow : Own w ((argTh (.slice B m.length cb) (L.set k (cutTx a, .slice SA a.l.length SC))) :: (L.map cellTh)) _ := ofw1; refine gt3 (put_size (put_size (put_size z))) (put_def (put_def (put_def q))) ow 2 (pb 38 (pb 37 (pb 36 s2 rfl) rfl) rfl) 3 (pb 38 (pb 37 (pb 36 s3 rfl) rfl) rfl) 4 (pb 38 (pb 37 (pb 36 s4 rfl) rfl) rfl) fun fa fw z q ow s2 s3 s4 => ?_; refine wt hK8 ?_; refine sq fun hK9 => ?_; have eb := own_elem argE_len hB (ow.row 0 rfl) (set_at (y := (cutTx a, .slice SA a.l.length SC)) hLk); obtain ⟨j, hj⟩ : ∃ j, j = min a.l.length 60 := ⟨_, rfl⟩; have hjc : j ≤ SC := by obtain h := row_cap (ow.has _ (List.mem_cons_of_mem _ (List.mem_map_of_mem (List.mem_of_getElem? hLk)))); omega
   refine ro [yV _, yV _, yV _, yV (.pointer (some ⟨g, 0 + k * 9 + 4, none⟩)), yV (.pointer (some ⟨g, 0 + k * 9 + 4 + 4, none⟩)), yV _, yV _, yV _, yV _, yV (.pointer (some ⟨g, 0 + k * 9 + 4, none⟩)), yV (.pointer (some ⟨g, 0 + k * 9 + 4 + 4, none⟩)), yV _, yV _, yV _, yV _] 15 87 z q ow (
     mvS s3 rfl rfl rfl rfl <|
     mvS s4 rfl rfl rfl rfl <|
     aS (fun hk bs hd => xplaceK 9 Tryz.underlying22 (by kernel_rfl) rfl hB (dp hd 0 rfl) (dp hd 1 rfl) hltk) rfl <|
     aS (fun hk bs hd => xfieldAddr rfl (dp hd 2 rfl) (by kernel_rfl)) rfl <|
     aS (fun hk bs hd => xfieldAddr rfl (dp hd 3 rfl) (by kernel_rfl)) rfl <|
     aS (fun hk bs hd => xcellK 8 rfl (by kernel_rfl) (dp hd 4 rfl) rfl (eb.kept hk) rfl) rfl <|
     mvS s3 rfl rfl rfl rfl <|
     mvS s4 rfl rfl rfl rfl <|
     aS (fun hk bs hd => xplaceK 9 Tryz.underlying22 (by kernel_rfl) rfl hB (dp hd 6 rfl) (dp hd 7 rfl) hltk) rfl <|
     aS (fun hk bs hd => xfieldAddr rfl (dp hd 8 rfl) (by kernel_rfl)) rfl <|
     aS (fun hk bs hd => xfieldAddr rfl (dp hd 9 rfl) (by kernel_rfl)) rfl <|
     aS (fun hk bs hd => xcellK 8 rfl (by kernel_rfl) (dp hd 10 rfl) rfl (eb.kept hk) rfl) rfl <|
     aS (fun hk bs hd => xlen Tryz.underlying35 rfl (dp hd 11 rfl)) rfl <|
     aS (fun hk bs hd => xminE rfl rfl rfl (n := (a.l.length)) (m := 60) (dp hd 12 rfl) rfl hj.symm) rfl <|
     aS (fun hk bs hd => xsliceToK (s := 5) Tryz.underlying35 (by kernel_rfl) rfl (dp hd 5 rfl) (dp hd 13 rfl) hjc) rfl <|
     arm0) fun fa fw bs hv ap z q ow => ?_
   obtain ⟨s2, s3, s4⟩ := b3 bs s2 s3 s4; have s53 := gv hv 14 rfl rfl; refine wl_value (v := .slice (fz SA SC) j SC) (want0 rfl) (xassign rfl s53) ?_; refine gp3 z q ow s2 s3 s4 fun fa fw z q ow s2 s3 s4 s5 => ?_; refine wt hK9 ?_; refine sq fun hK10 => ?_; refine sq fun hK11 => ?_; obtain ⟨c, hcdef⟩ : ∃ c, c = a.l.take 60 := ⟨_, rfl⟩; have hcl : c.length = j := by rw [hcdef, List.length_take]; omega
   have ow := own_fz (own_cut (own_pull ow hLk) hj); rw [← hcdef] at ow
   refine ro [yV _] 1 87 z q ow (
     aS (fun hk bs hd => xassign rfl rfl) rfl <|
     arm0) fun fa fw bs hv ap z q ow => ?_
   obtain ⟨s2, s3, s4, s5⟩ := b4 bs s2 s3 s4 s5; have s6 := gv hv 0 rfl rfl; refine wt hK11 ?_; refine wp_block ?_; refine wp_loop_g (fun (i : Nat) fr u => (i ≤ j) ∧ fr.tmps.size = 87 ∧ fr.defers = [] ∧ Own w ((cellRow (.slice (fz SA SC) j SC) ((c.take i).map cutCl ++ c.drop i)) :: (argTh (.slice B m.length cb) (L.set k (cutTx a, .slice SA a.l.length SC))) :: ((L.map cellTh).eraseIdx k)) u ∧ fr.eval (.tmp 2) = .slice none 0 0 ∧ fr.eval (.tmp 3) = .slice B m.length cb ∧ fr.eval (.tmp 4) = .int .i64 (k : Int) ∧ fr.eval (.tmp 5) = .slice (fz SA SC) j SC ∧ fr.eval (.tmp 6) = .int .i64 (i : Int)) (fun i => j - i) 0 ⟨(Nat.zero_le _), z, q, ow, s2, s3, s4, s5, s6⟩ (fun i b_ u_ hI => ?_)
   revert b_ u_; intro fa fw hI
   obtain ⟨hi0, z, q, ow, s2, s3, s4, s5, s6⟩ := hI; refine sq fun hK12 => ?_; refine sq fun hK13 => ?_
   refine ro [yV _, yV _, yV _, yV _] 4 87 z q ow (
     mvS s6 rfl rfl rfl rfl <|
     mvS s5 rfl rfl rfl rfl <|
     aS (fun hk bs hd => xlen Tryz.underlying35 rfl (dp hd 1 rfl)) rfl <|
     aS (fun hk bs hd => xlss rfl (dp hd 0 rfl) (dp hd 2 rfl)) rfl <|
     arm0) fun fa fw bs hv ap z q ow => ?_
   obtain ⟨s2, s3, s4, s5, s6⟩ := b5 bs s2 s3 s4 s5 s6; have s57 := gv hv 3 rfl rfl; refine wt hK13 ?_
   by_cases hc2 : (i : Int) < ((j : Nat) : Int)
   ·refine ct s57 ((decide_eq_true_iff).2 hc2) ?_
    refine wp_skip ?_; refine tn hK12 ?_; refine sq fun hK14 => ?_; refine wp_block ?_; have hlti : i < j := by omega
    obtain ⟨y, hy⟩ := at_some (l := c) (i := i) (by omega); have hci := (few_split (β := Unit) (f := cutCl) hy).1; obtain ⟨gc, hC, _, hcc⟩ := own_at (ow.row 0 rfl) (Nat.lt_of_le_of_lt (Nat.zero_le _) (List.getElem?_eq_some_iff.1 hci).1); have ec := own_elem clV_len hC (ow.row 0 rfl) hci
    refine ro [yV _, yV _, yV _, yV _, yV _, yV (.pointer (some ⟨gc, 0 + i * 5 + 2, none⟩)), yV (.pointer (some ⟨gc, 0 + i * 5 + 2 + 2, none⟩)), yV _, yV _, yV _, yV _, yV (.pointer (some ⟨gc, 0 + i * 5 + 2, none⟩)), yV (.pointer (some ⟨gc, 0 + i * 5 + 2 + 2, none⟩)), yV _, yV _, yV _, yV _] 17 87 z q ow (
      mvS s5 rfl rfl rfl rfl <|
      mvS s6 rfl rfl rfl rfl <|
      mvS s5 rfl rfl rfl rfl <|
      mvS s6 rfl rfl rfl rfl <|
      aS (fun hk bs hd => xplaceK 5 Tryz.underlying35 (by kernel_rfl) rfl hC (dp hd 2 rfl) (dp hd 3 rfl) hlti) rfl <|
      aS (fun hk bs hd => xfieldAddr rfl (dp hd 4 rfl) (by kernel_rfl)) rfl <|
      aS (fun hk bs hd => xfieldAddr rfl (dp hd 5 rfl) (by kernel_rfl)) rfl <|
      aS (fun hk bs hd => xcellK 4 rfl (by kernel_rfl) (dp hd 6 rfl) rfl (ec.kept hk) rfl) rfl <|
      mvS s5 rfl rfl rfl rfl <|
      mvS s6 rfl rfl rfl rfl <|
      aS (fun hk bs hd => xplaceK 5 Tryz.underlying35 (by kernel_rfl) rfl hC (dp hd 8 rfl) (dp hd 9 rfl) hlti) rfl <|
      aS (fun hk bs hd => xfieldAddr rfl (dp hd 10 rfl) (by kernel_rfl)) rfl <|
      aS (fun hk bs hd => xfieldAddr rfl (dp hd 11 rfl) (by kernel_rfl)) rfl <|
      aS (fun hk bs hd => xcellK 4 rfl (by kernel_rfl) (dp hd 12 rfl) rfl (ec.kept hk) rfl) rfl <|
      aS (fun hk bs hd => xlenS Tryz.underlying9 rfl (dp hd 13 rfl)) rfl <|
      aS (fun hk bs hd => xminE rfl rfl rfl (n := (y.v.t.length)) (m := 300) (dp hd 14 rfl) rfl rfl) rfl <|
      aS (fun hk bs hd => xslice (u := .string ⟨y.v.t.toArray⟩) (l := none) (h := some (.int .i64 ((min y.v.t.length 300) : Nat))) (m := none) rfl (dp hd 7 rfl) rfl (congrArg some ((dp hd 15 rfl).trans (congrArg (Value.int .i64) rfl))) rfl (run_sliceTo Tryz.underlying9 y.v.t (min y.v.t.length 300) (Nat.min_le_left _ _))) rfl <|
      arm0) fun fa fw bs hv ap z q ow => ?_
    obtain ⟨s2, s3, s4, s5, s6⟩ := b5 bs s2 s3 s4 s5 s6; have s60 := gv hv 0 rfl rfl; have s61 := gv hv 1 rfl rfl; have s76 := gv hv 16 rfl rfl; refine wl_value (v := .pointer (some ⟨gc, 0 + i * 5, none⟩)) (want0 rfl) (xplaceK 5 Tryz.underlying35 (by kernel_rfl) rfl hC s60 s61 hlti) ?_; refine wl_value (v := .pointer (some ⟨gc, 0 + i * 5 + 2, none⟩)) (want0 rfl) (xfieldAddr rfl (put_in (t := 77) z rfl) (by kernel_rfl)) ?_; refine wl_value (v := .pointer (some ⟨gc, 0 + i * 5 + 2 + 2, none⟩)) (want0 rfl) (xfieldAddr rfl (put_in (t := 78) (put_size z) rfl) (by kernel_rfl)) ?_; refine wl_cellText ow (want0 rfl) rfl rfl (put_in (t := 79) (put_size (put_size z)) rfl) (by omega) (pb 79 (pb 78 (pb 77 s76 rfl) rfl) rfl) hC hci (fun fw2 ofw2 => ?_); have ow : Own w ((cellRow (.slice (fz SA SC) j SC) (((c.take i).map cutCl ++ c.drop i).set i (cutCl y))) :: (argTh (.slice B m.length cb) (L.set k (cutTx a, .slice SA a.l.length SC))) :: ((L.map cellTh).eraseIdx k)) _ := ofw2; refine gt5 (put_size (put_size (put_size z))) (put_def (put_def (put_def q))) ow 2 (pb 79 (pb 78 (pb 77 s2 rfl) rfl) rfl) 3 (pb 79 (pb 78 (pb 77 s3 rfl) rfl) rfl) 4 (pb 79 (pb 78 (pb 77 s4 rfl) rfl) rfl) 5 (pb 79 (pb 78 (pb 77 s5 rfl) rfl) rfl) 6 (pb 79 (pb 78 (pb 77 s6 rfl) rfl) rfl) fun fa fw z q ow s2 s3 s4 s5 s6 => ?_; refine wl_end ?_; refine block_n ?_; refine tn hK14 ?_
    refine ro [yV _, yV (.int .i64 ((i + 1 : Nat) : Int))] 2 87 z q ow (
      mvS s6 rfl rfl rfl rfl <|
      aS (fun hk bs hd => xadd (Or.inl rfl) rfl (dp hd 0 rfl) rfl (by omega) (by omega)) rfl <|
      arm0) fun fa fw bs hv ap z q ow => ?_
    obtain ⟨s2, s3, s4, s5, s6⟩ := b5 bs s2 s3 s4 s5 s6; have s59 := gv hv 1 rfl rfl; refine wl_value (v := .int .i64 ((i + 1 : Nat) : Int)) (want0 rfl) (xassign rfl s59) ?_; refine gp4 z q ow s2 s3 s4 s5 fun fa fw z q ow s2 s3 s4 s5 s6 => ?_; refine wl_end ?_; exact then_n ⟨(i + 1), ⟨hlti, z, q, (few_cell ow hy), s2, s3, s4, s5, s6⟩, (show j - (i + 1) < j - i by omega)⟩
   refine cf s57 (decide_eq_true_iff) hc2 ?_; refine wp_exit ?_; refine then_e ?_; refine then_e ?_; refine block_hit ?_; refine tn hK10 ?_; have ow := ow; rw [few_end (f := cutCl) (by omega)] at ow; have hcm : c.map cutCl = (cutAr a).l := by rw [hcdef]; rfl
   refine ro [yV _, yV _, yV _, yV _, yV (.pointer (some ⟨g, 0 + k * 9 + 4, none⟩)), yV (.pointer (some ⟨g, 0 + k * 9 + 4 + 4, none⟩))] 6 87 z q ow (
     mvS s3 rfl rfl rfl rfl <|
     mvS s4 rfl rfl rfl rfl <|
     mvS s5 rfl rfl rfl rfl <|
     aS (fun hk bs hd => xplaceK 9 Tryz.underlying22 (by kernel_rfl) rfl hB (dp hd 0 rfl) (dp hd 1 rfl) hltk) rfl <|
     aS (fun hk bs hd => xfieldAddr rfl (dp hd 3 rfl) (by kernel_rfl)) rfl <|
     aS (fun hk bs hd => xfieldAddr rfl (dp hd 4 rfl) (by kernel_rfl)) rfl <|
     arm0) fun fa fw bs hv ap z q ow => ?_
   obtain ⟨s2, s3, s4⟩ := b3 bs s2 s3 s4; have s82 := gv hv 2 rfl rfl; have s85 := gv hv 5 rfl rfl; refine wl_argSlice ow (want0 rfl) rfl rfl s85 (by omega) s82 rfl hB (set_at hLk) (z := cutAr a) rfl (fun fw3 ofw3 => ?_); have ow : Own w ((cellRow (.slice (fz SA SC) j SC) (c.map cutCl)) :: (argTh (.slice B m.length cb) ((L.set k (cutTx a, .slice SA a.l.length SC)).set k (cutAr a, .slice (fz SA SC) j SC))) :: ((L.map cellTh).eraseIdx k)) _ := ofw3; refine gt3 z q ow 2 s2 3 s3 4 s4 fun fa fw z q ow s2 s3 s4 => ?_; refine wl_end ?_; refine block_n ?_; refine tn hK7 ?_
   refine ro [yV _, yV (.int .i64 ((k + 1 : Nat) : Int))] 2 87 z q ow (
     mvS s4 rfl rfl rfl rfl <|
     aS (fun hk bs hd => xadd (Or.inl rfl) rfl (dp hd 0 rfl) rfl (by omega) (by omega)) rfl <|
     arm0) fun fa fw bs hv ap z q ow => ?_
   obtain ⟨s2, s3, s4⟩ := b3 bs s2 s3 s4; have s18 := gv hv 1 rfl rfl; refine wl_value (v := .int .i64 ((k + 1 : Nat) : Int)) (want0 rfl) (xassign rfl s18) ?_; refine gp2 z q ow s2 s3 fun fa fw z q ow s2 s3 s4 => ?_; refine wl_end ?_; exact then_n ⟨(k + 1), ⟨(L.set k (cutAr a, .slice (fz SA SC) j SC)), hltk, (few_step hL ha), z, q, (few_push ow hcm hkL), s2, s3, s4⟩, (show m.length - (k + 1) < m.length - k by omega)⟩
  refine cf s16 (decide_eq_true_iff) hc1 ?_; refine wp_exit ?_; refine then_e ?_; refine then_e ?_; refine block_hit ?_; refine tn hK3 ?_; refine sq fun hK15 => ?_
  refine ro [yV _, yV _] 2 87 z q ow (
    mvS s3 rfl rfl rfl rfl <|
    asD 0 rfl rfl rfl rfl rfl rfl <|
    arm0) fun fa fw bs hv ap z q ow => ?_
  have s2 := gv hv 1 rfl rfl; refine wt hK15 ?_; refine wp_ret ?_; refine results_one rfl (res_tmp s2) q ?_; exact ⟨_, L, rfl, by rw [hL, few_end (by omega), hmdef]; rfl, ow⟩
end Go.Proofs.YtbkjdcpfkepheaaGreatDoor

namespace Go.Proofs.YtbkjdcpfkepheaaGreatDoor
open Go.RowKit Lv
theorem OwnV.at_ {w : World} {base n cap : Nat} {A : Option Addr} {l : List Vl} (h : OwnV w base (.slice A n cap) l) {i : Nat} (hi : i < l.length) :
    ∃ g, A = some ⟨g, 0, none⟩ ∧ base ≤ g ∧ g < w.heap.size ∧ n = l.length ∧ n ≤ cap ∧ w.cell? ⟨g, i * 3, none⟩ = some (.int .u8 (l.getD i blankV).k) ∧ w.cell? ⟨g, i * 3 + 1, none⟩ = some (.int .i64 (l.getD i blankV).n) ∧ w.cell? ⟨g, i * 3 + 2, none⟩ = some (.string ⟨(l.getD i blankV).t.toArray⟩) ∧ ∀ o, w.frozen? ⟨g, o, none⟩ = false := by
  rcases h.2 with ⟨_, h0⟩ | ⟨g, cap', cur, e, hg, hh, h4, h5, h6, h7⟩
  · omega
  · cases e
    have hr := RowV.box (t := 25) (cs := cur) hh h7 i hi; obtain ⟨b, off, e, _, c0, c1, c2⟩ := hr
    cases e
    rw [Nat.zero_add] at c0 c1 c2; exact ⟨g, rfl, hg, (Array.getElem?_eq_some_iff.1 hh).1, rfl, h4, c0, c1, c2, fun o => Box.loose (t := 25) (cs := cur) hh o⟩
end Go.Proofs.YtbkjdcpfkepheaaGreatDoor

namespace Go.Proofs.YtbkjdcpfkepheaaGreatDoor.Lv
open Go
end Go.Proofs.YtbkjdcpfkepheaaGreatDoor.Lv

namespace Go.Proofs.YtbkjdcpfkepheaaGreatDoor
open Go.RowKit Lv
theorem Box.three {w : World} {p : Nat} {a : Vl} (h : Box w p 25 (cellsV a)) : p < w.heap.size ∧ w.cell? ⟨p, 0, none⟩ = some (.int .u8 a.k) ∧ w.cell? ⟨p, 1, none⟩ = some (.int .i64 a.n) ∧ w.cell? ⟨p, 2, none⟩ = some (.string ⟨a.t.toArray⟩) ∧ w.frozen? ⟨p, 0, none⟩ = false ∧ w.frozen? ⟨p, 1, none⟩ = false ∧ w.frozen? ⟨p, 2, none⟩ = false :=
  ⟨h.inside, h.cell 0, h.cell 1, h.cell 2, h.loose 0, h.loose 1, h.loose 2⟩
theorem Box.cells3 {w : World} {p : Nat} {T : TypeId} {a b c : Value} (h : Box w p T #[a, b, c]) : w.cell? ⟨p, 0, none⟩ = some a ∧ w.cell? ⟨p, 1, none⟩ = some b ∧ w.cell? ⟨p, 2, none⟩ = some c := ⟨h.cell 0, h.cell 1, h.cell 2⟩
end Go.Proofs.YtbkjdcpfkepheaaGreatDoor

namespace Go.Proofs.YtbkjdcpfkepheaaGreatDoor
open Go.RowKit Lv
theorem ret_world {P : Program} {f : Func} {R : Ending → World → Prop} {x : Exit} {a : Act} {W : World} (F : World → Prop) (hF : F W) (h : ∀ wf, F wf → bodyPost P f R x a wf) : bodyPost P f R x a W := h W hF
structure Tri (w : World) (p : Nat) (a b c : Vl) : Prop where
  A : Box w p 25 (cellsV a)
  B : Box w (p + 1) 25 (cellsV b)
  C : Box w (p + 1 + 1) 25 (cellsV c)
theorem Tri.kept {w w' : World} {p : Nat} {a b c : Vl} (h : Tri w p a b c) (k : Kept w w') : Tri w' p a b c := ⟨h.A.kept k, h.B.kept k, h.C.kept k⟩
theorem Tri.made (w : World) (a b c : Vl) : Tri (((w.alloc (.cells (cellsV a) 25)).alloc (.cells (cellsV b) 25)).alloc (.cells (cellsV c) 25)) w.heap.size a b c :=
  ⟨((Box.new w _ _).alloc _).alloc _, (Box.newAt (by simp) _ _).alloc _, Box.newAt (by simp) _ _⟩
theorem Tri.far {w : World} {p g : Nat} {a b c : Vl} (h : Tri w p a b c) (hg : p + 1 + 1 < g) (x y z : Value) : Tri (((w.setCell ⟨g, 0, none⟩ x).setCell ⟨g, 1, none⟩ y).setCell ⟨g, 2, none⟩ z) p a b c := ⟨Box.far3 h.A (by omega), Box.far3 h.B (by omega), Box.far3 h.C (by omega)⟩
theorem Tri.inside {w : World} {p : Nat} {a b c : Vl} (h : Tri w p a b c) : p + 1 + 1 < w.heap.size := h.C.inside
end Go.Proofs.YtbkjdcpfkepheaaGreatDoor

namespace Go.Proofs.YtbkjdcpfkepheaaGreatDoor
open Go.RowKit Lv
end Go.Proofs.YtbkjdcpfkepheaaGreatDoor

namespace Go.Proofs.YtbkjdcpfkepheaaGreatDoor
open Go.RowKit Lv
theorem RowV.head {w : World} {b off : Nat} {a : Vl} {r : List Vl} (h : RowV w (some ⟨b, off, none⟩) (a :: r)) : b < w.heap.size ∧ w.cell? ⟨b, off, none⟩ = some (.int .u8 a.k) ∧ w.cell? ⟨b, off + 1, none⟩ = some (.int .i64 a.n) ∧ w.cell? ⟨b, off + 2, none⟩ = some (.string ⟨a.t.toArray⟩) := by
  obtain ⟨b', off', e, hb, x0, x1, x2⟩ := h 0 (by simp)
  cases e
  simp only [Nat.zero_mul, Nat.add_zero, List.getD_cons_zero] at x0 x1 x2
  exact ⟨hb, x0, x1, x2⟩
theorem RowV.second {w : World} {b off : Nat} {a c : Vl} {r : List Vl} (h : RowV w (some ⟨b, off, none⟩) (a :: c :: r)) : w.cell? ⟨b, off + 3, none⟩ = some (.int .u8 c.k) ∧ w.cell? ⟨b, off + 3 + 1, none⟩ = some (.int .i64 c.n) ∧ w.cell? ⟨b, off + 3 + 2, none⟩ = some (.string ⟨c.t.toArray⟩) := by
  obtain ⟨b', off', e, hb, x0, x1, x2⟩ := h 1 (by simp)
  cases e
  exact ⟨x0, x1, x2⟩
end Go.Proofs.YtbkjdcpfkepheaaGreatDoor

namespace Go.Proofs.YtbkjdcpfkepheaaGreatDoor
open Go.RowKit Lv
theorem cut_text (t : List UInt8) {j : Nat} (hj : min (t.length : Int) 300 = (j : Int)) : (ByteArray.mk t.toArray).extract 0 j = ⟨(t.take 300).toArray⟩ := by
  rw [ba_extract, List.drop_zero]
  congr 2
  by_cases c : t.length ≤ 300
  · rw [List.take_of_length_le (by omega), List.take_of_length_le (by omega)]
  · rw [show j = 300 by omega]
theorem tmod_five (n : Int) : -5 < Int.tmod n 5 ∧ Int.tmod n 5 < 5 := by
  have h1 := Int.tmod_lt_of_pos n (b := 5) (by omega); have h2 := Int.tmod_lt_of_pos (-n) (b := 5) (by omega); rw [Int.neg_tmod] at h2
  omega
set_option maxHeartbeats 4000000 in
set_option maxRecDepth 100000 in
theorem good_any (v : Vl) (w : World) (hw : Wide v) : Calls Tryz.prog 18 #[aggV v] w fun e w' => e = .returned (aggV (vGood v)) ∧ Kept w w' := by
  obtain ⟨k, n, t⟩ := v; obtain ⟨hk, ⟨n1, n2⟩, ht⟩ := hw
  simp only at hk n1 n2 ht
  have ml : maxLen ≤ 9223372036854775807 := by decide
  have tl : t.length ≤ 9223372036854775807 := Nat.le_trans ht ml; obtain ⟨j, hj⟩ : ∃ j : Nat, min (t.length : Int) 300 = (j : Int) := ⟨min t.length 300, by omega⟩; have jl : j ≤ t.length := by omega
  have hx := cut_text t hj; have CK := Lib.hid (fun w => rcheck5_any ⟨k, n, t.take 300⟩ w ⟨n1, n2⟩ (by simp; omega)); have lu : (t.take 300).length ≤ 300 := by rw [List.length_take]; omega
  have Z := ba_size; have B1 : Hid (Box ((w.alloc (.cells (cellsV ⟨k, n, t.take 300⟩) 25)).alloc (.cells #[.int .u8 0, .int .i64 0, .string ⟨#[]⟩] 25)) (w.heap.size + 1) 25 (cellsV blankV)) := Lib.hid (Box.newAt (by simp) _ _); have B0 : Hid (Box ((w.alloc (.cells (cellsV ⟨k, n, t.take 300⟩) 25)).alloc (.cells #[.int .u8 0, .int .i64 0, .string ⟨#[]⟩] 25)) w.heap.size 25 (cellsV ⟨k, n, t.take 300⟩)) := Lib.hid ((Box.new w _ _).alloc _); clear ht ml; have cut : cut300 ⟨k, n, t⟩ = ⟨k, n, t.take 300⟩ := rfl
  cases ok : vOk ⟨k, n, t.take 300⟩ with
  | true =>
    rw [chk_yes ok] at CK
    have EF : Hid (vGood ⟨k, n, t⟩ = ⟨k, n, t.take 300⟩) := by
      show _ = _; exact (by unfold vGood; rw [cut, if_pos ok] : vGood ⟨k, n, t⟩ = ⟨k, n, t.take 300⟩)
    clear ok cut; go_enter Tryz.func18, Tryz.ntmps18; go_wp2_with fail; refine (CK.out _).mono ?_; rintro e w1 ⟨rfl, k1⟩; obtain ⟨i0, p0, p1, p2, _⟩ := (B0.out.kept k1).three; have C1 := Lib.hid (B1.out.kept k1); obtain ⟨j0, q0, q1, q2, g0, g1, g2⟩ := C1.out.three; have KK : Hid (Kept w w1) := Lib.hid (Kept.trans kpt k1); clear k1; go_wp2_with fail; refine ret_world (fun wf => Box wf (w.heap.size + 1) 25 (cellsV ⟨k, n, t.take 300⟩) ∧ Kept w wf) ⟨Box.set3 C1.out, KK.out.set3 (by omega)⟩ ?_; rintro wf ⟨z0, kf⟩; obtain ⟨e0, e1, e2⟩ := z0.cells3; exact bodyPost_ret (v := aggV ⟨k, n, t.take 300⟩) (by simp [results, Tryz.results18, go_sem, e0, e1, e2]) rfl ⟨congrArg (fun z => Ending.returned (aggV z)) EF.out.symm, kf⟩
  | false =>
    rw [chk_no ok] at CK
    have EG : Hid (vGood ⟨k, n, t⟩ = if k % 5 = 2 then vTruth (decide (Int.tmod n 2 ≠ 0)) else if k % 5 = 3 then ⟨3, 0, [120]⟩ else if k % 5 = 4 then vFail (1 + Int.tmod (Int.tmod n 5 + 5) 5) else if k % 5 = 0 then ⟨0, 0, []⟩ else vMake (max n (-9223372036854775807))) := by
      show _ = _; unfold vGood; rw [cut, if_neg (by rw [ok]; exact Bool.false_ne_true)]
    clear ok cut; obtain ⟨q, hq⟩ : ∃ q : Nat, q = k % 5 := ⟨_, rfl⟩; have q5 : q < 5 := by omega
    have km : (k : Int) % 5 = (q : Int) := by omega
    rw [← hq] at EG; clear hq
    match q, q5 with
    | 0, _ =>
      have EF : Hid (vGood ⟨k, n, t⟩ = ⟨0, 0, []⟩) := EG; have km : (k : Int) % 5 = 0 := km; clear EG; go_enter Tryz.func18, Tryz.ntmps18; go_wp2_with fail; refine (CK.out _).mono ?_; rintro e w1 ⟨rfl, k1⟩; obtain ⟨i0, p0, p1, p2, _⟩ := (B0.out.kept k1).three; have C1 := Lib.hid (B1.out.kept k1); obtain ⟨j0, q0, q1, q2, g0, g1, g2⟩ := C1.out.three; have KK : Hid (Kept w w1) := Lib.hid (Kept.trans kpt k1); clear k1; go_wp2_with fail; refine ret_world (fun wf => Box wf (w.heap.size + 1) 25 (cellsV (⟨0, 0, []⟩ : Vl)) ∧ Kept w wf) ⟨Box.set3 C1.out, KK.out.set3 (by omega)⟩ ?_; rintro wf ⟨z0, kf⟩; obtain ⟨e0, e1, e2⟩ := z0.cells3; exact bodyPost_ret (v := aggV (⟨0, 0, []⟩ : Vl)) (by simp [results, Tryz.results18, go_sem, e0, e1, e2]) rfl ⟨congrArg (fun z => Ending.returned (aggV z)) EF.out.symm, kf⟩
    | 1, _ =>
      have EF : Hid (vGood ⟨k, n, t⟩ = vMake (max n (-9223372036854775807))) := EG; have km : (k : Int) % 5 = 1 := km; obtain ⟨z, hz⟩ : ∃ z, max n (-9223372036854775807) = z := ⟨_, rfl⟩; rw [hz] at EF; have z1 : -9223372036854775808 ≤ z := by omega
      have z2 : z ≤ 9223372036854775807 := by omega
      have T := Lib.hid (fun w => rmake_any z w z1 z2); generalize vMake z = y at *; clear EG; go_enter Tryz.func18, Tryz.ntmps18; go_wp2_with fail; refine (CK.out _).mono ?_; rintro e w1 ⟨rfl, k1⟩; obtain ⟨i0, p0, p1, p2, _⟩ := (B0.out.kept k1).three; have C1 := Lib.hid (B1.out.kept k1); obtain ⟨j0, q0, q1, q2, g0, g1, g2⟩ := C1.out.three; have KK : Hid (Kept w w1) := Lib.hid (Kept.trans kpt k1); clear k1; go_wp2_with fail; refine (T.out _).mono ?_; rintro e w2 ⟨rfl, k2⟩; have C1 := Lib.hid (C1.out.kept k2); have KK := Lib.hid (KK.out.trans k2); obtain ⟨j0, q0, q1, q2, g0, g1, g2⟩ := C1.out.three; clear k2; go_wp2_with fail; refine ret_world (fun wf => Box wf (w.heap.size + 1) 25 (cellsV y) ∧ Kept w wf) ⟨Box.set3 C1.out, KK.out.set3 (by omega)⟩ ?_; rintro wf ⟨z0, kf⟩; obtain ⟨e0, e1, e2⟩ := z0.cells3; exact bodyPost_ret (v := aggV y) (by simp [results, Tryz.results18, go_sem, e0, e1, e2]) rfl ⟨congrArg (fun z => Ending.returned (aggV z)) EF.out.symm, kf⟩
    | 2, _ =>
      have km : (k : Int) % 5 = 2 := km; obtain ⟨bb, hb⟩ : ∃ bb, (Int.tmod n 2 != 0) = bb := ⟨_, rfl⟩
      have EF : Hid (vGood ⟨k, n, t⟩ = vTruth bb) := by
        show _ = _; rw [EG.out, if_pos rfl, ← hb]
        congr 1
        by_cases c : Int.tmod n 2 = 0
        · rw [c]; rfl
        · rw [decide_eq_true c]; symm; rw [bne_iff_ne]; exact c
      have T := Lib.hid (fun w => rtruth_any bb w); clear EG; go_enter Tryz.func18, Tryz.ntmps18; go_wp2_with fail; refine (CK.out _).mono ?_; rintro e w1 ⟨rfl, k1⟩; obtain ⟨i0, p0, p1, p2, _⟩ := (B0.out.kept k1).three; have C1 := Lib.hid (B1.out.kept k1); obtain ⟨j0, q0, q1, q2, g0, g1, g2⟩ := C1.out.three; have KK : Hid (Kept w w1) := Lib.hid (Kept.trans kpt k1); clear k1; go_wp2_with fail; refine (T.out _).mono ?_; rintro e w2 ⟨rfl, k2⟩; have C1 := Lib.hid (C1.out.kept k2); have KK := Lib.hid (KK.out.trans k2); obtain ⟨j0, q0, q1, q2, g0, g1, g2⟩ := C1.out.three; clear k2; go_wp2_with fail; refine ret_world (fun wf => Box wf (w.heap.size + 1) 25 (cellsV (vTruth bb)) ∧ Kept w wf) ⟨Box.set3 C1.out, KK.out.set3 (by omega)⟩ ?_; rintro wf ⟨z0, kf⟩; obtain ⟨e0, e1, e2⟩ := z0.cells3; exact bodyPost_ret (v := aggV (vTruth bb)) (by simp [results, Tryz.results18, go_sem, e0, e1, e2]) rfl ⟨congrArg (fun z => Ending.returned (aggV z)) EF.out.symm, kf⟩
    | 3, _ =>
      have EF : Hid (vGood ⟨k, n, t⟩ = ⟨3, 0, [120]⟩) := EG; have km : (k : Int) % 5 = 3 := km; clear EG; go_enter Tryz.func18, Tryz.ntmps18; go_wp2_with fail; refine (CK.out _).mono ?_; rintro e w1 ⟨rfl, k1⟩; obtain ⟨i0, p0, p1, p2, _⟩ := (B0.out.kept k1).three; have C1 := Lib.hid (B1.out.kept k1); obtain ⟨j0, q0, q1, q2, g0, g1, g2⟩ := C1.out.three; have KK : Hid (Kept w w1) := Lib.hid (Kept.trans kpt k1); clear k1; go_wp2_with fail; refine ret_world (fun wf => Box wf (w.heap.size + 1) 25 (cellsV (⟨3, 0, [120]⟩ : Vl)) ∧ Kept w wf) ⟨Box.set3 C1.out, KK.out.set3 (by omega)⟩ ?_; rintro wf ⟨z0, kf⟩; obtain ⟨e0, e1, e2⟩ := z0.cells3; exact bodyPost_ret (v := aggV (⟨3, 0, [120]⟩ : Vl)) (by simp [results, Tryz.results18, go_sem, e0, e1, e2]) rfl ⟨congrArg (fun z => Ending.returned (aggV z)) EF.out.symm, kf⟩
    | 4, _ =>
      have EF : Hid (vGood ⟨k, n, t⟩ = vFail (1 + Int.tmod (Int.tmod n 5 + 5) 5)) := EG; have km : (k : Int) % 5 = 4 := km; have t5 := tmod_five n; obtain ⟨t51, t52⟩ := t5; obtain ⟨z, hz⟩ : ∃ z, Int.tmod n 5 = z := ⟨_, rfl⟩; rw [hz] at EF t51 t52; have u5 := tmod_five (z + 5); obtain ⟨u51, u52⟩ := u5; obtain ⟨y, hy⟩ : ∃ y, Int.tmod (z + 5) 5 = y := ⟨_, rfl⟩; rw [hy] at EF u51 u52; have T := Lib.hid (fun w => rfail_any (1 + y) w); generalize vFail (1 + y) = f at *; clear EG; go_enter Tryz.func18, Tryz.ntmps18; go_wp2_with fail; refine (CK.out _).mono ?_; rintro e w1 ⟨rfl, k1⟩; obtain ⟨i0, p0, p1, p2, _⟩ := (B0.out.kept k1).three; have C1 := Lib.hid (B1.out.kept k1); obtain ⟨j0, q0, q1, q2, g0, g1, g2⟩ := C1.out.three; have KK : Hid (Kept w w1) := Lib.hid (Kept.trans kpt k1); clear k1; go_wp2_with fail; refine (T.out _).mono ?_; rintro e w2 ⟨rfl, k2⟩; have C1 := Lib.hid (C1.out.kept k2); have KK := Lib.hid (KK.out.trans k2); obtain ⟨j0, q0, q1, q2, g0, g1, g2⟩ := C1.out.three; clear k2; go_wp2_with fail; refine ret_world (fun wf => Box wf (w.heap.size + 1) 25 (cellsV f) ∧ Kept w wf) ⟨Box.set3 C1.out, KK.out.set3 (by omega)⟩ ?_; rintro wf ⟨z0, kf⟩; obtain ⟨e0, e1, e2⟩ := z0.cells3; exact bodyPost_ret (v := aggV f) (by simp [results, Tryz.results18, go_sem, e0, e1, e2]) rfl ⟨congrArg (fun z => Ending.returned (aggV z)) EF.out.symm, kf⟩
    | q + 5, h => exact absurd h (by omega)
end Go.Proofs.YtbkjdcpfkepheaaGreatDoor

namespace Go.Proofs.YtbkjdcpfkepheaaGreatDoor.Lv
open Go
end Go.Proofs.YtbkjdcpfkepheaaGreatDoor.Lv

namespace Go.Proofs.YtbkjdcpfkepheaaGreatDoor.Lv
open Go
theorem total_perm {l m : List Int} (p : l.Perm m) : total l = total m := by
  induction p with
  | nil => rfl
  | cons x _ ih => simp only [total, ih]
  | swap x y l => simp only [total]; omega
  | trans _ _ h1 h2 => exact h1.trans h2
theorem dSum_perm {l m : List Int} (p : l.Perm m) : dSum l = dSum m := by unfold dSum; rw [total_perm p]
theorem dMean_perm {l m : List Int} (p : l.Perm m) : dMean l = dMean m := by
  unfold dMean
  by_cases h : l = []
  · subst h; rw [p.symm.eq_nil]
  · have g : m ≠ [] := fun c => h (by subst c; exact p.eq_nil)
    rw [if_neg h, if_neg g, total_perm p, p.length_eq]
theorem seq_perm {l m : List Ar} (p : l.Perm m) : (seq16 l).Perm (seq16 m) := (p.map seq1).flatten
theorem first_perm {l m : List Vl} (p : l.Perm m) : (firstE l = none ↔ firstE m = none) := by
  unfold firstE; rw [List.find?_eq_none, List.find?_eq_none]; exact ⟨fun h x hx => h x (p.mem_iff.2 hx), fun h x hx => h x (p.mem_iff.1 hx)⟩
theorem first_some {l : List Vl} {e : Vl} (h : firstE l = some e) : isE e = true := by
  unfold firstE at h; exact List.find?_some h
theorem nums_perm {l m : List Ar} (p : l.Perm m) : ((nums16 l).2.2 = true ∧ (nums16 m).2.2 = true ∧ (nums16 l).1.Perm (nums16 m).1 ∧ (nums16 l).2.1 = blankV ∧ (nums16 m).2.1 = blankV) ∨
    ((nums16 l).2.2 = false ∧ (nums16 m).2.2 = false ∧ isE (nums16 l).2.1 = true ∧ isE (nums16 m).2.1 = true) := by
  have q := seq_perm p; have f := first_perm q; unfold nums16
  cases h : firstE (seq16 l) with
  | none =>
    rw [f.1 h]; exact Or.inl ⟨rfl, rfl, q.map _, rfl, rfl⟩
  | some e =>
    cases g : firstE (seq16 m) with
    | none => rw [f.2 g] at h; cases h
    | some e2 => exact Or.inr ⟨rfl, rfl, first_some h, first_some g⟩
theorem sum_perm {l m : List Int} (p : l.Perm m) : l.sum = m.sum := by
  induction p with
  | nil => rfl
  | cons x _ ih => simp only [List.sum_cons, ih]
  | swap x y l => simp only [List.sum_cons]; omega
  | trans _ _ h1 h2 => exact h1.trans h2
theorem count_perm {fn : Nat} {l m : List Ar} (p : l.Perm m) : count16 fn l = count16 fn m := sum_perm (p.map _)
theorem fold_perm {fn : Nat} (hf : fn = 9 ∨ fn = 15 ∨ fn = 16 ∨ fn = 17 ∨ fn = 14) {l m : List Int} (p : l.Perm m) : fold16 fn l = fold16 fn m := by
  have e : l = [] ↔ m = [] := ⟨fun h => by subst h; exact p.symm.eq_nil, fun h => by subst h; exact p.eq_nil⟩; have hl := p.length_eq; have s := sort_congr p; have a := dSum_perm p; have b := dMean_perm p; have c : l.tail.foldl min (l.headD 0) = m.tail.foldl min (m.headD 0) := least_congr p; have d : l.tail.foldl max (l.headD 0) = m.tail.foldl max (m.headD 0) := great_congr p
  by_cases h : l = []
  · rw [h, e.1 h]
  · have g : ¬ m = [] := fun c => h (e.2 c)
    rcases hf with rfl | rfl | rfl | rfl | rfl <;> (unfold fold16; simp only [h, g, a, b, c, d, s, hl]; try simp)
theorem turn_perm (l : List Ar) (k : Nat) : (l.drop k ++ l.take k).Perm l := by
  have := List.perm_append_comm (l₁ := l.drop k) (l₂ := l.take k)
  rwa [List.take_append_drop] at this
theorem fits_all {fn : Nat} (hf : fn = 9 ∨ fn = 11 ∨ fn = 12 ∨ fn = 15 ∨ fn = 16 ∨ fn = 17 ∨ fn = 14) : ∀ (l : List Ar) (i : Nat), (∀ a ∈ l, okArg a = true) → fits16All fn i l = true
  | [], _, _ => rfl
  | a :: l, i, h => by
    rw [fits16All, fits_all hf l (i + 1) (fun b hb => h b (List.mem_cons_of_mem _ hb)), Bool.and_true]; unfold fits16; rw [h a List.mem_cons_self]; rcases hf with rfl | rfl | rfl | rfl | rfl | rfl | rfl <;> simp [area16At]
theorem call_ok16 {fn : Nat} (hf : fn = 9 ∨ fn = 11 ∨ fn = 12 ∨ fn = 15 ∨ fn = 16 ∨ fn = 17 ∨ fn = 14) {l : List Ar} (h0 : l ≠ []) (h1 : l.length ≤ 16) (h : ∀ a ∈ l, okArg a = true) : vCall16 fn l = (val16 fn l, 0) := by
  have hl : 0 < l.length := List.length_pos_iff.2 h0; have ft := fits_all hf l 0 h; have o : own16 fn = true := by rcases hf with rfl | rfl | rfl | rfl | rfl | rfl | rfl <;> rfl
  have lo : lo16 fn = 1 := by rcases hf with rfl | rfl | rfl | rfl | rfl | rfl | rfl <;> rfl
  have hi : hi16 fn = 16 := by rcases hf with rfl | rfl | rfl | rfl | rfl | rfl | rfl <;> rfl
  unfold vCall16; rw [o, if_neg (by simp), lo, hi, if_neg (by omega), ft, if_neg (by simp)]
theorem order16 {fn : Nat} (hf : fn = 9 ∨ fn = 11 ∨ fn = 12 ∨ fn = 15 ∨ fn = 16 ∨ fn = 17 ∨ fn = 14) {l m : List Ar} (p : l.Perm m) :
    val16 fn l = val16 fn m ∨ ((nums16 l).2.2 = false ∧ fn ≠ 11 ∧ fn ≠ 12 ∧ (val16 fn l).k = 4 ∧ (val16 fn m).k = 4) := by
  by_cases c : fn = 11 ∨ fn = 12
  · refine Or.inl ?_
    have := count_perm (fn := fn) p; unfold val16; rcases c with rfl | rfl <;> simp [isFold16, this]
  · have g : isFold16 fn = true := by rcases hf with rfl | rfl | rfl | rfl | rfl | rfl | rfl <;> first | rfl | omega
    unfold val16; rw [g, if_pos rfl, if_pos rfl]; rcases nums_perm p with ⟨h1, h2, h3, _, _⟩ | ⟨h1, h2, h3, h4⟩
    · refine Or.inl ?_
      have e1 : nums16 l = ((nums16 l).1, (nums16 l).2.1, true) := by rw [← h1]
      have e2 : nums16 m = ((nums16 m).1, (nums16 m).2.1, true) := by rw [← h2]
      rw [e1, e2]; exact fold_perm (by omega) h3
    · have e1 : nums16 l = ((nums16 l).1, (nums16 l).2.1, false) := by rw [← h1]
      have e2 : nums16 m = ((nums16 m).1, (nums16 m).2.1, false) := by rw [← h2]
      rw [e1, e2]; unfold isE at h3 h4; rw [decide_eq_true_eq] at h3 h4; exact Or.inr ⟨rfl, by omega, by omega, h3, h4⟩
end Go.Proofs.YtbkjdcpfkepheaaGreatDoor.Lv

namespace Go.Proofs.YtbkjdcpfkepheaaGreatDoor.Lv
open Go
theorem good_small {v : Vl} (h : i64 v.n) : Small (vGood v) := by
  refine ⟨?_, Nat.le_trans (ok_short (good_ok v)) (by decide)⟩; have ok := good_ok v; unfold vGood
  split
  · exact h
  · split
    · unfold vTruth; split <;> exact ⟨by decide, by decide⟩
    · split
      · exact ⟨by decide, by decide⟩
      · split
        · unfold vFail; split
          · rename_i c; exact ⟨by show -9223372036854775808 ≤ (1 + Int.tmod (Int.tmod v.n 5 + 5) 5 : Int); omega, by show (1 + Int.tmod (Int.tmod v.n 5 + 5) 5 : Int) ≤ 9223372036854775807; omega⟩
          · exact ⟨by decide, by decide⟩
        · split
          · exact ⟨by decide, by decide⟩
          · unfold vMake
            split
            · exact ⟨by decide, by decide⟩
            · obtain ⟨h1, h2⟩ := h
              exact ⟨by show -9223372036854775808 ≤ max v.n _; omega, by show max v.n _ ≤ (9223372036854775807 : Int); omega⟩
section
variable {a b : Vl} (ha : vOk a = true) (hb : vOk b = true) (ka : a.k ≠ 4) (kb : b.k ≠ 4)
include ha hb ka kb
end
end Go.Proofs.YtbkjdcpfkepheaaGreatDoor.Lv

namespace Go.Proofs.YtbkjdcpfkepheaaGreatDoor.Lv
open Go
/-! what comes out is valid -/
theorem num_in {v : Vl} (hn : i64 v.n) : i64 (vNum v).n := by
  by_cases ok : vOk v = true
  · rcases ok_cases ok with rfl | ⟨n, _, rfl⟩ | rfl | rfl | ⟨t, ht, rfl⟩ | ⟨c, c1, c2, rfl⟩
    · exact ⟨by decide, by decide⟩
    · unfold vNum; rw [ok]; exact hn
    · exact ⟨by decide, by decide⟩
    · exact ⟨by decide, by decide⟩
    · unfold vNum; rw [ok]; exact (small_read t).1
    · unfold vNum; rw [ok]; exact hn
  · unfold vNum; rw [if_pos (by simpa using ok)]; exact ⟨by decide, by decide⟩
theorem tmod_rng (z m : Int) (h : 0 < m) : -m < Int.tmod z m ∧ Int.tmod z m < m ∧ (0 ≤ z → 0 ≤ Int.tmod z m) := ⟨by have := Int.lt_tmod_of_pos z h; omega, Int.tmod_lt_of_pos z h, fun h => Int.tmod_nonneg _ h⟩
end Go.Proofs.YtbkjdcpfkepheaaGreatDoor.Lv

namespace Go.Proofs.YtbkjdcpfkepheaaGreatDoor.Lv
open Go
def In16 (a : Ar) : Prop := i64 a.v.n ∧ ∀ c ∈ a.l, i64 c.v.n
def num64 (n : Int) : Prop := -9223372036854775807 ≤ n ∧ n ≤ 9223372036854775807
theorem num16_of {v : Vl} (h : vOk v = true) (k : v.k = 1) (hn : i64 v.n) : num64 v.n ∧ v = ⟨1, v.n, []⟩ := by
  rcases ok_cases h with rfl | ⟨n, hn0, rfl⟩ | rfl | rfl | ⟨t, _, rfl⟩ | ⟨c, _, _, rfl⟩
  · cases k
  · obtain ⟨h1, h2⟩ := hn
    simp only at h1 h2
    exact ⟨⟨by simp only; omega, h2⟩, rfl⟩
  · cases k
  · cases k
  · cases k
  · cases k
theorem seq1_ok {a : Ar} (h : okArg a = true) (hi : In16 a) : ∀ v ∈ seq1 a, vOk v = true ∧ (v.k = 1 ∨ v.k = 4) ∧ i64 v.n := by
  intro v hv; unfold seq1 at hv; unfold okArg at h
  by_cases w : a.w = true
  · rw [if_pos w] at hv h
    simp only [Bool.and_eq_true] at h
    obtain ⟨h1, h2⟩ := List.mem_filter.1 hv; obtain ⟨c, hc, rfl⟩ := List.mem_map.1 h1; have f := (okCells_start.1 h.2).1 c hc; exact ⟨f.2.2, by simpa using h2, hi.2 c hc⟩
  · rw [if_neg w] at hv h
    rw [List.mem_singleton] at hv; subst hv; obtain ⟨k1, k2⟩ := num_kinds a.v; exact ⟨k1, k2, num_in hi.1⟩
theorem seq16_ok {l : List Ar} (h : ∀ a ∈ l, okArg a = true) (hi : ∀ a ∈ l, In16 a) : ∀ v ∈ seq16 l, vOk v = true ∧ (v.k = 1 ∨ v.k = 4) ∧ i64 v.n := by
  intro v hv; obtain ⟨s, hs, hv⟩ := List.mem_flatten.1 hv; obtain ⟨a, ha, rfl⟩ := List.mem_map.1 hs; exact seq1_ok (h a ha) (hi a ha) v hv
theorem first_none {l : List Vl} (h : firstE l = none) : ∀ v ∈ l, isE v = false := by
  unfold firstE at h; rw [List.find?_eq_none] at h; intro v hv; have := h v hv
  simpa using this
theorem first_mem {l : List Vl} {e : Vl} (h : firstE l = some e) : e ∈ l ∧ isE e = true := by
  unfold firstE at h; exact ⟨List.mem_of_find?_eq_some h, List.find?_some h⟩
theorem nums_ok {l : List Ar} (h : ∀ a ∈ l, okArg a = true) (hi : ∀ a ∈ l, In16 a) :
    ((nums16 l).2.2 = true ∧ (nums16 l).2.1 = blankV ∧ ∀ n ∈ (nums16 l).1, num64 n) ∨ ((nums16 l).2.2 = false ∧ (nums16 l).1 = [] ∧ vOk (nums16 l).2.1 = true ∧ (nums16 l).2.1.k = 4) := by
  have s := seq16_ok h hi; unfold nums16
  cases e : firstE (seq16 l) with
  | none =>
    refine Or.inl ⟨rfl, rfl, fun n hn => ?_⟩; obtain ⟨v, hv, rfl⟩ := List.mem_map.1 hn; obtain ⟨a, b, c⟩ := s v hv; have d := first_none e v hv; unfold isE at d; rw [decide_eq_false_iff_not] at d; exact (num16_of a (by omega) c).1
  | some x =>
    obtain ⟨hm, hE⟩ := first_mem e; unfold isE at hE; rw [decide_eq_true_eq] at hE; exact Or.inr ⟨rfl, rfl, (s x hm).1, hE⟩
theorem make_num {n : Int} (h : num64 n) : vMake n = ⟨1, n, []⟩ := by
  obtain ⟨h1, h2⟩ := h; unfold vMake; rw [if_neg (by omega)]
theorem pos_num {i : Int} (h : -900000000000000 ≤ i ∧ i ≤ 900000000000000) : vNum ⟨1, i * 10000, []⟩ = ⟨1, i * 10000, []⟩ ∧ pos16 ⟨1, i * 10000, []⟩ = i := by
  have o : vOk ⟨1, i * 10000, []⟩ = true := by rw [ok1, decide_eq_true_eq]; exact ⟨rfl, by omega⟩
  have e := num_stay o (Or.inl rfl); refine ⟨e, ?_⟩; unfold pos16; rw [e]; exact Int.mul_tdiv_cancel _ (by decide)
theorem rank_at {a : Ar} {i : Nat} {d : Bool} (hn : (nums16 [a]).2.2 = true) (h64 : ∀ n ∈ (nums16 [a]).1, num64 n) (h1 : 1 ≤ i) (h2 : i ≤ (nums16 [a]).1.length) (hl : (nums16 [a]).1.length ≤ 100000) :
    rank16 a ⟨1, (i : Int) * 10000, []⟩ d = ⟨1, (sort16 (nums16 [a]).1).getD (if d then (nums16 [a]).1.length - i else i - 1) 0, []⟩ := by
  obtain ⟨p1, p2⟩ := pos_num (i := (i : Int)) (by omega); unfold rank16; rw [hn, if_neg (by simp), p1, p2]; have e : isE (⟨1, (i : Int) * 10000, []⟩ : Vl) = false := rfl; rw [e, if_neg (by simp), if_neg (by omega)]; have el : (sort16 (nums16 [a]).1).length = (nums16 [a]).1.length := sort_length _
  have mem : ∀ j, j < (nums16 [a]).1.length → num64 ((sort16 (nums16 [a]).1).getD j 0) := fun j hj => by
    have hj2 : j < (sort16 (nums16 [a]).1).length := by rw [el]; exact hj
    rw [show (sort16 (nums16 [a]).1).getD j 0 = (sort16 (nums16 [a]).1)[j] by simp [List.getD, hj2]]; exact h64 _ ((sort_perm _).mem_iff.1 (List.getElem_mem hj2))
  have ei : ((i : Int) - 1).toNat = i - 1 := by omega
  cases d with
  | true =>
    simp only [if_true]
    rw [ei, getD_reverse _ _ (by rw [el]; omega), el, show (nums16 [a]).1.length - 1 - (i - 1) = (nums16 [a]).1.length - i by omega]; exact make_num (mem _ (by omega))
  | false =>
    simp only [Bool.false_eq_true, if_false]
    rw [ei]; exact make_num (mem _ (by omega))
theorem rank_out {a : Ar} {i : Int} {d : Bool} (hn : (nums16 [a]).2.2 = true) (hi : -900000000000000 ≤ i ∧ i ≤ 900000000000000) (h : i < 1 ∨ ((nums16 [a]).1.length : Int) < i) : rank16 a ⟨1, i * 10000, []⟩ d = vFail 3 := by
  obtain ⟨p1, p2⟩ := pos_num hi; unfold rank16; rw [hn, if_neg (by simp), p1, p2]; have e : isE (⟨1, i * 10000, []⟩ : Vl) = false := rfl; rw [e, if_neg (by simp), if_pos h]
theorem rank_fault {a : Ar} {k : Vl} {d : Bool} (hn : (nums16 [a]).2.2 = false) : rank16 a k d = (nums16 [a]).2.1 := by
  unfold rank16; rw [hn, if_pos rfl]
/-! calls with an area alone, and with an area and a number -/
theorem call_area {fn : Nat} (hf : fn = 9 ∨ fn = 11 ∨ fn = 14 ∨ fn = 15 ∨ fn = 16 ∨ fn = 46 ∨ fn = 47 ∨ fn = 48 ∨ fn = 49 ∨ fn = 50 ∨ fn = 12 ∨ fn = 13) {x : Rc} {l : List Cl} (h : okArg ⟨true, blankV, x, l⟩ = true) : vCall16 fn [⟨true, blankV, x, l⟩] = (val16 fn [⟨true, blankV, x, l⟩], 0) := by
  rcases hf with rfl | rfl | rfl | rfl | rfl | rfl | rfl | rfl | rfl | rfl | rfl | rfl <;> simp [vCall16, own16, lo16, hi16, fits16All, fits16, area16At, h]
theorem same_area {f g : Nat} (hf : (f = 9 ∧ g = 46) ∨ (f = 11 ∧ g = 47) ∨ (f = 14 ∧ g = 48) ∨ (f = 15 ∧ g = 49) ∨ (f = 16 ∧ g = 50)) {x : Rc} {l : List Cl} (h : okArg ⟨true, blankV, x, l⟩ = true) : vCall16 f [⟨true, blankV, x, l⟩] = vCall16 g [⟨true, blankV, x, l⟩] := by
  rw [call_area (by omega) h, call_area (by omega) h]; rcases hf with ⟨rfl, rfl⟩ | ⟨rfl, rfl⟩ | ⟨rfl, rfl⟩ | ⟨rfl, rfl⟩ | ⟨rfl, rfl⟩ <;> simp [val16, isFold16, fold16, count16]
theorem call_rank {fn : Nat} (hf : fn = 18 ∨ fn = 19) {x : Rc} {l : List Cl} {i : Int} (hi : -900000000000000 ≤ i ∧ i ≤ 900000000000000) (h : okArg ⟨true, blankV, x, l⟩ = true) : vCall16 fn [⟨true, blankV, x, l⟩, ⟨false, ⟨1, i * 10000, []⟩, noRc, []⟩] = (rank16 ⟨true, blankV, x, l⟩ ⟨1, i * 10000, []⟩ (decide (fn = 18)), 0) := by
  have o : vOk ⟨1, i * 10000, []⟩ = true := by rw [ok1, decide_eq_true_eq]; exact ⟨rfl, by omega⟩
  have k : okArg ⟨false, ⟨1, i * 10000, []⟩, noRc, []⟩ = true := by simp [okArg, o]
  rcases hf with rfl | rfl <;> simp [vCall16, own16, lo16, hi16, fits16All, fits16, area16At, h, k, val16, isFold16]
theorem min_rank {x : Rc} {l : List Cl} (hn : (nums16 [⟨true, blankV, x, l⟩]).2.2 = true) (h64 : ∀ n ∈ (nums16 [⟨true, blankV, x, l⟩]).1, num64 n) (h0 : (nums16 [⟨true, blankV, x, l⟩]).1 ≠ []) :
    val16 15 [⟨true, blankV, x, l⟩] = ⟨1, (sort16 (nums16 [⟨true, blankV, x, l⟩]).1).getD 0 0, []⟩ ∧ val16 16 [⟨true, blankV, x, l⟩] = ⟨1, (sort16 (nums16 [⟨true, blankV, x, l⟩]).1).getD ((nums16 [⟨true, blankV, x, l⟩]).1.length - 1) 0, []⟩ := by
  have e : nums16 [⟨true, blankV, x, l⟩] = ((nums16 [⟨true, blankV, x, l⟩]).1, (nums16 [⟨true, blankV, x, l⟩]).2.1, true) := Prod.ext rfl (Prod.ext rfl hn); rw [sort_head h0, sort_last h0]; obtain ⟨a1, _⟩ := least_spec h0; obtain ⟨b1, _⟩ := great_spec h0; have m1 := make_num (h64 _ a1); have m2 := make_num (h64 _ b1); generalize (nums16 [⟨true, blankV, x, l⟩]).1 = ns at *; generalize (nums16 [⟨true, blankV, x, l⟩]).2.1 = vv at *; unfold val16; rw [e]
  constructor
  · rw [← m1]; simp [isFold16, fold16, h0, least16]
  · rw [← m2]; simp [isFold16, fold16, h0, great16]
end Go.Proofs.YtbkjdcpfkepheaaGreatDoor.Lv

namespace Go.Proofs.YtbkjdcpfkepheaaGreatDoor.Lv
open Go
theorem row_unique {x : Rc} : ∀ {l : List Cl}, Row16 l → (∀ c ∈ l, Fine16 x c) → ∀ p ∈ l, ∀ q ∈ l, idx16 x p.c p.r = idx16 x q.c q.r → p = q
  | [], _, _, p, hp, _, _, _ => by cases hp
  | c :: l, h, g, p, hp, q, hq, e => by
    obtain ⟨h1, h2⟩ := List.pairwise_cons.1 h
    have key : ∀ d ∈ l, idx16 x c.c c.r < idx16 x d.c d.r := fun d hd => by
      have := h1 d hd
      rwa [← idx_less (g c List.mem_cons_self).1 (g d (List.mem_cons_of_mem _ hd)).1, decide_eq_true_eq] at this
    rcases List.mem_cons.1 hp with rfl | hp1
    · rcases List.mem_cons.1 hq with rfl | hq1
      · rfl
      · have := key q hq1; omega
    · rcases List.mem_cons.1 hq with rfl | hq1
      · have := key p hp1; omega
      · exact row_unique h2 (fun d hd => g d (List.mem_cons_of_mem _ hd)) p hp1 q hq1 e
theorem idx_coord {x : Rc} {c r i : Int} (h : hasR x c r = true) : idx16 x c r = i ↔ c = x.c1 + i % wide16 x ∧ r = x.r1 + i / wide16 x := by
  unfold hasR at h; rw [decide_eq_true_eq] at h; unfold idx16; obtain ⟨W, hW⟩ : ∃ W, W = wide16 x := ⟨_, rfl⟩; have hw : W = x.c2 - x.c1 + 1 := hW; rw [← hW]; have hp : 0 < W := by omega
  constructor
  · intro e
    have e1 : i = (c - x.c1) + W * (r - x.r1) := by rw [Int.mul_comm]; omega
    have d := Int.add_mul_ediv_left (c - x.c1) (r - x.r1) (show W ≠ 0 by omega); have m := Int.add_mul_emod_self_left (c - x.c1) W (r - x.r1); rw [← e1] at d m; rw [Int.ediv_eq_zero_of_lt (a := c - x.c1) (b := W) (by omega) (by omega)] at d; rw [Int.emod_eq_of_lt (a := c - x.c1) (b := W) (by omega) (by omega)] at m
    omega
  · rintro ⟨e1, e2⟩
    have := Int.mul_ediv_add_emod i W; have e3 : (r - x.r1) * W = W * (i / W) := by rw [e2, Int.mul_comm]; congr 1; omega
    omega
def valAt (x : Rc) (l : List Cl) (i : Int) : Vl := at16 l (x.c1 + i % wide16 x) (x.r1 + i / wide16 x)
theorem valAt_cell {x : Rc} {l : List Cl} (h : Row16 l) (g : ∀ c ∈ l, Fine16 x c) {c : Cl} (hc : c ∈ l) : valAt x l (idx16 x c.c c.r) = c.v := by
  have co := (idx_coord (g c hc).1).1 rfl; unfold valAt at16
  cases e : l.find? (fun p => decide (p.c = x.c1 + idx16 x c.c c.r % wide16 x ∧ p.r = x.r1 + idx16 x c.c c.r / wide16 x)) with
  | none =>
    have := List.find?_eq_none.1 e c hc
    simp only [decide_eq_true_eq] at this
    exact absurd co this
  | some p =>
    have hp := List.mem_of_find?_eq_some e; have hs := List.find?_some e; rw [decide_eq_true_eq] at hs; have : idx16 x p.c p.r = idx16 x c.c c.r := (idx_coord (g p hp).1).2 hs; exact congrArg Cl.v (row_unique h g p hp c hc this)
theorem valAt_none {x : Rc} {l : List Cl} (g : ∀ c ∈ l, Fine16 x c) {i : Int} (hn : ∀ c ∈ l, idx16 x c.c c.r ≠ i) : valAt x l i = blankV := by
  unfold valAt at16
  cases e : l.find? (fun p => decide (p.c = x.c1 + i % wide16 x ∧ p.r = x.r1 + i / wide16 x)) with
  | none => rfl
  | some p =>
    have hp := List.mem_of_find?_eq_some e; have hs := List.find?_some e; rw [decide_eq_true_eq] at hs; exact absurd ((idx_coord (g p hp).1).2 hs) (hn p hp)
def hits16 (v : Vl) (l : List Cl) : Nat := (l.filter fun c => same16 c.v v).length
theorem match_spec {x : Rc} {L : List Cl} {v : Vl} {b : Bool} {S : Int} (hS : size16 x = S) (hb : b = same16 blankV v) (hL : Row16 L) (gL : ∀ c ∈ L, Fine16 x c) (hin : ∀ c ∈ L, idx16 x c.c c.r < S) :
    ∀ (l : List Cl) (next : Int), 0 ≤ next → next ≤ S → (∀ c ∈ l, c ∈ L) → Row16 l → (∀ c ∈ l, next ≤ idx16 x c.c c.r) → (∀ c ∈ L, c ∈ l ∨ idx16 x c.c c.r < next) →
      (l.length : Int) ≤ S - next ∧ (match16 x v b next l = 0 ∧ (b = true → S - next = l.length) ∧ hits16 v l = 0 ∨
        next < match16 x v b next l ∧ match16 x v b next l ≤ S ∧ same16 (valAt x L (match16 x v b next l - 1)) v = true ∧ (hits16 v l ≠ 0 ∨ (b = true ∧ (l.length : Int) < S - next)))
  | [], next, h0, h1, _, _, _, hr => by
    refine ⟨by simp; omega, ?_⟩; unfold match16; rw [hS]
    by_cases c : b = true ∧ next < S
    · rw [if_pos c]
      refine Or.inr ⟨by omega, by omega, ?_, Or.inr ⟨c.1, by simp; omega⟩⟩; rw [show next + 1 - 1 = next by omega, valAt_none gL (fun q hq e => by rcases hr q hq with h | h; cases h; omega)]; rw [← hb]; exact c.1
    · rw [if_neg c]
      exact Or.inl ⟨rfl, fun hb' => by simp only [List.length_nil]; have : ¬ next < S := fun h => c ⟨hb', h⟩; omega, rfl⟩
  | c :: l, next, h0, h1, hm, hp, ha, hr => by
    obtain ⟨p1, p2⟩ := List.pairwise_cons.1 hp; have fc := gL c (hm c List.mem_cons_self); have nc := ha c List.mem_cons_self; have ic := hin c (hm c List.mem_cons_self)
    have above : ∀ d ∈ l, idx16 x c.c c.r + 1 ≤ idx16 x d.c d.r := fun d hd => by
      have := p1 d hd; rw [← idx_less fc.1 (gL d (hm d (List.mem_cons_of_mem _ hd))).1, decide_eq_true_eq] at this
      omega
    have ih := match_spec hS hb hL gL hin l (idx16 x c.c c.r + 1) (by omega) (by omega) (fun d hd => hm d (List.mem_cons_of_mem _ hd)) p2 above (fun d hd => by
      rcases hr d hd with h | h
      · rcases List.mem_cons.1 h with rfl | h
        · exact Or.inr (by omega)
        · exact Or.inl h
      · exact Or.inr (by omega))
    obtain ⟨ih1, ih2⟩ := ih; refine ⟨by simp only [List.length_cons]; omega, ?_⟩; rw [match16]
    by_cases g : b = true ∧ next < idx16 x c.c c.r
    · rw [if_pos g]
      refine Or.inr ⟨by omega, by omega, ?_, Or.inr ⟨g.1, by simp only [List.length_cons]; omega⟩⟩
      rw [show next + 1 - 1 = next by omega, valAt_none gL (fun q hq e => by
        rcases hr q hq with h | h
        · have := ha q h
          rcases List.mem_cons.1 h with rfl | h
          · omega
          · have := above q h; omega
        · omega)]
      rw [← hb]; exact g.1
    · rw [if_neg g]
      by_cases s : same16 c.v v = true
      · rw [if_pos s]
        refine Or.inr ⟨by omega, by omega, ?_, Or.inl ?_⟩
        · rw [show idx16 x c.c c.r + 1 - 1 = idx16 x c.c c.r by omega, valAt_cell hL gL (hm c List.mem_cons_self)]
          exact s
        · unfold hits16
          simp [List.filter_cons, s]
      · rw [if_neg s]
        have hh : hits16 v (c :: l) = hits16 v l := by
          unfold hits16
          simp [List.filter_cons, s]
        rw [hh]
        have ng : b = true → idx16 x c.c c.r = next := fun hb' => by
          have : ¬ next < idx16 x c.c c.r := fun h => g ⟨hb', h⟩
          omega
        rcases ih2 with ⟨a1, a2, a3⟩ | ⟨a1, a2, a3, a4⟩
        · exact Or.inl ⟨a1, fun hb' => by have := a2 hb'; have := ng hb'; simp only [List.length_cons]; omega, a3⟩
        · refine Or.inr ⟨by omega, a2, a3, ?_⟩
          rcases a4 with a4 | ⟨a4, a5⟩
          · exact Or.inl a4
          · exact Or.inr ⟨a4, by have := ng a4; simp only [List.length_cons]; omega⟩
theorem find16 {x : Rc} {l : List Cl} {v : Vl} (h : okArg ⟨true, blankV, x, l⟩ = true) :
    let m := match16 x v (same16 blankV v) 0 l
    let n := (if same16 blankV v then size16 x - l.length else 0) + (hits16 v l : Int)
    0 ≤ n ∧ n ≤ 1048576 ∧ ((m = 0 ∧ n = 0) ∨ (0 < m ∧ m ≤ size16 x ∧ 0 < n ∧ same16 (valAt x l (m - 1)) v = true)) := by
  obtain ⟨a, g, r⟩ := okWide_iff.1 h; have hs : size16 x = wide16 x * high16 x := by unfold size16; rw [if_pos a]
  have sp := match_spec (x := x) (L := l) (v := v) (b := same16 blankV v) rfl rfl r g (fun c hc => by rw [hs]; exact (idx_in (g c hc).1).2) l 0 (Int.le_refl _) (by
    rw [hs]; rw [okR_iff] at a; exact Int.mul_nonneg (by unfold wide16; omega) (by unfold high16; omega)) (fun c hc => hc) r (fun c hc => (idx_in (g c hc).1).1) (fun c hc => Or.inl hc)
  obtain ⟨s1, s2⟩ := sp; have hl : hits16 v l ≤ l.length := List.length_filter_le _ _
  have big : size16 x ≤ 1048576 := by
    rw [hs]; rw [okR_iff] at a; have : wide16 x * high16 x ≤ 1024 * 1024 := Int.mul_le_mul (by unfold wide16; omega) (by unfold high16; omega) (by unfold high16; omega) (by omega)
    omega
  simp only
  cases hb : same16 blankV v with
  | true =>
    rw [hb] at s2
    simp only [if_true]
    refine ⟨by omega, by omega, ?_⟩; rcases s2 with ⟨m0, m1, m2⟩ | ⟨m0, m1, m2, m3⟩
    · exact Or.inl ⟨m0, by have := m1 rfl; omega⟩
    · refine Or.inr ⟨m0, m1, ?_, m2⟩
      rcases m3 with m3 | ⟨_, m3⟩ <;> omega
  | false =>
    rw [hb] at s2
    simp only [Bool.false_eq_true, if_false]
    refine ⟨by omega, by omega, ?_⟩; rcases s2 with ⟨m0, m1, m2⟩ | ⟨m0, m1, m2, m3⟩
    · exact Or.inl ⟨m0, by omega⟩
    · refine Or.inr ⟨m0, m1, ?_, m2⟩
      rcases m3 with m3 | ⟨m3, _⟩
      · omega
      · cases m3
theorem index_both {x : Rc} {l : List Cl} {row col : Int} (h : okArg ⟨true, blankV, x, l⟩ = true) (h1 : 1 ≤ row) (h2 : 1 ≤ col) (h3 : col ≤ wide16 x) :
    index2 ⟨true, blankV, x, l⟩ row col = index1 ⟨true, blankV, x, l⟩ ((row - 1) * wide16 x + col) := by
  obtain ⟨a, _, _⟩ := okWide_iff.1 h; rw [okR_iff] at a; have hW : 0 < wide16 x := by unfold wide16; omega
  have hH : 0 < high16 x := by unfold high16; omega
  unfold index2 index1 area16
  simp only [if_true]
  have hn : 0 ≤ (row - 1) * wide16 x := Int.mul_nonneg (by omega) (by omega)
  by_cases c : high16 x < row
  · have : high16 x * wide16 x ≤ (row - 1) * wide16 x := Int.mul_le_mul_of_nonneg_right (by omega) (by omega)
    have e : wide16 x * high16 x = high16 x * wide16 x := Int.mul_comm _ _; rw [if_pos (by omega), if_pos (by omega)]
  · have : (row - 1) * wide16 x ≤ (high16 x - 1) * wide16 x := Int.mul_le_mul_of_nonneg_right (by omega) (by omega)
    have e : wide16 x * high16 x = (high16 x - 1) * wide16 x + wide16 x := by rw [Int.sub_mul, Int.one_mul, Int.mul_comm]; omega
    rw [if_neg (by omega), if_neg (by omega)]
    have d : ((row - 1) * wide16 x + col - 1) / wide16 x = row - 1 := by
      rw [show (row - 1) * wide16 x + col - 1 = (col - 1) + (row - 1) * wide16 x by omega, Int.add_mul_ediv_right _ _ (by omega), Int.ediv_eq_zero_of_lt (by omega) (by omega)]
      omega
    have m : ((row - 1) * wide16 x + col - 1) % wide16 x = col - 1 := by
      rw [show (row - 1) * wide16 x + col - 1 = (col - 1) + (row - 1) * wide16 x by omega, Int.add_mul_emod_self_right, Int.emod_eq_of_lt (by omega) (by omega)]
    rw [d, m]
end Go.Proofs.YtbkjdcpfkepheaaGreatDoor.Lv

namespace Go.Proofs.YtbkjdcpfkepheaaGreatDoor.Lv
open Go
theorem make_fine (n : Int) : vOk (vMake n) = true := by
  unfold vMake
  split
  · rfl
  · rw [ok1, decide_eq_true_eq]; exact ⟨rfl, by assumption⟩
theorem fail_fine {c : Int} (h : c = 1 ∨ c = 3 ∨ c = 4 ∨ c = 5 ∨ c = 2) : vOk (vFail c) = true := by
  rcases h with rfl | rfl | rfl | rfl | rfl <;> rfl
theorem res_fine (p : Int × Bool) : vOk (vRes p) = true := by
  unfold vRes
  split
  · exact make_fine _
  · rfl
theorem fold_fine {fn : Nat} (l : List Int) : vOk (fold16 fn l) = true := by
  unfold fold16
  repeat' split
  all_goals first | exact res_fine _ | exact make_fine _ | exact fail_fine (by omega)
theorem val_fine {fn : Nat} (hf : fn = 9 ∨ fn = 11 ∨ fn = 12 ∨ fn = 15 ∨ fn = 16 ∨ fn = 17 ∨ fn = 14) {l : List Ar} (h : ∀ a ∈ l, okArg a = true) (hi : ∀ a ∈ l, In16 a) : vOk (val16 fn l) = true := by
  unfold val16
  split
  · rcases nums_ok h hi with ⟨a, b, c⟩ | ⟨a, b, c, d⟩
    · have e : nums16 l = ((nums16 l).1, (nums16 l).2.1, true) := Prod.ext rfl (Prod.ext rfl a)
      rw [e]; exact fold_fine _
    · have e : nums16 l = ((nums16 l).1, (nums16 l).2.1, false) := Prod.ext rfl (Prod.ext rfl a)
      rw [e]; exact c
  · rw [if_neg (by omega), if_neg (by omega), if_neg (by omega), if_neg (by omega)]
    exact make_fine _
theorem counts16 {x : Rc} {l : List Cl} : count16 12 [⟨true, blankV, x, l⟩] = l.length ∧ count16 13 [⟨true, blankV, x, l⟩] = size16 x - l.length := by
  constructor
  · simp [count16, area16]
    rw [List.filter_eq_self.2 (fun _ _ => rfl)]
  · simp [count16, area16]
theorem size_big {x : Rc} (h : okR x = true) : 1 ≤ size16 x ∧ size16 x ≤ 1048576 ∧ size16 x = (x.c2 - x.c1 + 1) * (x.r2 - x.r1 + 1) := by
  have hs : size16 x = wide16 x * high16 x := by unfold size16; rw [if_pos h]
  rw [okR_iff] at h; have h1 : wide16 x * high16 x ≤ 1024 * 1024 := Int.mul_le_mul (by unfold wide16; omega) (by unfold high16; omega) (by unfold high16; omega) (by omega); have h2 : 1 * 1 ≤ wide16 x * high16 x := Int.mul_le_mul (by unfold wide16; omega) (by unfold high16; omega) (by omega) (by unfold wide16; omega); refine ⟨by omega, by omega, hs⟩
end Go.Proofs.YtbkjdcpfkepheaaGreatDoor.Lv

namespace Go.Proofs.YtbkjdcpfkepheaaGreatDoor.Lv
open Go
def goodCl (c : Cl) : Cl := { c with v := vGood c.v }
def fitsC (x : Rc) (acc : List Cl) (c : Cl) : Bool := decide ((vGood c.v).k ≠ 0) && hasR x c.c c.r && (match acc.getLast? with | none => true | some p => less16 p c)
def goodStep (x : Rc) (acc : List Cl) (c : Cl) : List Cl := if fitsC x acc c then acc ++ [goodCl c] else acc
def goodCells (x : Rc) (l : List Cl) : List Cl := l.foldl (goodStep x) []
def goodAr (a : Ar) : Ar := if a.w = true ∧ okR a.x = true then ⟨true, blankV, a.x, goodCells a.x a.l⟩ else ⟨false, vGood a.v, noRc, []⟩
def goodF (l : List Ar) : List Ar := l.map goodAr
theorem ok_small {v : Vl} (h : vOk v = true) (hi : i64 v.n) : Small v := ⟨hi, Nat.le_trans (ok_short h) (by decide)⟩
theorem row_snoc {l : List Cl} {c : Cl} (h : Row16 l) (hl : ∀ p, l.getLast? = some p → less16 p c = true) : Row16 (l ++ [c]) := by
  refine List.pairwise_append.2 ⟨h, List.pairwise_singleton _ _, fun p hp q hq => ?_⟩
  simp only [List.mem_singleton] at hq
  subst hq
  obtain ⟨m, d, rfl⟩ : ∃ m d, l = m ++ [d] := by
    rcases List.eq_nil_or_concat l with e | ⟨m, d, e⟩
    · subst e; cases hp
    · exact ⟨m, d, by rw [e, List.concat_eq_append]⟩
  have hd := hl d (by simp); rcases List.mem_append.1 hp with h1 | h1
  · have h2 := (List.pairwise_append.1 h).2.2 p h1 d (by simp)
    unfold less16 at h2 hd ⊢
    simp only [Bool.or_eq_true, Bool.and_eq_true, decide_eq_true_eq] at h2 hd ⊢
    omega
  · simp only [List.mem_singleton] at h1
    subst h1; exact hd
def Inv16 (x : Rc) (l : List Cl) : Prop := (∀ c ∈ l, Fine16 x c) ∧ Row16 l
theorem step_inv {x : Rc} {acc : List Cl} {c : Cl} (h : Inv16 x acc) : Inv16 x (goodStep x acc c) ∧ (goodStep x acc c).length ≤ acc.length + 1 := by
  unfold goodStep
  by_cases hf : fitsC x acc c = true
  · rw [if_pos hf]
    unfold fitsC at hf
    simp only [Bool.and_eq_true, decide_eq_true_eq] at hf
    obtain ⟨⟨f1, f2⟩, f3⟩ := hf; refine ⟨⟨fun q hq => ?_, row_snoc h.2 (fun p hp => ?_)⟩, by simp⟩
    · rcases List.mem_append.1 hq with h1 | h1
      · exact h.1 q h1
      · simp only [List.mem_singleton] at h1
        subst h1; exact ⟨f2, f1, good_ok _⟩
    · rw [hp] at f3
      exact f3
  · rw [if_neg hf]
    exact ⟨h, by omega⟩
theorem fold_inv {x : Rc} : ∀ (l : List Cl) (acc : List Cl), Inv16 x acc → Inv16 x (l.foldl (goodStep x) acc) ∧ (l.foldl (goodStep x) acc).length ≤ acc.length + l.length
  | [], acc, h => ⟨h, by simp⟩
  | c :: l, acc, h => by
    obtain ⟨h1, h2⟩ := step_inv (c := c) h; obtain ⟨h3, h4⟩ := fold_inv l _ h1; exact ⟨h3, by simp only [List.foldl_cons, List.length_cons]; omega⟩
theorem goodCells_ok (x : Rc) (l : List Cl) : Inv16 x (goodCells x l) ∧ (goodCells x l).length ≤ l.length := by
  obtain ⟨h1, h2⟩ := fold_inv (x := x) l [] ⟨(fun c h => by cases h), List.Pairwise.nil⟩; exact ⟨h1, by simpa [goodCells] using h2⟩
theorem cells_in {x : Rc} : ∀ (l : List Cl) (acc : List Cl), (∀ c ∈ acc, i64 c.v.n) → (∀ c ∈ l, i64 c.v.n) → ∀ c ∈ l.foldl (goodStep x) acc, i64 c.v.n
  | [], acc, h, _ => h
  | c :: l, acc, h, g => by
    refine cells_in l _ (fun q hq => ?_) (fun q hq => g q (List.mem_cons_of_mem _ hq)); unfold goodStep at hq
    by_cases hf : fitsC x acc c = true
    · rw [if_pos hf] at hq
      rcases List.mem_append.1 hq with h1 | h1
      · exact h q h1
      · simp only [List.mem_singleton] at h1
        subst h1; exact (good_small (g c List.mem_cons_self)).1
    · rw [if_neg hf] at hq
      exact h q hq
theorem goodAr_in {a : Ar} (h : In16 a) : In16 (goodAr a) := by
  unfold goodAr
  split
  · exact ⟨show i64 (0 : Int) from ⟨by decide, by decide⟩, cells_in _ _ (fun c h => by cases h) h.2⟩
  · exact ⟨(good_small h.1).1, fun c h => by cases h⟩
theorem goodF_in {l : List Ar} (h : ∀ a ∈ l, In16 a) : ∀ a ∈ goodF l, In16 a := fun a ha => by
  obtain ⟨b, hb, rfl⟩ := List.mem_map.1 ha; exact goodAr_in (h b hb)
theorem goodAr_ok (a : Ar) : okArg (goodAr a) = true ∧ (goodAr a).l.length ≤ a.l.length := by
  unfold goodAr
  split
  · rename_i h
    obtain ⟨h1, h2⟩ := goodCells_ok a.x a.l; exact ⟨okWide_iff.2 ⟨h.2, h1.1, h1.2⟩, h2⟩
  · refine ⟨?_, Nat.zero_le _⟩
    unfold okArg
    simp [good_ok]
theorem ok_in16 {a : Ar} (h : okArg a = true) (hi : In16 a) : Small a.v ∧ ∀ c ∈ a.l, Small c.v := by
  obtain ⟨w, v, x, l⟩ := a
  cases w
  · unfold okArg at h
    simp at h
    refine ⟨ok_small h.1.1 hi.1, fun c hc => ?_⟩; have := h.2
    simp only at hc
    rw [this] at hc
    cases hc
  · unfold okArg at h
    simp only [if_true, Bool.and_eq_true, decide_eq_true_eq] at h
    obtain ⟨⟨⟨h1, h2, h3⟩, _⟩, h4⟩ := h; exact ⟨⟨hi.1, by simp only; rw [h3]; simp⟩, fun c hc => ok_small ((okCells_start.1 h4).1 c hc).2.2 (hi.2 c hc)⟩
theorem goodF_ok {l : List Ar} : ∀ a ∈ goodF l, okArg a = true := fun a h => by
  obtain ⟨b, _, rfl⟩ := List.mem_map.1 h; exact (goodAr_ok b).1
theorem goodF_len (l : List Ar) : (goodF l).length = l.length := List.length_map ..
theorem goodF_cells {l : List Ar} {n : Nat} (h : ∀ a ∈ l, a.l.length ≤ n) : ∀ a ∈ goodF l, a.l.length ≤ n := fun a ha => by
  obtain ⟨b, hb, rfl⟩ := List.mem_map.1 ha; exact Nat.le_trans (goodAr_ok b).2 (h b hb)
theorem seq1_len (a : Ar) : (seq1 a).length ≤ a.l.length + 1 := by
  unfold seq1
  split
  · refine Nat.le_trans (List.length_filter_le _ _) ?_
    rw [List.length_map]
    omega
  · simp
theorem seq16_len {n : Nat} : ∀ {l : List Ar}, (∀ a ∈ l, a.l.length ≤ n) → (seq16 l).length ≤ l.length * (n + 1)
  | [], _ => by simp [seq16]
  | a :: l, h => by
    have h1 := seq1_len a; have h2 := h a List.mem_cons_self; have h3 := seq16_len (l := l) (fun b hb => h b (List.mem_cons_of_mem _ hb)); unfold seq16 at h3 ⊢; rw [List.map_cons, List.flatten_cons, List.length_append, List.length_cons, Nat.succ_mul]
    omega
end Go.Proofs.YtbkjdcpfkepheaaGreatDoor.Lv
