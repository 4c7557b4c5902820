/- Layer 16: Numbers, what a function's value is: the program's (printed by wip/mkagg10.py). -/
import Derived.Test.YtbkjdcpfkepheaaGreatDoorUGAgg9
namespace Go.Proofs.YtbkjdcpfkepheaaGreatDoor
set_option linter.unusedVariables false
set_option linter.unusedSimpArgs false
open Go.RowKit Lv
set_option maxRecDepth 100000
def NumOut16 (w : World) (l : List Ar) (e : Ending) (w' : World) : Prop := ∃ v x b, e = .returned (.tuple #[v, aggV x, .bool b]) ∧ Kept w w' ∧ ((b = false ∧ v = .slice none 0 0 ∧ vNums16 l = ([], x, false)) ∨ (b = true ∧ ∃ L, vNums16 l = (L, x, true) ∧ w'.ownsRow w.heap.size 2 1 v L.length (L.map (Value.int .i64))))
theorem own_lower {w : World} {b b' size n : Nat} {e : TypeId} {v : Value} {xs : List Value} (h : w.ownsRow b' e size v n xs) (k : b ≤ b') : w.ownsRow b e size v n xs := by
  refine ⟨h.1, ?_⟩; rcases h.2 with c | ⟨g, cap, cur, e1, hb, r⟩
  · exact Or.inl c
  · exact Or.inr ⟨g, cap, cur, e1, Nat.le_trans k hb, r⟩
theorem all_16 {l : List Ar} {k : Nat} (h : ∀ j, j < k → ∀ q, l[j]? = some q → okArg q = true) (hk : l.length ≤ k) : l.all okArg = true := by
  rw [List.all_eq_true]; intro a ha; obtain ⟨j, hj, e⟩ := List.getElem_of_mem ha; exact h j (by omega) a (by rw [List.getElem?_eq_getElem hj, e])
theorem nums_bad16 {l : List Ar} {k : Nat} {a : Ar} (ha : l[k]? = some a) (h : okArg a = false) : vNums16 l = ([], vFail 2, false) := by
  unfold vNums16; rw [if_neg]; rw [List.all_eq_true]; intro c; have := c a (List.mem_of_getElem? ha); rw [h] at this; cases this
theorem nums_err16 {l : List Ar} {x : Vl} (ha : l.all okArg = true) (h : firstE (seq16 l) = some x) : vNums16 l = ([], x, false) := by
  unfold vNums16; rw [if_pos ha, nums_some h]
theorem nums_ok16 {l : List Ar} {L : List Int} (ha : l.all okArg = true) (h : firstE (seq16 l) = none) (hL : L = (seq16 l).map Vl.n) : vNums16 l = (L, blankV, true) := by
  unfold vNums16; rw [if_pos ha, nums_none h, hL]
theorem val_err {fn : Nat} {l : List Ar} {x : Vl} (hf : isFold16 fn = true) (h : firstE (seq16 l) = some x) : val16 fn l = x := by
  unfold val16; rw [if_pos hf, nums_some h]
theorem val_fold {fn : Nat} {l : List Ar} (hf : isFold16 fn = true) (h : firstE (seq16 l) = none) : val16 fn l = fold16 fn ((seq16 l).map Vl.n) := by
  unfold val16; rw [if_pos hf, nums_none h]
def AreaP (x : Rc) (la : List Cl) (v : Value) (w : World) : Prop := ∃ A1 c1, v = .agg #[.int .i64 x.c1, .int .i64 x.r1, .int .i64 x.c2, .int .i64 x.r2, .slice A1 la.length c1] ∧ RowK 5 clV w A1 la ∧ la.length ≤ c1
theorem areaP_stays {x : Rc} {la : List Cl} (v : Value) (w w' : World) (h : AreaP x la v w) (k : Kept w w') : AreaP x la v w' := by
  obtain ⟨A1, c1, e, r, hc⟩ := h; exact ⟨A1, c1, e, r.kept k, hc⟩
theorem aarea_p {a : Ar} {x : Rc} {la : List Cl} (e : area16 a = (x, la)) {A1 : Option Addr} {c1 : Nat} {w : World} (hr : RowK 5 clV w A1 a.l) (hc : a.l.length ≤ c1) : Calls Tryz.prog 66 #[.agg #[.bool a.w, .int .u8 a.v.k, .int .i64 a.v.n, .string ⟨a.v.t.toArray⟩, .int .i64 a.x.c1, .int .i64 a.x.r1, .int .i64 a.x.c2, .int .i64 a.x.r2, .slice A1 a.l.length c1]] w fun e w' => ∃ A2 c2, e = .returned (.agg #[.int .i64 x.c1, .int .i64 x.r1, .int .i64 x.c2, .int .i64 x.r2, .slice A2 la.length c2]) ∧ RowK 5 clV w' A2 la ∧ la.length ≤ c2 ∧ Kept w w' :=
  (aarea_x e A1 c1 w hc).mono fun _ _ ⟨_, A2, c2, he, hT, hc2, hR⟩ => ⟨A2, c2, he, hR _ _ (hr.kept hT.kept) hT, hc2, hT.kept⟩
theorem area_small {a : Ar} {x : Rc} {la : List Cl} (e : area16 a = (x, la)) (hs : SmallAr a) (hl : a.l.length ≤ 1000000) : la.length ≤ 1000000 ∧ ∀ c ∈ la, Small c.v := by
  refine ⟨by have := area_len a hl; rw [e] at this; exact this, fun c hc => ?_⟩; unfold area16 at e
  split at e
  · cases e; exact hs.2 c hc
  · cases e
    split at hc
    · cases hc
    · rw [List.mem_singleton.1 hc]; exact hs.1
theorem area_fine16 {a : Ar} (h : okArg a = true) : ∀ c ∈ (area16 a).2, Fine16 (area16 a).1 c := by
  unfold okArg at h; unfold area16
  split
  · rename_i e
    rw [if_pos e] at h
    simp only [Bool.and_eq_true] at h
    exact (okCells_start.1 h.2).1
  · rename_i e
    rw [if_neg e] at h
    simp only [Bool.and_eq_true] at h
    intro c hc
    split at hc
    · cases hc
    · rename_i hk
      rw [List.mem_singleton.1 hc]; exact ⟨by show hasR ⟨1, 1, 1, 1⟩ 1 1 = true; kernel_rfl, hk, h.1.1⟩
theorem area_fine {a : Ar} {x : Rc} {la : List Cl} (e : area16 a = (x, la)) (h : okArg a = true) : ∀ c ∈ la, Fine16 x c := by
  have := (area_fine16 h); rw [e] at this; exact this
theorem cif_err {a : Ar} {v : Vl} (h : (v.k : Int) = (4 : Int)) : countIf16 a v = v := by unfold countIf16; rw [if_pos (by omega)]
theorem cif_val {a : Ar} {v : Vl} {x : Rc} {la : List Cl} (e : area16 a = (x, la)) (h : ¬ ((v.k : Int) = (4 : Int))) : cif16 x la v = countIf16 a v := by unfold countIf16; rw [if_neg (by omega), e]; rfl
theorem mat_err {a : Ar} {v : Vl} (h : (v.k : Int) = (4 : Int)) : vMatch16 v a = v := by unfold vMatch16; rw [if_pos (by omega)]
theorem mat_val {a : Ar} {v : Vl} {x : Rc} {la : List Cl} (e : area16 a = (x, la)) (h : ¬ ((v.k : Int) = (4 : Int))) : mat16 x la v = vMatch16 v a := by unfold vMatch16; rw [if_neg (by omega), e]; rfl
theorem en_agg_count : En 69 := by intro args w; go_simp
theorem en_agg_countIf : En 65 := by intro args w; go_simp
theorem en_agg_match : En 67 := by intro args w; go_simp
theorem en_agg_pick : En 68 := by intro args w; go_simp
theorem en_agg_ranked : En 64 := by intro args w; go_simp
theorem en_agg_simple : En 63 := by intro args w; go_simp
theorem en_agg_valid : En 32 := by intro args w; go_simp
set_option maxHeartbeats 4000000 in
theorem anumbersx_any (A : Option Addr) (cap : Nat) (l : List Ar) (w : World) (mx : Int) (HM : Mx w mx) (hr : ArgsAt w A l) (hs : ∀ a ∈ l, SmallAr a) (hl : l.length ≤ 1000) (hla : ∀ a ∈ l, a.l.length ≤ 900000) (hn : (seq16 l).length ≤ 1000000) :
    Calls Tryz.prog 21 #[.slice A l.length cap] w fun e w' => NumOut16 w l e w' := by
  have hll : l.length ≤ 1000000 := by omega
  have hla1 : ∀ a ∈ l, a.l.length ≤ 1000000 := fun a ha => Nat.le_trans (hla a ha) (by decide); go_enter Tryz.func21, Tryz.ntmps21; refine sq fun hK1 => ?_
  refine ro [yV _, yNew w.heap.size (.cells #[.int .u8 0, .int .i64 0, .string ⟨[].toArray⟩] 25 (0, 0)), yV _] 3 23 rfl rfl (Own.start w) (
    aS (fun hk bs hd => xassign rfl rfl) rfl <|
    aP (fun hk bs hd => xalloc rfl (by kernel_rfl)) rfl <|
    aS (fun hk bs hd => xassign rfl rfl) rfl <|
    arm0) fun fa fw bs hv ap z q ov => ?_
  have s0 := bs.get 0 rfl rfl; have s2 := gv hv 0 rfl rfl; obtain ⟨gb1, s3, bgb1, hgb1⟩ := gotP hv 1 rfl rfl rfl; have ov := ov.cons hgb1 (Nat.le_trans (Own.start w).kept.size bgb1) ((Own.start w).below bgb1); have s4 := gv hv 2 rfl rfl; have ow := ov; refine wt hK1 ?_; refine sq fun hK2 => ?_; refine sq fun hK3 => ?_
  refine ro [yV _, yV _, yV _] 3 23 z q ow (
    mvS s0 rfl rfl rfl rfl <|
    aS (fun hk bs hd => xlen Tryz.underlying22 rfl (dp hd 0 rfl)) rfl <|
    aS (fun hk bs hd => xmove rfl rfl) rfl <|
    arm0) fun fa fw bs hv ap z q ow => ?_
  obtain ⟨s0, s2, s3, s4⟩ := b4 bs s0 s2 s3 s4; have s7 := gv hv 0 rfl rfl; have s8 := gv hv 1 rfl rfl; have s9 := gv hv 2 rfl rfl; refine wt hK3 ?_; refine wp_block ?_; refine wp_loop_g (fun (k : Nat) fr u => (k ≤ l.length) ∧ (∀ j, j < k → ∀ q, l[j]? = some q → okArg q = true) ∧ fr.tmps.size = 23 ∧ fr.defers = [] ∧ Own w [Th.obj gb1 (.cells #[.int .u8 0, .int .i64 0, .string ⟨[].toArray⟩] 25 (0, 0))] u ∧ fr.eval (.tmp 0) = .slice A l.length cap ∧ fr.eval (.tmp 2) = .slice none 0 0 ∧ fr.eval (.tmp 3) = .pointer (some ⟨gb1, 0, none⟩) ∧ fr.eval (.tmp 4) = .bool false ∧ fr.eval (.tmp 7) = .slice A l.length cap ∧ fr.eval (.tmp 8) = .int .i64 ((l.length : Nat) : Int) ∧ fr.eval (.tmp 9) = .int .i64 (k : Int)) (fun k => l.length - k) 0 ⟨(Nat.zero_le _), (fun j hj => absurd hj (Nat.not_lt_zero j)), z, q, ow, s0, s2, s3, s4, s7, s8, s9⟩ (fun k b_ u_ hI => ?_)
  revert b_ u_; intro fa fw hI
  obtain ⟨hk0, hall, z, q, ow, s0, s2, s3, s4, s7, s8, s9⟩ := hI; refine sq fun hK4 => ?_
  refine ro [yV _] 1 23 z q ow (
    aS (fun hk bs hd => xlss rfl (bg bs s9) (bg bs s8)) rfl <|
    arm0) fun fa fw bs hv ap z q ow => ?_
  obtain ⟨s0, s2, s3, s4, s7, s8, s9⟩ := b7 bs s0 s2 s3 s4 s7 s8 s9; have s10 := gv hv 0 rfl rfl; refine wt hK4 ?_; refine sq fun hK5 => ?_
  by_cases hc1 : (k : Int) < ((l.length : Nat) : Int)
  ·refine ct s10 ((decide_eq_true_iff).2 hc1) ?_
   refine wp_skip ?_; refine tn hK5 ?_; refine sq fun hK6 => ?_; refine wp_block ?_; refine sq fun hK7 => ?_; have hltk : k < l.length := by omega
   obtain ⟨a, ha⟩ := at_some hltk; obtain ⟨ba, oa, A1, c1, Aa, ea, r1, l1⟩ := hr.elem ha; have hva := (hs a (List.mem_of_getElem? ha)).1; have hca := (hs a (List.mem_of_getElem? ha)).2; have hal := hla1 a (List.mem_of_getElem? ha)
   refine ro [yV _, yV (.agg #[.bool a.w, .int .u8 a.v.k, .int .i64 a.v.n, .string ⟨a.v.t.toArray⟩, .int .i64 a.x.c1, .int .i64 a.x.r1, .int .i64 a.x.c2, .int .i64 a.x.r2, .slice A1 a.l.length c1]), yNew fw.heap.size (.cells #[.bool false, .int .u8 0, .int .i64 0, .string ⟨[].toArray⟩, .int .i64 0, .int .i64 0, .int .i64 0, .int .i64 0, .slice none 0 0] 39 (0, 0))] 3 23 z q ow (
     aS (fun hk bs hd => xplaceK 9 Tryz.underlying22 (by kernel_rfl) rfl Aa (bg bs s7) (bg bs s9) hltk) rfl <|
     aS (fun hk bs hd => xpartK (n := 9) 0 rfl (by kernel_rfl) (by kernel_rfl) (dp hd 0 rfl) rfl (ea.kept (ow.keep hk).kept)) rfl <|
     aP (fun hk bs hd => xalloc rfl (by kernel_rfl)) rfl <|
     arm0) fun fa fw bs hv ap z q ov => ?_
   obtain ⟨s0, s2, s3, s4, s7, s8, s9⟩ := b7 bs s0 s2 s3 s4 s7 s8 s9; have s12 := gv hv 1 rfl rfl; obtain ⟨gb2, s6, bgb2, hgb2⟩ := gotP hv 2 rfl rfl rfl; have ov := ov.cons hgb2 (Nat.le_trans ow.kept.size bgb2) (ow.below bgb2); have ow := ov; refine ws ow 0 0 s6 s12 fun fw ow => ?_; refine wt hK7 ?_; refine sq fun hK8 => ?_
   refine ro [yV (.agg #[.bool a.w, .int .u8 a.v.k, .int .i64 a.v.n, .string ⟨a.v.t.toArray⟩, .int .i64 a.x.c1, .int .i64 a.x.r1, .int .i64 a.x.c2, .int .i64 a.x.r2, .slice A1 a.l.length c1]), yV (.bool (okArg a)), yV _] 3 23 z q ow (
     aS (fun hk bs hd => xloadN 9 rfl (by kernel_rfl) (by kernel_rfl) (bg bs s6) ((ow.keep hk).box 0 rfl) (Nat.le_of_ble_eq_true rfl) rfl) rfl <|
     aC (fun hk bs hd => xcall1 rfl (dp hd 0 rfl) (en_agg_valid _ _)) (fun hk bs hd => avalid16_any a _ _ _ (r1.kept (ow.keep hk).kept) hal hva hca) rfl <|
     aS (fun hk bs hd => xnot rfl (dp hd 1 rfl)) rfl <|
     arm0) fun fa fw bs hv ap z q ow => ?_
   obtain ⟨s0, s2, s3, s4, s7, s8, s9⟩ := b7 bs s0 s2 s3 s4 s7 s8 s9; have s15 := gv hv 2 rfl rfl; refine wt hK8 ?_
   by_cases hc2 : ¬ ((okArg a) = true)
   ·refine ct s15 ((bnot (Iff.rfl)).2 hc2) ?_
    have hbad : okArg a = false := by simpa using hc2
    refine sq fun hK9 => ?_
    refine ro [yV (aggV (vFail 2)), yV _] 2 23 z q ow (
      aC (fun hk bs hd => xcall1 rfl rfl (en_val_Fail _ _)) (fun hk bs hd => vfail_any 2 _) rfl <|
      aS (fun hk bs hd => xassign rfl rfl) rfl <|
      arm0) fun fa fw bs hv ap z q ow => ?_
    obtain ⟨s0, s3, s4, s7, s8, s9⟩ := b6 bs s0 s3 s4 s7 s8 s9; have s16 := gv hv 0 rfl rfl; have s2 := gv hv 1 rfl rfl; refine ws ow 1 0 s3 s16 fun fw ow => ?_; refine wl_value (v := .bool false) (want0 rfl) (xassign rfl rfl) ?_; refine gp6 z q ow s0 s3 s7 s8 s9 s2 fun fa fw z q ow s0 s3 s7 s8 s9 s2 s4 => ?_; refine wt hK9 ?_; refine wp_ret ?_; refine block_r ?_; refine then_r ?_; refine then_r ?_; refine block_r ?_; refine then_r ?_; refine resultsL (v := .tuple #[.slice none 0 0, aggV (vFail 2), .bool false]) rfl (.cons (res_tmp s2) (.cons (res_cell (n := 3) _ s3 (by kernel_rfl) (by kernel_rfl) (ow.box 1 rfl) (Nat.le_of_ble_eq_true rfl) rfl) (.cons (res_tmp s4) .nil))) rfl q ?_; exact ⟨_, _, _, rfl, ow.kept, Or.inl ⟨rfl, rfl, nums_bad16 ha hbad⟩⟩
   refine cf s15 (bnot (Iff.rfl)) hc2 ?_; have hgood : okArg a = true := by simpa using hc2
   refine wp_skip ?_; refine block_n ?_; refine tn hK6 ?_
   refine ro [yV (.int .i64 ((k + 1 : Nat) : Int))] 1 23 z q ow (
     aS (fun hk bs hd => xadd (Or.inl rfl) rfl (bg bs s9) rfl (by omega) (by omega)) rfl <|
     arm0) fun fa fw bs hv ap z q ow => ?_
   obtain ⟨s0, s2, s3, s4, s7, s8, s9⟩ := b7 bs s0 s2 s3 s4 s7 s8 s9; have s17 := gv hv 0 rfl rfl; refine wl_value (v := .int .i64 ((k + 1 : Nat) : Int)) (want0 rfl) (xmove rfl s17) ?_; refine gp6 z q ow s0 s2 s3 s4 s7 s8 fun fa fw z q ow s0 s2 s3 s4 s7 s8 s9 => ?_; refine wl_end ?_; exact then_n ⟨(k + 1), ⟨hltk, (no_step hall ha hgood), z, q, ow.tail, s0, s2, s3, s4, s7, s8, s9⟩, (show l.length - (k + 1) < l.length - k by omega)⟩
  refine cf s10 (decide_eq_true_iff) hc1 ?_; refine wp_exit ?_; refine then_e ?_; refine then_e ?_; refine block_hit ?_; refine tn hK2 ?_; refine sq fun hK10 => ?_
  refine ro [yV _] 1 23 z q ow (
    mvS s0 rfl rfl rfl rfl <|
    arm0) fun fa fw bs hv ap z q ow => ?_
  obtain ⟨s2, s3, s4⟩ := b3 bs s2 s3 s4; have s18 := gv hv 0 rfl rfl; refine wl_enter (want0 rfl) (xcall1 (u := .slice A l.length cap) rfl s18 (en_agg_collect _ _)) ((acollect_any A cap l _ mx (HM.kept ow.kept) (hr.kept ow.kept) hs hll hla1 hn).mono ?_); rintro _ fw ⟨v, x, b, rfl, hk, hcv⟩; refine ⟨_, rfl, ?_⟩; rcases hcv with ⟨rfl, rfl, hfst⟩ | ⟨rfl, rfl, hfst, hown⟩
  ·skip
   have ow := ow.keep hk; clear hk; refine wl_value (v := .slice none 0 0) (want0 rfl) (xextract rfl (put_in (t := 19) z rfl) rfl) ?_; refine wl_value (v := aggV x) (want0 rfl) (xextract rfl (pb 20 (put_in (t := 19) z rfl) rfl) rfl) ?_; refine wl_value (v := .bool false) (want0 rfl) (xextract rfl (pb 21 (pb 20 (put_in (t := 19) z rfl) rfl) rfl) rfl) ?_; refine wl_value (v := .slice none 0 0) (want0 rfl) (xassign rfl (pb 22 (pb 21 (put_in (t := 20) (put_size z) rfl) rfl) rfl)) ?_; refine wl_store ow 0 0 (want0 rfl) rfl rfl (pb 2 (pb 22 (pb 21 (pb 20 (pb 19 s3 rfl) rfl) rfl) rfl) rfl) (pb 2 (pb 22 (put_in (t := 21) (put_size (put_size z)) rfl) rfl) rfl) (by kernel_rfl) rfl rfl rfl fun fw ow => ?_; refine wl_value (v := .bool false) (want0 rfl) (xassign rfl (pb 2 (put_in (t := 22) (put_size (put_size (put_size z))) rfl) rfl)) ?_; refine gt3 (put_size (put_size (put_size (put_size (put_size (put_size z)))))) (put_def (put_def (put_def (put_def (put_def (put_def q)))))) ow 3 (pb 4 (pb 2 (pb 22 (pb 21 (pb 20 (pb 19 s3 rfl) rfl) rfl) rfl) rfl) rfl) 2 (pb 4 (put_in (t := 2) (put_size (put_size (put_size (put_size z)))) rfl) rfl) 4 (put_in (t := 4) (put_size (put_size (put_size (put_size (put_size z))))) rfl) fun fa fw z q ow s3 s2 s4 => ?_; refine wt hK10 ?_; refine wp_ret ?_; refine resultsL (v := .tuple #[.slice none 0 0, aggV x, .bool false]) rfl (.cons (res_tmp s2) (.cons (res_cell (n := 3) _ s3 (by kernel_rfl) (by kernel_rfl) (ow.box 0 rfl) (Nat.le_of_ble_eq_true rfl) rfl) (.cons (res_tmp s4) .nil))) rfl q ?_
   exact ⟨_, _, _, rfl, ow.kept, Or.inl ⟨rfl, rfl, nums_err16 (all_16 hall (by omega)) hfst⟩⟩
  have hbs := ow.kept.size; obtain ⟨L, hL⟩ : ∃ L, L = (seq16 l).map Vl.n := ⟨_, rfl⟩; rw [← hL] at hown; have ow := ow.add (t := Th.row _ 2 1 v L.length (L.map numV)) hown hk (fun g e => (World.ownsRow.lt hown g e).1); clear hk hown; obtain ⟨LA, lc, rfl⟩ := row_slice (ow.row 0 rfl); have hL64 : All64 L := by rw [hL]; exact nums_64 hs
  have hLn : L.length ≤ 1000000 := by rw [hL, List.length_map]; exact hn
  refine wl_value (v := .slice LA L.length lc) (want0 rfl) (xextract rfl (put_in (t := 19) z rfl) rfl) ?_; refine wl_value (v := aggV blankV) (want0 rfl) (xextract rfl (pb 20 (put_in (t := 19) z rfl) rfl) rfl) ?_; refine wl_value (v := .bool true) (want0 rfl) (xextract rfl (pb 21 (pb 20 (put_in (t := 19) z rfl) rfl) rfl) rfl) ?_; refine wl_value (v := .slice LA L.length lc) (want0 rfl) (xassign rfl (pb 22 (pb 21 (put_in (t := 20) (put_size z) rfl) rfl) rfl)) ?_; refine wl_store ow 1 0 (want0 rfl) rfl rfl (pb 2 (pb 22 (pb 21 (pb 20 (pb 19 s3 rfl) rfl) rfl) rfl) rfl) (pb 2 (pb 22 (put_in (t := 21) (put_size (put_size z)) rfl) rfl) rfl) (by kernel_rfl) rfl rfl rfl fun fw ow => ?_; refine wl_value (v := .bool true) (want0 rfl) (xassign rfl (pb 2 (put_in (t := 22) (put_size (put_size (put_size z))) rfl) rfl)) ?_; refine gt3 (put_size (put_size (put_size (put_size (put_size (put_size z)))))) (put_def (put_def (put_def (put_def (put_def (put_def q)))))) ow 3 (pb 4 (pb 2 (pb 22 (pb 21 (pb 20 (pb 19 s3 rfl) rfl) rfl) rfl) rfl) rfl) 2 (pb 4 (put_in (t := 2) (put_size (put_size (put_size (put_size z)))) rfl) rfl) 4 (put_in (t := 4) (put_size (put_size (put_size (put_size (put_size z))))) rfl) fun fa fw z q ow s3 s2 s4 => ?_; refine wt hK10 ?_; refine wp_ret ?_; refine resultsL (v := .tuple #[.slice LA L.length lc, aggV blankV, .bool true]) rfl (.cons (res_tmp s2) (.cons (res_cell (n := 3) _ s3 (by kernel_rfl) (by kernel_rfl) (ow.box 1 rfl) (Nat.le_of_ble_eq_true rfl) rfl) (.cons (res_tmp s4) .nil))) rfl q ?_
  exact ⟨_, _, _, rfl, ow.kept, Or.inr ⟨rfl, L, nums_ok16 (all_16 hall (by omega)) hfst hL, own_lower (ow.row 0 rfl) hbs⟩⟩
set_option maxHeartbeats 4000000 in
theorem avalue_fold (fn : Nat) (hf : isFold16 fn = true) (A : Option Addr) (cap : Nat) (l : List Ar) (w : World) (mx : Int) (HM : Mx w mx) (hr : ArgsAt w A l) (hs : ∀ a ∈ l, SmallAr a) (hl : l.length ≤ 1000) (hla : ∀ a ∈ l, a.l.length ≤ 900000) (hn : (seq16 l).length ≤ 1000000) :
    Calls Tryz.prog 33 #[.int .u8 fn, .slice A l.length cap] w fun e w' => e = .returned (aggV (val16 fn l)) ∧ Kept w w' := by
  have hll : l.length ≤ 1000000 := by omega
  have hla1 : ∀ a ∈ l, a.l.length ≤ 1000000 := fun a ha => Nat.le_trans (hla a ha) (by decide); go_enter Tryz.func33, Tryz.ntmps33; refine sq fun hK1 => ?_
  refine ro [yNew w.heap.size (.cells #[.int .u8 0, .int .i64 0, .string ⟨[].toArray⟩] 25 (0, 0))] 1 81 rfl rfl (Own.start w) (
    aP (fun hk bs hd => xalloc rfl (by kernel_rfl)) rfl <|
    arm0) fun fa fw bs hv ap z q ov => ?_
  have s0 := bs.get 0 rfl rfl; have s1 := bs.get 1 rfl rfl; obtain ⟨gb1, s4, bgb1, hgb1⟩ := gotP hv 0 rfl rfl rfl; have ov := ov.cons hgb1 (Nat.le_trans (Own.start w).kept.size bgb1) ((Own.start w).below bgb1); have ow := ov; refine wt hK1 ?_; refine sq fun hK2 => ?_; refine sq fun hK3 => ?_; refine wp_region_lit ?_; refine wl_enter (want0 rfl) (xcall0 rfl (en_agg_simple _ _)) ((asimple_any _).mono ?_); rintro _ fw ⟨gb2, rfl, hb, hh, hk⟩; refine ⟨_, rfl, ?_⟩; have ow := ow.add (t := Th.obj gb2 (.map (tabs16 10) 10)) hh hk (fun g e => by cases e; exact hb); clear hb hh hk; obtain ⟨im, him⟩ := tab16_at hf; refine wl_value (v := .int .u8 (fn : Int)) (want0 rfl) (xmove rfl (pb 11 s0 rfl)) ?_; refine wl_value (v := .func (.func (m16 fn)) #[] #[]) (want0 rfl) (xlook16 rfl (pb 12 (put_in (t := 11) z rfl) rfl) (put_in (t := 12) (put_size z) rfl) (ow.get 0 rfl) him) ?_; refine wl_value (v := .func (.func (m16 fn)) #[] #[]) (want0 rfl) (xassign rfl (put_in (t := 13) (put_size (put_size z)) rfl)) ?_; refine gt4 (put_size (put_size (put_size (put_size z)))) (put_def (put_def (put_def (put_def q)))) ow 0 (pb 5 (pb 13 (pb 12 (pb 11 s0 rfl) rfl) rfl) rfl) 1 (pb 5 (pb 13 (pb 12 (pb 11 s1 rfl) rfl) rfl) rfl) 4 (pb 5 (pb 13 (pb 12 (pb 11 s4 rfl) rfl) rfl) rfl) 5 (put_in (t := 5) (put_size (put_size (put_size z))) rfl) fun fa fw z q ow s0 s1 s4 s5 => ?_; refine wt hK3 ?_; refine sq fun hK4 => ?_
  refine ro [yV _, yV _] 2 81 z q ow (
    mvS s5 rfl rfl rfl rfl <|
    aS (fun hk bs hd => xneF rfl (dp hd 0 rfl)) rfl <|
    arm0) fun fa fw bs hv ap z q ow => ?_
  obtain ⟨s0, s1, s4, s5⟩ := b4 bs s0 s1 s4 s5; have s15 := gv hv 1 rfl rfl; refine wt hK4 ?_; refine wp_cond_true (s15) ?_; refine sq fun hK5 => ?_
  refine ro [yV _] 1 81 z q ow (
    mvS s1 rfl rfl rfl rfl <|
    arm0) fun fa fw bs hv ap z q ow => ?_
  obtain ⟨s0, s1, s4, s5⟩ := b4 bs s0 s1 s4 s5; have s17 := gv hv 0 rfl rfl; refine wl_enter (want0 rfl) (xcall1 (u := .slice A l.length cap) rfl s17 (en_agg_collect _ _)) ((acollect_any A cap l _ mx (HM.kept ow.kept) (hr.kept ow.kept) hs hll hla1 hn).mono ?_); rintro _ fw ⟨v, x, b, rfl, hk, hcv⟩; refine ⟨_, rfl, ?_⟩; rcases hcv with ⟨rfl, rfl, hfst⟩ | ⟨rfl, rfl, hfst, hown⟩
  ·skip
   have ow := ow.keep hk; clear hk; refine wl_value (v := .tuple #[.slice none 0 0, aggV x, .bool false]) (want0 rfl) (xmove rfl (put_in (t := 18) z rfl)) ?_; refine wl_value (v := .slice none 0 0) (want0 rfl) (xextract rfl (put_in (t := 16) (put_size z) rfl) rfl) ?_; refine wl_value (v := aggV x) (want0 rfl) (xextract rfl (pb 19 (put_in (t := 16) (put_size z) rfl) rfl) rfl) ?_; refine wl_value (v := .bool false) (want0 rfl) (xextract rfl (pb 20 (pb 19 (put_in (t := 16) (put_size z) rfl) rfl) rfl) rfl) ?_; refine wl_newP ow (want0 rfl) (xalloc (b := .cells #[.int .u8 0, .int .i64 0, .string ⟨[].toArray⟩] 25 (0, 0)) rfl (by kernel_rfl)) fun gb3 fw ow => ?_; refine gt8 (put_size (put_size (put_size (put_size (put_size (put_size z)))))) (put_def (put_def (put_def (put_def (put_def (put_def q)))))) ow 0 (pb 7 (pb 21 (pb 20 (pb 19 (pb 16 (pb 18 s0 rfl) rfl) rfl) rfl) rfl) rfl) 1 (pb 7 (pb 21 (pb 20 (pb 19 (pb 16 (pb 18 s1 rfl) rfl) rfl) rfl) rfl) rfl) 4 (pb 7 (pb 21 (pb 20 (pb 19 (pb 16 (pb 18 s4 rfl) rfl) rfl) rfl) rfl) rfl) 5 (pb 7 (pb 21 (pb 20 (pb 19 (pb 16 (pb 18 s5 rfl) rfl) rfl) rfl) rfl) rfl) 19 (pb 7 (pb 21 (pb 20 (put_in (t := 19) (put_size (put_size z)) rfl) rfl) rfl) rfl) 20 (pb 7 (pb 21 (put_in (t := 20) (put_size (put_size (put_size z))) rfl) rfl) rfl) 21 (pb 7 (put_in (t := 21) (put_size (put_size (put_size (put_size z)))) rfl) rfl) 7 (put_in (t := 7) (put_size (put_size (put_size (put_size (put_size z))))) rfl) fun fa fw z q ow s0 s1 s4 s5 s19 s20 s21 s7 => ?_; refine wl_value (v := .slice none 0 0) (want0 rfl) (xassign rfl s19) ?_
   refine wl_store ow 0 0 (want0 rfl) rfl rfl (pb 6 s7 rfl) (pb 6 s20 rfl) (by kernel_rfl) rfl rfl rfl fun fw ow => ?_; refine wl_value (v := .bool false) (want0 rfl) (xassign rfl (pb 6 s21 rfl)) ?_; refine gt7 (put_size (put_size z)) (put_def (put_def q)) ow 0 (pb 8 (pb 6 s0 rfl) rfl) 1 (pb 8 (pb 6 s1 rfl) rfl) 4 (pb 8 (pb 6 s4 rfl) rfl) 5 (pb 8 (pb 6 s5 rfl) rfl) 7 (pb 8 (pb 6 s7 rfl) rfl) 6 (pb 8 (put_in (t := 6) z rfl) rfl) 8 (put_in (t := 8) (put_size z) rfl) fun fa fw z q ow s0 s1 s4 s5 s7 s6 s8 => ?_; refine wt hK5 ?_; refine sq fun hK6 => ?_; refine sq fun hK7 => ?_
   refine ro [yV _, yV _] 2 81 z q ow (
     mvS s8 rfl rfl rfl rfl <|
     aS (fun hk bs hd => xnot rfl (dp hd 0 rfl)) rfl <|
     arm0) fun fa fw bs hv ap z q ow => ?_
   obtain ⟨s0, s1, s4, s5, s7, s6⟩ := b6 bs s0 s1 s4 s5 s7 s6; have s23 := gv hv 1 rfl rfl; refine wt hK7 ?_; refine wp_cond_true (s23) ?_; refine sq fun hK8 => ?_
   refine ro [yV (aggV x)] 1 81 z q ow (
     aS (fun hk bs hd => xloadN 3 rfl (by kernel_rfl) (by kernel_rfl) (bg bs s7) ((ow.keep hk).box 0 rfl) (Nat.le_of_ble_eq_true rfl) rfl) rfl <|
     arm0) fun fa fw bs hv ap z q ow => ?_
   obtain ⟨s0, s1, s4, s5, s6⟩ := b5 bs s0 s1 s4 s5 s6; have s24 := gv hv 0 rfl rfl; refine ws ow 2 0 s4 s24 fun fw ow => ?_; refine wt hK8 ?_; refine wp_ret ?_; refine then_r ?_; refine then_r ?_; refine rs3 s4 (ow.box 2 rfl) q ?_; exact ⟨congrArg (fun v => Ending.returned (aggV v)) ((val_err hf hfst).symm), ow.kept⟩
  have hbs := ow.kept.size; obtain ⟨L, hL⟩ : ∃ L, L = (seq16 l).map Vl.n := ⟨_, rfl⟩; rw [← hL] at hown; have ow := ow.add (t := Th.row _ 2 1 v L.length (L.map numV)) hown hk (fun g e => (World.ownsRow.lt hown g e).1); clear hk hown; obtain ⟨LA, lc, rfl⟩ := row_slice (ow.row 0 rfl); have hL64 : All64 L := by rw [hL]; exact nums_64 hs
  have hLn : L.length ≤ 1000000 := by rw [hL, List.length_map]; exact hn
  refine wl_value (v := .tuple #[.slice LA L.length lc, aggV blankV, .bool true]) (want0 rfl) (xmove rfl (put_in (t := 18) z rfl)) ?_; refine wl_value (v := .slice LA L.length lc) (want0 rfl) (xextract rfl (put_in (t := 16) (put_size z) rfl) rfl) ?_; refine wl_value (v := aggV blankV) (want0 rfl) (xextract rfl (pb 19 (put_in (t := 16) (put_size z) rfl) rfl) rfl) ?_; refine wl_value (v := .bool true) (want0 rfl) (xextract rfl (pb 20 (pb 19 (put_in (t := 16) (put_size z) rfl) rfl) rfl) rfl) ?_; refine wl_newP ow (want0 rfl) (xalloc (b := .cells #[.int .u8 0, .int .i64 0, .string ⟨[].toArray⟩] 25 (0, 0)) rfl (by kernel_rfl)) fun gb4 fw ow => ?_; refine gt8 (put_size (put_size (put_size (put_size (put_size (put_size z)))))) (put_def (put_def (put_def (put_def (put_def (put_def q)))))) ow 0 (pb 7 (pb 21 (pb 20 (pb 19 (pb 16 (pb 18 s0 rfl) rfl) rfl) rfl) rfl) rfl) 1 (pb 7 (pb 21 (pb 20 (pb 19 (pb 16 (pb 18 s1 rfl) rfl) rfl) rfl) rfl) rfl) 4 (pb 7 (pb 21 (pb 20 (pb 19 (pb 16 (pb 18 s4 rfl) rfl) rfl) rfl) rfl) rfl) 5 (pb 7 (pb 21 (pb 20 (pb 19 (pb 16 (pb 18 s5 rfl) rfl) rfl) rfl) rfl) rfl) 19 (pb 7 (pb 21 (pb 20 (put_in (t := 19) (put_size (put_size z)) rfl) rfl) rfl) rfl) 20 (pb 7 (pb 21 (put_in (t := 20) (put_size (put_size (put_size z))) rfl) rfl) rfl) 21 (pb 7 (put_in (t := 21) (put_size (put_size (put_size (put_size z)))) rfl) rfl) 7 (put_in (t := 7) (put_size (put_size (put_size (put_size (put_size z))))) rfl) fun fa fw z q ow s0 s1 s4 s5 s19 s20 s21 s7 => ?_; refine wl_value (v := .slice LA L.length lc) (want0 rfl) (xassign rfl s19) ?_
  refine wl_store ow 0 0 (want0 rfl) rfl rfl (pb 6 s7 rfl) (pb 6 s20 rfl) (by kernel_rfl) rfl rfl rfl fun fw ow => ?_; refine wl_value (v := .bool true) (want0 rfl) (xassign rfl (pb 6 s21 rfl)) ?_; refine gt7 (put_size (put_size z)) (put_def (put_def q)) ow 0 (pb 8 (pb 6 s0 rfl) rfl) 1 (pb 8 (pb 6 s1 rfl) rfl) 4 (pb 8 (pb 6 s4 rfl) rfl) 5 (pb 8 (pb 6 s5 rfl) rfl) 7 (pb 8 (pb 6 s7 rfl) rfl) 6 (pb 8 (put_in (t := 6) z rfl) rfl) 8 (put_in (t := 8) (put_size z) rfl) fun fa fw z q ow s0 s1 s4 s5 s7 s6 s8 => ?_; refine wt hK5 ?_; refine sq fun hK9 => ?_; refine sq fun hK10 => ?_
  refine ro [yV _, yV _] 2 81 z q ow (
    mvS s8 rfl rfl rfl rfl <|
    aS (fun hk bs hd => xnot rfl (dp hd 0 rfl)) rfl <|
    arm0) fun fa fw bs hv ap z q ow => ?_
  obtain ⟨s0, s1, s4, s5, s7, s6⟩ := b6 bs s0 s1 s4 s5 s7 s6; have s23 := gv hv 1 rfl rfl; refine wt hK10 ?_; refine wp_cond_false (s23) ?_; refine wp_skip ?_; refine tn hK9 ?_; refine sq fun hK11 => ?_; have ow := ow.perm (List.Perm.swap _ _ _)
  refine ro [yV _, yV _] 2 81 z q ow (
    mvS s5 rfl rfl rfl rfl <|
    mvS s6 rfl rfl rfl rfl <|
    arm0) fun fa fw bs hv ap z q ow => ?_
  obtain ⟨s0, s1, s4⟩ := b3 bs s0 s1 s4; have s25 := gv hv 0 rfl rfl; have s26 := gv hv 1 rfl rfl; refine wl_enter (want0 rfl) (xcall1V (F := m16 fn) (u := .slice LA L.length lc) rfl s25 s26 (en_m16 fn _ _)) ((fold_own hf ow rfl hL64 hLn).mono ?_); rintro _ fw ⟨rfl, hO⟩; refine ⟨_, rfl, ?_⟩; rcases (rfl : (0 : Nat) = 0) with _
  have ow := hO; refine wl_store ow 2 0 (want0 rfl) rfl rfl (pb 27 s4 rfl) (put_in (t := 27) z rfl) (by kernel_rfl) rfl rfl rfl fun fw ow => ?_; refine gt3 (put_size z) (put_def q) ow 0 (pb 27 s0 rfl) 1 (pb 27 s1 rfl) 4 (pb 27 s4 rfl) fun fa fw z q ow s0 s1 s4 => ?_; refine wt hK11 ?_; refine wp_ret ?_; refine then_r ?_; refine rs3 s4 (ow.box 2 rfl) q ?_; exact ⟨congrArg (fun v => Ending.returned (aggV v)) (by rw [hL]; exact (val_fold hf hfst).symm), ow.kept⟩
set_option maxHeartbeats 4000000 in
theorem avalue_18 (A : Option Addr) (cap : Nat) (a b : Ar) (w : World) (mx : Int) (HM : Mx w mx) (hr : ArgsAt w A [a, b]) (ha : SmallAr a) (hb : SmallAr b) (hla : a.l.length ≤ 900000) (hlb : b.l.length ≤ 900000) (hc : 2 ≤ cap) (hok : okArg a = true) (hob : okArg b = true) :
    Calls Tryz.prog 33 #[.int .u8 18, .slice A 2 cap] w fun e w' => e = .returned (aggV (val16 18 [a, b])) ∧ Kept w w' := by
  go_enter Tryz.func33, Tryz.ntmps33; refine sq fun hK1 => ?_
  refine ro [yNew w.heap.size (.cells #[.int .u8 0, .int .i64 0, .string ⟨[].toArray⟩] 25 (0, 0))] 1 81 rfl rfl (Own.start w) (
    aP (fun hk bs hd => xalloc rfl (by kernel_rfl)) rfl <|
    arm0) fun fa fw bs hv ap z q ov => ?_
  have s0 := bs.get 0 rfl rfl; have s1 := bs.get 1 rfl rfl; obtain ⟨gb1, s4, bgb1, hgb1⟩ := gotP hv 0 rfl rfl rfl; have ov := ov.cons hgb1 (Nat.le_trans (Own.start w).kept.size bgb1) ((Own.start w).below bgb1); have ow := ov; refine wt hK1 ?_; refine sq fun hK2 => ?_; refine sq fun hK3 => ?_; refine wp_region_lit ?_; refine wl_enter (want0 rfl) (xcall0 rfl (en_agg_simple _ _)) ((asimple_any _).mono ?_); rintro _ fw ⟨gb2, rfl, hb, hh, hk⟩; refine ⟨_, rfl, ?_⟩; have ow := ow.add (t := Th.obj gb2 (.map (tabs16 10) 10)) hh hk (fun g e => by cases e; exact hb); clear hb hh hk; have him : Instr.findNow (.int .u8) (.int .u8 (18 : Nat)) (tabs16 10).toList 0 = some none := by kernel_rfl
  refine wl_value (v := .int .u8 18) (want0 rfl) (xmove rfl (pb 11 s0 rfl)) ?_; refine wl_value (v := .nilFunc) (want0 rfl) (xlookN16 (k := 18) rfl (pb 12 (put_in (t := 11) z rfl) rfl) (put_in (t := 12) (put_size z) rfl) (ow.get 0 rfl) him) ?_; refine wl_value (v := .nilFunc) (want0 rfl) (xassign rfl (put_in (t := 13) (put_size (put_size z)) rfl)) ?_; refine gt4 (put_size (put_size (put_size (put_size z)))) (put_def (put_def (put_def (put_def q)))) ow 0 (pb 5 (pb 13 (pb 12 (pb 11 s0 rfl) rfl) rfl) rfl) 1 (pb 5 (pb 13 (pb 12 (pb 11 s1 rfl) rfl) rfl) rfl) 4 (pb 5 (pb 13 (pb 12 (pb 11 s4 rfl) rfl) rfl) rfl) 5 (put_in (t := 5) (put_size (put_size (put_size z))) rfl) fun fa fw z q ow s0 s1 s4 s5 => ?_; refine wt hK3 ?_; refine sq fun hK4 => ?_
  refine ro [yV _, yV _] 2 81 z q ow (
    mvS s5 rfl rfl rfl rfl <|
    aS (fun hk bs hd => xneN rfl (dp hd 0 rfl)) rfl <|
    arm0) fun fa fw bs hv ap z q ow => ?_
  obtain ⟨s0, s1, s4, s5⟩ := b4 bs s0 s1 s4 s5; have s15 := gv hv 1 rfl rfl; refine wt hK4 ?_; refine wp_cond_false (s15) ?_; refine wp_skip ?_; refine tn hK2 ?_; refine sq fun hK5 => ?_; refine sq fun hK6 => ?_
  refine ro [yV _] 1 81 z q ow (
    mvS s0 rfl rfl rfl rfl <|
    arm0) fun fa fw bs hv ap z q ow => ?_
  obtain ⟨s0, s1, s4⟩ := b3 bs s0 s1 s4; have s28 := gv hv 0 rfl rfl; refine wt hK6 ?_; refine wp_block ?_; refine sq fun hK7 => ?_; refine sq fun hK8 => ?_
  refine ro [yV (.bool true), yV _] 2 81 z q ow (
    aE (fun hk bs hd => xeqi rfl (bg bs s28) rfl) (congrArg Value.bool rfl) rfl <|
    asD 0 rfl rfl rfl rfl rfl rfl <|
    arm0) fun fa fw bs hv ap z q ow => ?_
  obtain ⟨s0, s1, s4, s28⟩ := b4 bs s0 s1 s4 s28; have s29 := gv hv 1 rfl rfl; refine wt hK8 ?_; refine wp_cond_true (s29) ?_; refine wp_skip ?_; refine tn hK7 ?_; refine wp_cond_true (s29) ?_; refine sq fun hK9 => ?_
  refine ro [yV _, yV _, yV (.bool true), yV (aggV (rank16 a b.v true))] 4 81 z q ow (
    mvS s1 rfl rfl rfl rfl <|
    mvS s0 rfl rfl rfl rfl <|
    aE (fun hk bs hd => xeqi rfl (dp hd 1 rfl) rfl) (congrArg Value.bool rfl) rfl <|
    aC (fun hk bs hd => xcall2 rfl (dp hd 0 rfl) (dp hd 2 rfl) (en_agg_ranked _ _)) (fun hk bs hd => aranked_any A cap a b true _ mx (HM.kept (ow.keep hk).kept) (hr.kept (ow.keep hk).kept) ha hb hla hc) rfl <|
    arm0) fun fa fw bs hv ap z q ow => ?_
  obtain ⟨s0, s1, s4⟩ := b3 bs s0 s1 s4; have s35 := gv hv 3 rfl rfl; refine ws ow 1 0 s4 s35 fun fw ow => ?_; refine wt hK9 ?_; refine wp_ret ?_; refine block_r ?_; refine then_r ?_; refine rs3 s4 (ow.box 1 rfl) q ?_; exact ⟨rfl, ow.kept⟩
set_option maxHeartbeats 4000000 in
theorem avalue_19 (A : Option Addr) (cap : Nat) (a b : Ar) (w : World) (mx : Int) (HM : Mx w mx) (hr : ArgsAt w A [a, b]) (ha : SmallAr a) (hb : SmallAr b) (hla : a.l.length ≤ 900000) (hlb : b.l.length ≤ 900000) (hc : 2 ≤ cap) (hok : okArg a = true) (hob : okArg b = true) :
    Calls Tryz.prog 33 #[.int .u8 19, .slice A 2 cap] w fun e w' => e = .returned (aggV (val16 19 [a, b])) ∧ Kept w w' := by
  go_enter Tryz.func33, Tryz.ntmps33; refine sq fun hK1 => ?_
  refine ro [yNew w.heap.size (.cells #[.int .u8 0, .int .i64 0, .string ⟨[].toArray⟩] 25 (0, 0))] 1 81 rfl rfl (Own.start w) (
    aP (fun hk bs hd => xalloc rfl (by kernel_rfl)) rfl <|
    arm0) fun fa fw bs hv ap z q ov => ?_
  have s0 := bs.get 0 rfl rfl; have s1 := bs.get 1 rfl rfl; obtain ⟨gb1, s4, bgb1, hgb1⟩ := gotP hv 0 rfl rfl rfl; have ov := ov.cons hgb1 (Nat.le_trans (Own.start w).kept.size bgb1) ((Own.start w).below bgb1); have ow := ov; refine wt hK1 ?_; refine sq fun hK2 => ?_; refine sq fun hK3 => ?_; refine wp_region_lit ?_; refine wl_enter (want0 rfl) (xcall0 rfl (en_agg_simple _ _)) ((asimple_any _).mono ?_); rintro _ fw ⟨gb2, rfl, hb, hh, hk⟩; refine ⟨_, rfl, ?_⟩; have ow := ow.add (t := Th.obj gb2 (.map (tabs16 10) 10)) hh hk (fun g e => by cases e; exact hb); clear hb hh hk; have him : Instr.findNow (.int .u8) (.int .u8 (19 : Nat)) (tabs16 10).toList 0 = some none := by kernel_rfl
  refine wl_value (v := .int .u8 19) (want0 rfl) (xmove rfl (pb 11 s0 rfl)) ?_; refine wl_value (v := .nilFunc) (want0 rfl) (xlookN16 (k := 19) rfl (pb 12 (put_in (t := 11) z rfl) rfl) (put_in (t := 12) (put_size z) rfl) (ow.get 0 rfl) him) ?_; refine wl_value (v := .nilFunc) (want0 rfl) (xassign rfl (put_in (t := 13) (put_size (put_size z)) rfl)) ?_; refine gt4 (put_size (put_size (put_size (put_size z)))) (put_def (put_def (put_def (put_def q)))) ow 0 (pb 5 (pb 13 (pb 12 (pb 11 s0 rfl) rfl) rfl) rfl) 1 (pb 5 (pb 13 (pb 12 (pb 11 s1 rfl) rfl) rfl) rfl) 4 (pb 5 (pb 13 (pb 12 (pb 11 s4 rfl) rfl) rfl) rfl) 5 (put_in (t := 5) (put_size (put_size (put_size z))) rfl) fun fa fw z q ow s0 s1 s4 s5 => ?_; refine wt hK3 ?_; refine sq fun hK4 => ?_
  refine ro [yV _, yV _] 2 81 z q ow (
    mvS s5 rfl rfl rfl rfl <|
    aS (fun hk bs hd => xneN rfl (dp hd 0 rfl)) rfl <|
    arm0) fun fa fw bs hv ap z q ow => ?_
  obtain ⟨s0, s1, s4, s5⟩ := b4 bs s0 s1 s4 s5; have s15 := gv hv 1 rfl rfl; refine wt hK4 ?_; refine wp_cond_false (s15) ?_; refine wp_skip ?_; refine tn hK2 ?_; refine sq fun hK5 => ?_; refine sq fun hK6 => ?_
  refine ro [yV _] 1 81 z q ow (
    mvS s0 rfl rfl rfl rfl <|
    arm0) fun fa fw bs hv ap z q ow => ?_
  obtain ⟨s0, s1, s4⟩ := b3 bs s0 s1 s4; have s28 := gv hv 0 rfl rfl; refine wt hK6 ?_; refine wp_block ?_; refine sq fun hK7 => ?_; refine sq fun hK8 => ?_
  refine ro [yV (.bool false), yV _] 2 81 z q ow (
    aE (fun hk bs hd => xeqi rfl (bg bs s28) rfl) (congrArg Value.bool rfl) rfl <|
    asD 0 rfl rfl rfl rfl rfl rfl <|
    arm0) fun fa fw bs hv ap z q ow => ?_
  obtain ⟨s0, s1, s4, s28⟩ := b4 bs s0 s1 s4 s28; have s29 := gv hv 1 rfl rfl; refine wt hK8 ?_; refine wp_cond_false (s29) ?_
  refine ro [yV (.bool true), yV _] 2 81 z q ow (
    aE (fun hk bs hd => xeqi rfl (bg bs s28) rfl) (congrArg Value.bool rfl) rfl <|
    asD 0 rfl rfl rfl rfl rfl rfl <|
    arm0) fun fa fw bs hv ap z q ow => ?_
  obtain ⟨s0, s1, s4, s28⟩ := b4 bs s0 s1 s4 s28; have s29 := gv hv 1 rfl rfl; refine wt hK7 ?_; refine wp_cond_true (s29) ?_; refine sq fun hK9 => ?_
  refine ro [yV _, yV _, yV (.bool false), yV (aggV (rank16 a b.v false))] 4 81 z q ow (
    mvS s1 rfl rfl rfl rfl <|
    mvS s0 rfl rfl rfl rfl <|
    aE (fun hk bs hd => xeqi rfl (dp hd 1 rfl) rfl) (congrArg Value.bool rfl) rfl <|
    aC (fun hk bs hd => xcall2 rfl (dp hd 0 rfl) (dp hd 2 rfl) (en_agg_ranked _ _)) (fun hk bs hd => aranked_any A cap a b false _ mx (HM.kept (ow.keep hk).kept) (hr.kept (ow.keep hk).kept) ha hb hla hc) rfl <|
    arm0) fun fa fw bs hv ap z q ow => ?_
  obtain ⟨s0, s1, s4⟩ := b3 bs s0 s1 s4; have s35 := gv hv 3 rfl rfl; refine ws ow 1 0 s4 s35 fun fw ow => ?_; refine wt hK9 ?_; refine wp_ret ?_; refine block_r ?_; refine then_r ?_; refine rs3 s4 (ow.box 1 rfl) q ?_; exact ⟨rfl, ow.kept⟩
set_option maxHeartbeats 4000000 in
theorem avalue_45 (A : Option Addr) (cap : Nat) (a b : Ar) (w : World) (mx : Int) (HM : Mx w mx) (hr : ArgsAt w A [a, b]) (ha : SmallAr a) (hb : SmallAr b) (hla : a.l.length ≤ 900000) (hlb : b.l.length ≤ 900000) (hc : 2 ≤ cap) (hok : okArg a = true) (hob : okArg b = true) :
    Calls Tryz.prog 33 #[.int .u8 45, .slice A 2 cap] w fun e w' => e = .returned (aggV (val16 45 [a, b])) ∧ Kept w w' := by
  obtain ⟨bq0, o0, S0, z0, hA0, e0, q0, y0⟩ := hr.elem (i := 0) rfl; obtain ⟨bq1, o1, S1, z1, hA1, e1, q1, y1⟩ := hr.elem (i := 1) rfl; obtain ⟨xa, la, ea⟩ : ∃ x l, area16 a = (x, l) := ⟨_, _, rfl⟩; obtain ⟨hla2, hls⟩ := area_small ea ha (by omega); go_enter Tryz.func33, Tryz.ntmps33; refine sq fun hK1 => ?_
  refine ro [yNew w.heap.size (.cells #[.int .u8 0, .int .i64 0, .string ⟨[].toArray⟩] 25 (0, 0))] 1 81 rfl rfl (Own.start w) (
    aP (fun hk bs hd => xalloc rfl (by kernel_rfl)) rfl <|
    arm0) fun fa fw bs hv ap z q ov => ?_
  have s0 := bs.get 0 rfl rfl; have s1 := bs.get 1 rfl rfl; obtain ⟨gb1, s4, bgb1, hgb1⟩ := gotP hv 0 rfl rfl rfl; have ov := ov.cons hgb1 (Nat.le_trans (Own.start w).kept.size bgb1) ((Own.start w).below bgb1); have ow := ov; refine wt hK1 ?_; refine sq fun hK2 => ?_; refine sq fun hK3 => ?_; refine wp_region_lit ?_; refine wl_enter (want0 rfl) (xcall0 rfl (en_agg_simple _ _)) ((asimple_any _).mono ?_); rintro _ fw ⟨gb2, rfl, hb, hh, hk⟩; refine ⟨_, rfl, ?_⟩; have ow := ow.add (t := Th.obj gb2 (.map (tabs16 10) 10)) hh hk (fun g e => by cases e; exact hb); clear hb hh hk; have him : Instr.findNow (.int .u8) (.int .u8 (45 : Nat)) (tabs16 10).toList 0 = some none := by kernel_rfl
  refine wl_value (v := .int .u8 45) (want0 rfl) (xmove rfl (pb 11 s0 rfl)) ?_; refine wl_value (v := .nilFunc) (want0 rfl) (xlookN16 (k := 45) rfl (pb 12 (put_in (t := 11) z rfl) rfl) (put_in (t := 12) (put_size z) rfl) (ow.get 0 rfl) him) ?_; refine wl_value (v := .nilFunc) (want0 rfl) (xassign rfl (put_in (t := 13) (put_size (put_size z)) rfl)) ?_; refine gt4 (put_size (put_size (put_size (put_size z)))) (put_def (put_def (put_def (put_def q)))) ow 0 (pb 5 (pb 13 (pb 12 (pb 11 s0 rfl) rfl) rfl) rfl) 1 (pb 5 (pb 13 (pb 12 (pb 11 s1 rfl) rfl) rfl) rfl) 4 (pb 5 (pb 13 (pb 12 (pb 11 s4 rfl) rfl) rfl) rfl) 5 (put_in (t := 5) (put_size (put_size (put_size z))) rfl) fun fa fw z q ow s0 s1 s4 s5 => ?_; refine wt hK3 ?_; refine sq fun hK4 => ?_
  refine ro [yV _, yV _] 2 81 z q ow (
    mvS s5 rfl rfl rfl rfl <|
    aS (fun hk bs hd => xneN rfl (dp hd 0 rfl)) rfl <|
    arm0) fun fa fw bs hv ap z q ow => ?_
  obtain ⟨s0, s1, s4, s5⟩ := b4 bs s0 s1 s4 s5; have s15 := gv hv 1 rfl rfl; refine wt hK4 ?_; refine wp_cond_false (s15) ?_; refine wp_skip ?_; refine tn hK2 ?_; refine sq fun hK5 => ?_; refine sq fun hK6 => ?_
  refine ro [yV _] 1 81 z q ow (
    mvS s0 rfl rfl rfl rfl <|
    arm0) fun fa fw bs hv ap z q ow => ?_
  obtain ⟨s0, s1, s4⟩ := b3 bs s0 s1 s4; have s28 := gv hv 0 rfl rfl; refine wt hK6 ?_; refine wp_block ?_; refine sq fun hK7 => ?_; refine sq fun hK8 => ?_
  refine ro [yV (.bool false), yV _] 2 81 z q ow (
    aE (fun hk bs hd => xeqi rfl (bg bs s28) rfl) (congrArg Value.bool rfl) rfl <|
    asD 0 rfl rfl rfl rfl rfl rfl <|
    arm0) fun fa fw bs hv ap z q ow => ?_
  obtain ⟨s0, s1, s4, s28⟩ := b4 bs s0 s1 s4 s28; have s29 := gv hv 1 rfl rfl; refine wt hK8 ?_; refine wp_cond_false (s29) ?_
  refine ro [yV (.bool false), yV _] 2 81 z q ow (
    aE (fun hk bs hd => xeqi rfl (bg bs s28) rfl) (congrArg Value.bool rfl) rfl <|
    asD 0 rfl rfl rfl rfl rfl rfl <|
    arm0) fun fa fw bs hv ap z q ow => ?_
  obtain ⟨s0, s1, s4, s28⟩ := b4 bs s0 s1 s4 s28; have s29 := gv hv 1 rfl rfl; refine wt hK7 ?_; refine wp_cond_false (s29) ?_; refine sq fun hK9 => ?_
  refine ro [yV (.bool true), yV _] 2 81 z q ow (
    aE (fun hk bs hd => xeqi rfl (bg bs s28) rfl) (congrArg Value.bool rfl) rfl <|
    asD 0 rfl rfl rfl rfl rfl rfl <|
    arm0) fun fa fw bs hv ap z q ow => ?_
  obtain ⟨s0, s1, s4, s28⟩ := b4 bs s0 s1 s4 s28; have s36 := gv hv 1 rfl rfl; refine wt hK9 ?_; refine wp_cond_true (s36) ?_; refine sq fun hK10 => ?_; refine sq fun hK11 => ?_
  refine ro [yV _, yV _, yV (.pointer (some ⟨bq1, o1 + 1 * 9 + 1, none⟩)), yV (aggV b.v), yNew fw.heap.size (.cells #[.int .u8 0, .int .i64 0, .string ⟨[].toArray⟩] 25 (0, 0))] 5 81 z q ow (
    mvS s1 rfl rfl rfl rfl <|
    aS (fun hk bs hd => xplaceK 9 Tryz.underlying22 (by kernel_rfl) rfl hA1 (dp hd 0 rfl) rfl (Nat.le_of_ble_eq_true rfl)) rfl <|
    aS (fun hk bs hd => xfieldAddr rfl (dp hd 1 rfl) (by kernel_rfl)) rfl <|
    aS (fun hk bs hd => xpartK (n := 3) 1 rfl (by kernel_rfl) (by kernel_rfl) (dp hd 2 rfl) rfl (e1.kept (ow.keep hk).kept)) rfl <|
    aP (fun hk bs hd => xalloc rfl (by kernel_rfl)) rfl <|
    arm0) fun fa fw bs hv ap z q ov => ?_
  obtain ⟨s0, s1, s4⟩ := b3 bs s0 s1 s4; have s41 := gv hv 3 rfl rfl; obtain ⟨gb3, s9, bgb3, hgb3⟩ := gotP hv 4 rfl rfl rfl; have ov := ov.cons hgb3 (Nat.le_trans ow.kept.size bgb3) (ow.below bgb3); have ow := ov; refine ws ow 0 0 s9 s41 fun fw ow => ?_; refine wt hK11 ?_; refine sq fun hK12 => ?_
  refine ro [yV (.pointer (some ⟨gb3, 0, none⟩)), yV _, yV _] 3 81 z q ow (
    aS (fun hk bs hd => xfieldAddr rfl (bg bs s9) (by kernel_rfl)) rfl <|
    aS (fun hk bs hd => xloadB rfl (by kernel_rfl) (dp hd 0 rfl) ((ow.keep hk).box 0 rfl) rfl) rfl <|
    aS (fun hk bs hd => xeqi rfl (dp hd 1 rfl) rfl) rfl <|
    arm0) fun fa fw bs hv ap z q ow => ?_
  obtain ⟨s0, s1, s4, s9⟩ := b4 bs s0 s1 s4 s9; have s44 := gv hv 2 rfl rfl; refine wt hK12 ?_
  by_cases hc1 : (b.v.k : Int) = (4 : Int)
  ·refine ct s44 ((decide_eq_true_iff).2 hc1) ?_
   refine sq fun hK13 => ?_
   refine ro [yV (aggV b.v)] 1 81 z q ow (
     aS (fun hk bs hd => xloadN 3 rfl (by kernel_rfl) (by kernel_rfl) (bg bs s9) ((ow.keep hk).box 0 rfl) (Nat.le_of_ble_eq_true rfl) rfl) rfl <|
     arm0) fun fa fw bs hv ap z q ow => ?_
   obtain ⟨s0, s1, s4⟩ := b3 bs s0 s1 s4; have s45 := gv hv 0 rfl rfl; refine ws ow 2 0 s4 s45 fun fw ow => ?_; refine wt hK13 ?_; refine wp_ret ?_; refine then_r ?_; refine block_r ?_; refine then_r ?_; refine rs3 s4 (ow.box 2 rfl) q ?_; exact ⟨congrArg (fun v => Ending.returned (aggV v)) (show _ = countIf16 a b.v from (cif_err hc1).symm), ow.kept⟩
  refine cf s44 (decide_eq_true_iff) hc1 ?_; refine wp_skip ?_; refine tn hK10 ?_; refine sq fun hK14 => ?_
  refine ro [yV _, yV _, yV (.agg #[.bool a.w, .int .u8 a.v.k, .int .i64 a.v.n, .string ⟨a.v.t.toArray⟩, .int .i64 a.x.c1, .int .i64 a.x.r1, .int .i64 a.x.c2, .int .i64 a.x.r2, .slice S0 a.l.length z0]), yP (AreaP xa la) areaP_stays, yV _, yV _, yV (.pointer (some ⟨bq1, o1 + 1 * 9 + 1, none⟩)), yV (aggV b.v), yV (aggV (cif16 xa la b.v))] 9 81 z q ow (
    mvS s1 rfl rfl rfl rfl <|
    aS (fun hk bs hd => xplaceK 9 Tryz.underlying22 (by kernel_rfl) rfl hA0 (dp hd 0 rfl) rfl (Nat.le_of_ble_eq_true rfl)) rfl <|
    aS (fun hk bs hd => xpartK (n := 9) 0 rfl (by kernel_rfl) (by kernel_rfl) (dp hd 1 rfl) rfl (e0.kept (ow.keep hk).kept)) rfl <|
    arm (fun aa ww hk bs hd => by
      have d2 := dp hd 2 rfl; exact stepX_enter (want0 rfl) (xcall1 (u := .agg #[.bool a.w, .int .u8 a.v.k, .int .i64 a.v.n, .string ⟨a.v.t.toArray⟩, .int .i64 a.x.c1, .int .i64 a.x.r1, .int .i64 a.x.c2, .int .i64 a.x.r2, .slice S0 a.l.length z0]) rfl (d2) (en_agg_area _ _)) ((aarea_p ea (q0.kept (ow.keep hk).kept) y0).mono fun _ _ ⟨A2, c2, he, hR, hc2, hk2⟩ => ⟨_, he, ⟨A2, c2, rfl, hR, hc2⟩, hk2⟩) rfl
      ) <|
    mvS s1 rfl rfl rfl rfl <|
    aS (fun hk bs hd => xplaceK 9 Tryz.underlying22 (by kernel_rfl) rfl hA1 (dp hd 4 rfl) rfl (Nat.le_of_ble_eq_true rfl)) rfl <|
    aS (fun hk bs hd => xfieldAddr rfl (dp hd 5 rfl) (by kernel_rfl)) rfl <|
    aS (fun hk bs hd => xpartK (n := 3) 1 rfl (by kernel_rfl) (by kernel_rfl) (dp hd 6 rfl) rfl (e1.kept (ow.keep hk).kept)) rfl <|
    arm (fun aa ww hk bs hd => by
      have d7 := dp hd 7 rfl; obtain ⟨A2, c2, e3, hR, hc2⟩ := (show AreaP xa la (aa.eval (.tmp 49)) ww from depX hd 3 rfl); exact stepX_enter (want0 rfl) (xcall2 (u := .agg #[.int .i64 xa.c1, .int .i64 xa.r1, .int .i64 xa.c2, .int .i64 xa.r2, .slice A2 la.length c2]) (v := aggV b.v) rfl e3 (d7) (en_agg_countIf _ _)) ((acountif_any xa la A2 c2 b.v ww hR hla2 hb.1 hls).mono fun _ _ ⟨he, hk2⟩ => ⟨_, he, rfl, hk2⟩) rfl
      ) <|
    arm0) fun fa fw bs hv ap z q ow => ?_
  obtain ⟨s0, s1, s4⟩ := b3 bs s0 s1 s4; have s54 := gv hv 8 rfl rfl; refine ws ow 2 0 s4 s54 fun fw ow => ?_; refine wt hK14 ?_; refine wp_ret ?_; refine block_r ?_; refine then_r ?_; refine rs3 s4 (ow.box 2 rfl) q ?_; exact ⟨congrArg (fun v => Ending.returned (aggV v)) (show _ = countIf16 a b.v from cif_val ea hc1), ow.kept⟩
set_option maxHeartbeats 4000000 in
theorem avalue_44 (A : Option Addr) (cap : Nat) (a b : Ar) (w : World) (mx : Int) (HM : Mx w mx) (hr : ArgsAt w A [a, b]) (ha : SmallAr a) (hb : SmallAr b) (hla : a.l.length ≤ 900000) (hlb : b.l.length ≤ 900000) (hc : 2 ≤ cap) (hok : okArg a = true) (hob : okArg b = true) :
    Calls Tryz.prog 33 #[.int .u8 44, .slice A 2 cap] w fun e w' => e = .returned (aggV (val16 44 [a, b])) ∧ Kept w w' := by
  obtain ⟨bq0, o0, S0, z0, hA0, e0, q0, y0⟩ := hr.elem (i := 0) rfl; obtain ⟨bq1, o1, S1, z1, hA1, e1, q1, y1⟩ := hr.elem (i := 1) rfl; obtain ⟨xb, lb, eb⟩ : ∃ x l, area16 b = (x, l) := ⟨_, _, rfl⟩; obtain ⟨hlb2, hls⟩ := area_small eb hb (by omega); have hox : okR xb = true := by have := area_ok hob; rw [eb] at this; exact this
  have hfi := area_fine eb hob; go_enter Tryz.func33, Tryz.ntmps33; refine sq fun hK1 => ?_
  refine ro [yNew w.heap.size (.cells #[.int .u8 0, .int .i64 0, .string ⟨[].toArray⟩] 25 (0, 0))] 1 81 rfl rfl (Own.start w) (
    aP (fun hk bs hd => xalloc rfl (by kernel_rfl)) rfl <|
    arm0) fun fa fw bs hv ap z q ov => ?_
  have s0 := bs.get 0 rfl rfl; have s1 := bs.get 1 rfl rfl; obtain ⟨gb1, s4, bgb1, hgb1⟩ := gotP hv 0 rfl rfl rfl; have ov := ov.cons hgb1 (Nat.le_trans (Own.start w).kept.size bgb1) ((Own.start w).below bgb1); have ow := ov; refine wt hK1 ?_; refine sq fun hK2 => ?_; refine sq fun hK3 => ?_; refine wp_region_lit ?_; refine wl_enter (want0 rfl) (xcall0 rfl (en_agg_simple _ _)) ((asimple_any _).mono ?_); rintro _ fw ⟨gb2, rfl, hb, hh, hk⟩; refine ⟨_, rfl, ?_⟩; have ow := ow.add (t := Th.obj gb2 (.map (tabs16 10) 10)) hh hk (fun g e => by cases e; exact hb); clear hb hh hk; have him : Instr.findNow (.int .u8) (.int .u8 (44 : Nat)) (tabs16 10).toList 0 = some none := by kernel_rfl
  refine wl_value (v := .int .u8 44) (want0 rfl) (xmove rfl (pb 11 s0 rfl)) ?_; refine wl_value (v := .nilFunc) (want0 rfl) (xlookN16 (k := 44) rfl (pb 12 (put_in (t := 11) z rfl) rfl) (put_in (t := 12) (put_size z) rfl) (ow.get 0 rfl) him) ?_; refine wl_value (v := .nilFunc) (want0 rfl) (xassign rfl (put_in (t := 13) (put_size (put_size z)) rfl)) ?_; refine gt4 (put_size (put_size (put_size (put_size z)))) (put_def (put_def (put_def (put_def q)))) ow 0 (pb 5 (pb 13 (pb 12 (pb 11 s0 rfl) rfl) rfl) rfl) 1 (pb 5 (pb 13 (pb 12 (pb 11 s1 rfl) rfl) rfl) rfl) 4 (pb 5 (pb 13 (pb 12 (pb 11 s4 rfl) rfl) rfl) rfl) 5 (put_in (t := 5) (put_size (put_size (put_size z))) rfl) fun fa fw z q ow s0 s1 s4 s5 => ?_; refine wt hK3 ?_; refine sq fun hK4 => ?_
  refine ro [yV _, yV _] 2 81 z q ow (
    mvS s5 rfl rfl rfl rfl <|
    aS (fun hk bs hd => xneN rfl (dp hd 0 rfl)) rfl <|
    arm0) fun fa fw bs hv ap z q ow => ?_
  obtain ⟨s0, s1, s4, s5⟩ := b4 bs s0 s1 s4 s5; have s15 := gv hv 1 rfl rfl; refine wt hK4 ?_; refine wp_cond_false (s15) ?_; refine wp_skip ?_; refine tn hK2 ?_; refine sq fun hK5 => ?_; refine sq fun hK6 => ?_
  refine ro [yV _] 1 81 z q ow (
    mvS s0 rfl rfl rfl rfl <|
    arm0) fun fa fw bs hv ap z q ow => ?_
  obtain ⟨s0, s1, s4⟩ := b3 bs s0 s1 s4; have s28 := gv hv 0 rfl rfl; refine wt hK6 ?_; refine wp_block ?_; refine sq fun hK7 => ?_; refine sq fun hK8 => ?_
  refine ro [yV (.bool false), yV _] 2 81 z q ow (
    aE (fun hk bs hd => xeqi rfl (bg bs s28) rfl) (congrArg Value.bool rfl) rfl <|
    asD 0 rfl rfl rfl rfl rfl rfl <|
    arm0) fun fa fw bs hv ap z q ow => ?_
  obtain ⟨s0, s1, s4, s28⟩ := b4 bs s0 s1 s4 s28; have s29 := gv hv 1 rfl rfl; refine wt hK8 ?_; refine wp_cond_false (s29) ?_
  refine ro [yV (.bool false), yV _] 2 81 z q ow (
    aE (fun hk bs hd => xeqi rfl (bg bs s28) rfl) (congrArg Value.bool rfl) rfl <|
    asD 0 rfl rfl rfl rfl rfl rfl <|
    arm0) fun fa fw bs hv ap z q ow => ?_
  obtain ⟨s0, s1, s4, s28⟩ := b4 bs s0 s1 s4 s28; have s29 := gv hv 1 rfl rfl; refine wt hK7 ?_; refine wp_cond_false (s29) ?_; refine sq fun hK9 => ?_
  refine ro [yV (.bool false), yV _] 2 81 z q ow (
    aE (fun hk bs hd => xeqi rfl (bg bs s28) rfl) (congrArg Value.bool rfl) rfl <|
    asD 0 rfl rfl rfl rfl rfl rfl <|
    arm0) fun fa fw bs hv ap z q ow => ?_
  obtain ⟨s0, s1, s4, s28⟩ := b4 bs s0 s1 s4 s28; have s36 := gv hv 1 rfl rfl; refine wt hK9 ?_; refine wp_cond_false (s36) ?_; refine sq fun hK10 => ?_
  refine ro [yV (.bool true), yV _] 2 81 z q ow (
    aE (fun hk bs hd => xeqi rfl (bg bs s28) rfl) (congrArg Value.bool rfl) rfl <|
    asD 0 rfl rfl rfl rfl rfl rfl <|
    arm0) fun fa fw bs hv ap z q ow => ?_
  obtain ⟨s0, s1, s4, s28⟩ := b4 bs s0 s1 s4 s28; have s55 := gv hv 1 rfl rfl; refine wt hK10 ?_; refine wp_cond_true (s55) ?_; refine sq fun hK11 => ?_; refine sq fun hK12 => ?_
  refine ro [yV _, yV _, yV (.pointer (some ⟨bq0, o0 + 0 * 9 + 1, none⟩)), yV (aggV a.v), yNew fw.heap.size (.cells #[.int .u8 0, .int .i64 0, .string ⟨[].toArray⟩] 25 (0, 0))] 5 81 z q ow (
    mvS s1 rfl rfl rfl rfl <|
    aS (fun hk bs hd => xplaceK 9 Tryz.underlying22 (by kernel_rfl) rfl hA0 (dp hd 0 rfl) rfl (Nat.le_of_ble_eq_true rfl)) rfl <|
    aS (fun hk bs hd => xfieldAddr rfl (dp hd 1 rfl) (by kernel_rfl)) rfl <|
    aS (fun hk bs hd => xpartK (n := 3) 1 rfl (by kernel_rfl) (by kernel_rfl) (dp hd 2 rfl) rfl (e0.kept (ow.keep hk).kept)) rfl <|
    aP (fun hk bs hd => xalloc rfl (by kernel_rfl)) rfl <|
    arm0) fun fa fw bs hv ap z q ov => ?_
  obtain ⟨s0, s1, s4⟩ := b3 bs s0 s1 s4; have s60 := gv hv 3 rfl rfl; obtain ⟨gb3, s10, bgb3, hgb3⟩ := gotP hv 4 rfl rfl rfl; have ov := ov.cons hgb3 (Nat.le_trans ow.kept.size bgb3) (ow.below bgb3); have ow := ov; refine ws ow 0 0 s10 s60 fun fw ow => ?_; refine wt hK12 ?_; refine sq fun hK13 => ?_
  refine ro [yV (.pointer (some ⟨gb3, 0, none⟩)), yV _, yV _] 3 81 z q ow (
    aS (fun hk bs hd => xfieldAddr rfl (bg bs s10) (by kernel_rfl)) rfl <|
    aS (fun hk bs hd => xloadB rfl (by kernel_rfl) (dp hd 0 rfl) ((ow.keep hk).box 0 rfl) rfl) rfl <|
    aS (fun hk bs hd => xeqi rfl (dp hd 1 rfl) rfl) rfl <|
    arm0) fun fa fw bs hv ap z q ow => ?_
  obtain ⟨s0, s1, s4, s10⟩ := b4 bs s0 s1 s4 s10; have s63 := gv hv 2 rfl rfl; refine wt hK13 ?_
  by_cases hc1 : (a.v.k : Int) = (4 : Int)
  ·refine ct s63 ((decide_eq_true_iff).2 hc1) ?_
   refine sq fun hK14 => ?_
   refine ro [yV (aggV a.v)] 1 81 z q ow (
     aS (fun hk bs hd => xloadN 3 rfl (by kernel_rfl) (by kernel_rfl) (bg bs s10) ((ow.keep hk).box 0 rfl) (Nat.le_of_ble_eq_true rfl) rfl) rfl <|
     arm0) fun fa fw bs hv ap z q ow => ?_
   obtain ⟨s0, s1, s4⟩ := b3 bs s0 s1 s4; have s64 := gv hv 0 rfl rfl; refine ws ow 2 0 s4 s64 fun fw ow => ?_; refine wt hK14 ?_; refine wp_ret ?_; refine then_r ?_; refine block_r ?_; refine then_r ?_; refine rs3 s4 (ow.box 2 rfl) q ?_; exact ⟨congrArg (fun v => Ending.returned (aggV v)) (show _ = vMatch16 a.v b from (mat_err hc1).symm), ow.kept⟩
  refine cf s63 (decide_eq_true_iff) hc1 ?_; refine wp_skip ?_; refine tn hK11 ?_; refine sq fun hK15 => ?_
  refine ro [yV _, yV _, yV (.pointer (some ⟨bq0, o0 + 0 * 9 + 1, none⟩)), yV (aggV a.v), yV _, yV _, yV (.agg #[.bool b.w, .int .u8 b.v.k, .int .i64 b.v.n, .string ⟨b.v.t.toArray⟩, .int .i64 b.x.c1, .int .i64 b.x.r1, .int .i64 b.x.c2, .int .i64 b.x.r2, .slice S1 b.l.length z1]), yP (AreaP xb lb) areaP_stays, yV (aggV (mat16 xb lb a.v))] 9 81 z q ow (
    mvS s1 rfl rfl rfl rfl <|
    aS (fun hk bs hd => xplaceK 9 Tryz.underlying22 (by kernel_rfl) rfl hA0 (dp hd 0 rfl) rfl (Nat.le_of_ble_eq_true rfl)) rfl <|
    aS (fun hk bs hd => xfieldAddr rfl (dp hd 1 rfl) (by kernel_rfl)) rfl <|
    aS (fun hk bs hd => xpartK (n := 3) 1 rfl (by kernel_rfl) (by kernel_rfl) (dp hd 2 rfl) rfl (e0.kept (ow.keep hk).kept)) rfl <|
    mvS s1 rfl rfl rfl rfl <|
    aS (fun hk bs hd => xplaceK 9 Tryz.underlying22 (by kernel_rfl) rfl hA1 (dp hd 4 rfl) rfl (Nat.le_of_ble_eq_true rfl)) rfl <|
    aS (fun hk bs hd => xpartK (n := 9) 0 rfl (by kernel_rfl) (by kernel_rfl) (dp hd 5 rfl) rfl (e1.kept (ow.keep hk).kept)) rfl <|
    arm (fun aa ww hk bs hd => by
      have d6 := dp hd 6 rfl; exact stepX_enter (want0 rfl) (xcall1 (u := .agg #[.bool b.w, .int .u8 b.v.k, .int .i64 b.v.n, .string ⟨b.v.t.toArray⟩, .int .i64 b.x.c1, .int .i64 b.x.r1, .int .i64 b.x.c2, .int .i64 b.x.r2, .slice S1 b.l.length z1]) rfl (d6) (en_agg_area _ _)) ((aarea_p eb (q1.kept (ow.keep hk).kept) y1).mono fun _ _ ⟨A2, c2, he, hR, hc2, hk2⟩ => ⟨_, he, ⟨A2, c2, rfl, hR, hc2⟩, hk2⟩) rfl
      ) <|
    arm (fun aa ww hk bs hd => by
      have d3 := dp hd 3 rfl; obtain ⟨A2, c2, e7, hR, hc2⟩ := (show AreaP xb lb (aa.eval (.tmp 72)) ww from depX hd 7 rfl); exact stepX_enter (want0 rfl) (xcall2 (u := aggV a.v) (v := .agg #[.int .i64 xb.c1, .int .i64 xb.r1, .int .i64 xb.c2, .int .i64 xb.r2, .slice A2 lb.length c2]) rfl (d3) e7 (en_agg_match _ _)) ((amatch_any xb lb A2 c2 a.v ww hR hlb2 ha.1 hls hox hfi).mono fun _ _ ⟨he, hk2⟩ => ⟨_, he, rfl, hk2⟩) rfl
      ) <|
    arm0) fun fa fw bs hv ap z q ow => ?_
  obtain ⟨s0, s1, s4⟩ := b3 bs s0 s1 s4; have s73 := gv hv 8 rfl rfl; refine ws ow 2 0 s4 s73 fun fw ow => ?_; refine wt hK15 ?_; refine wp_ret ?_; refine block_r ?_; refine then_r ?_; refine rs3 s4 (ow.box 2 rfl) q ?_; exact ⟨congrArg (fun v => Ending.returned (aggV v)) (show _ = vMatch16 a.v b from mat_val eb hc1), ow.kept⟩
set_option maxHeartbeats 4000000 in
theorem avalue_43a (A : Option Addr) (cap : Nat) (a b : Ar) (w : World) (mx : Int) (HM : Mx w mx) (hr : ArgsAt w A [a, b]) (ha : SmallAr a) (hb : SmallAr b) (hla : a.l.length ≤ 900000) (hlb : b.l.length ≤ 900000) (hc : 2 ≤ cap) (hok : okArg a = true) (hob : okArg b = true) :
    Calls Tryz.prog 33 #[.int .u8 43, .slice A 2 cap] w fun e w' => e = .returned (aggV (val16 43 [a, b])) ∧ Kept w w' := by
  go_enter Tryz.func33, Tryz.ntmps33; refine sq fun hK1 => ?_
  refine ro [yNew w.heap.size (.cells #[.int .u8 0, .int .i64 0, .string ⟨[].toArray⟩] 25 (0, 0))] 1 81 rfl rfl (Own.start w) (
    aP (fun hk bs hd => xalloc rfl (by kernel_rfl)) rfl <|
    arm0) fun fa fw bs hv ap z q ov => ?_
  have s0 := bs.get 0 rfl rfl; have s1 := bs.get 1 rfl rfl; obtain ⟨gb1, s4, bgb1, hgb1⟩ := gotP hv 0 rfl rfl rfl; have ov := ov.cons hgb1 (Nat.le_trans (Own.start w).kept.size bgb1) ((Own.start w).below bgb1); have ow := ov; refine wt hK1 ?_; refine sq fun hK2 => ?_; refine sq fun hK3 => ?_; refine wp_region_lit ?_; refine wl_enter (want0 rfl) (xcall0 rfl (en_agg_simple _ _)) ((asimple_any _).mono ?_); rintro _ fw ⟨gb2, rfl, hb, hh, hk⟩; refine ⟨_, rfl, ?_⟩; have ow := ow.add (t := Th.obj gb2 (.map (tabs16 10) 10)) hh hk (fun g e => by cases e; exact hb); clear hb hh hk; have him : Instr.findNow (.int .u8) (.int .u8 (43 : Nat)) (tabs16 10).toList 0 = some none := by kernel_rfl
  refine wl_value (v := .int .u8 43) (want0 rfl) (xmove rfl (pb 11 s0 rfl)) ?_; refine wl_value (v := .nilFunc) (want0 rfl) (xlookN16 (k := 43) rfl (pb 12 (put_in (t := 11) z rfl) rfl) (put_in (t := 12) (put_size z) rfl) (ow.get 0 rfl) him) ?_; refine wl_value (v := .nilFunc) (want0 rfl) (xassign rfl (put_in (t := 13) (put_size (put_size z)) rfl)) ?_; refine gt4 (put_size (put_size (put_size (put_size z)))) (put_def (put_def (put_def (put_def q)))) ow 0 (pb 5 (pb 13 (pb 12 (pb 11 s0 rfl) rfl) rfl) rfl) 1 (pb 5 (pb 13 (pb 12 (pb 11 s1 rfl) rfl) rfl) rfl) 4 (pb 5 (pb 13 (pb 12 (pb 11 s4 rfl) rfl) rfl) rfl) 5 (put_in (t := 5) (put_size (put_size (put_size z))) rfl) fun fa fw z q ow s0 s1 s4 s5 => ?_; refine wt hK3 ?_; refine sq fun hK4 => ?_
  refine ro [yV _, yV _] 2 81 z q ow (
    mvS s5 rfl rfl rfl rfl <|
    aS (fun hk bs hd => xneN rfl (dp hd 0 rfl)) rfl <|
    arm0) fun fa fw bs hv ap z q ow => ?_
  obtain ⟨s0, s1, s4, s5⟩ := b4 bs s0 s1 s4 s5; have s15 := gv hv 1 rfl rfl; refine wt hK4 ?_; refine wp_cond_false (s15) ?_; refine wp_skip ?_; refine tn hK2 ?_; refine sq fun hK5 => ?_; refine sq fun hK6 => ?_
  refine ro [yV _] 1 81 z q ow (
    mvS s0 rfl rfl rfl rfl <|
    arm0) fun fa fw bs hv ap z q ow => ?_
  obtain ⟨s0, s1, s4⟩ := b3 bs s0 s1 s4; have s28 := gv hv 0 rfl rfl; refine wt hK6 ?_; refine wp_block ?_; refine sq fun hK7 => ?_; refine sq fun hK8 => ?_
  refine ro [yV (.bool false), yV _] 2 81 z q ow (
    aE (fun hk bs hd => xeqi rfl (bg bs s28) rfl) (congrArg Value.bool rfl) rfl <|
    asD 0 rfl rfl rfl rfl rfl rfl <|
    arm0) fun fa fw bs hv ap z q ow => ?_
  obtain ⟨s0, s1, s4, s28⟩ := b4 bs s0 s1 s4 s28; have s29 := gv hv 1 rfl rfl; refine wt hK8 ?_; refine wp_cond_false (s29) ?_
  refine ro [yV (.bool false), yV _] 2 81 z q ow (
    aE (fun hk bs hd => xeqi rfl (bg bs s28) rfl) (congrArg Value.bool rfl) rfl <|
    asD 0 rfl rfl rfl rfl rfl rfl <|
    arm0) fun fa fw bs hv ap z q ow => ?_
  obtain ⟨s0, s1, s4, s28⟩ := b4 bs s0 s1 s4 s28; have s29 := gv hv 1 rfl rfl; refine wt hK7 ?_; refine wp_cond_false (s29) ?_; refine sq fun hK9 => ?_
  refine ro [yV (.bool false), yV _] 2 81 z q ow (
    aE (fun hk bs hd => xeqi rfl (bg bs s28) rfl) (congrArg Value.bool rfl) rfl <|
    asD 0 rfl rfl rfl rfl rfl rfl <|
    arm0) fun fa fw bs hv ap z q ow => ?_
  obtain ⟨s0, s1, s4, s28⟩ := b4 bs s0 s1 s4 s28; have s36 := gv hv 1 rfl rfl; refine wt hK9 ?_; refine wp_cond_false (s36) ?_; refine sq fun hK10 => ?_
  refine ro [yV (.bool false), yV _] 2 81 z q ow (
    aE (fun hk bs hd => xeqi rfl (bg bs s28) rfl) (congrArg Value.bool rfl) rfl <|
    asD 0 rfl rfl rfl rfl rfl rfl <|
    arm0) fun fa fw bs hv ap z q ow => ?_
  obtain ⟨s0, s1, s4, s28⟩ := b4 bs s0 s1 s4 s28; have s55 := gv hv 1 rfl rfl; refine wt hK10 ?_; refine wp_cond_false (s55) ?_; refine sq fun hK11 => ?_
  refine ro [yV (.bool true), yV _] 2 81 z q ow (
    aE (fun hk bs hd => xeqi rfl (bg bs s28) rfl) (congrArg Value.bool rfl) rfl <|
    asD 0 rfl rfl rfl rfl rfl rfl <|
    arm0) fun fa fw bs hv ap z q ow => ?_
  obtain ⟨s0, s1, s4⟩ := b3 bs s0 s1 s4; have s74 := gv hv 1 rfl rfl; refine wt hK11 ?_; refine wp_cond_true (s74) ?_; refine sq fun hK12 => ?_
  refine ro [yV _, yV (aggV (vIndex16 a [b.v]))] 2 81 z q ow (
    mvS s1 rfl rfl rfl rfl <|
    aC (fun hk bs hd => xcall1 rfl (dp hd 0 rfl) (en_agg_pick _ _)) (fun hk bs hd => apick2 A cap a b _ mx (HM.kept (ow.keep hk).kept) (hr.kept (ow.keep hk).kept) hb.1 hla hok) rfl <|
    arm0) fun fa fw bs hv ap z q ow => ?_
  obtain ⟨s0, s1, s4⟩ := b3 bs s0 s1 s4; have s77 := gv hv 1 rfl rfl; refine ws ow 1 0 s4 s77 fun fw ow => ?_; refine wt hK12 ?_; refine wp_ret ?_; refine block_r ?_; refine then_r ?_; refine rs3 s4 (ow.box 1 rfl) q ?_; exact ⟨rfl, ow.kept⟩
set_option maxHeartbeats 4000000 in
theorem avalue_43b (A : Option Addr) (cap : Nat) (a b c : Ar) (w : World) (mx : Int) (HM : Mx w mx) (hr : ArgsAt w A [a, b, c]) (ha : SmallAr a) (hb : SmallAr b) (hc : SmallAr c) (hla : a.l.length ≤ 900000) (hok : okArg a = true) :
    Calls Tryz.prog 33 #[.int .u8 43, .slice A 3 cap] w fun e w' => e = .returned (aggV (val16 43 [a, b, c])) ∧ Kept w w' := by
  go_enter Tryz.func33, Tryz.ntmps33; refine sq fun hK1 => ?_
  refine ro [yNew w.heap.size (.cells #[.int .u8 0, .int .i64 0, .string ⟨[].toArray⟩] 25 (0, 0))] 1 81 rfl rfl (Own.start w) (
    aP (fun hk bs hd => xalloc rfl (by kernel_rfl)) rfl <|
    arm0) fun fa fw bs hv ap z q ov => ?_
  have s0 := bs.get 0 rfl rfl; have s1 := bs.get 1 rfl rfl; obtain ⟨gb1, s4, bgb1, hgb1⟩ := gotP hv 0 rfl rfl rfl; have ov := ov.cons hgb1 (Nat.le_trans (Own.start w).kept.size bgb1) ((Own.start w).below bgb1); have ow := ov; refine wt hK1 ?_; refine sq fun hK2 => ?_; refine sq fun hK3 => ?_; refine wp_region_lit ?_; refine wl_enter (want0 rfl) (xcall0 rfl (en_agg_simple _ _)) ((asimple_any _).mono ?_); rintro _ fw ⟨gb2, rfl, hb, hh, hk⟩; refine ⟨_, rfl, ?_⟩; have ow := ow.add (t := Th.obj gb2 (.map (tabs16 10) 10)) hh hk (fun g e => by cases e; exact hb); clear hb hh hk; have him : Instr.findNow (.int .u8) (.int .u8 (43 : Nat)) (tabs16 10).toList 0 = some none := by kernel_rfl
  refine wl_value (v := .int .u8 43) (want0 rfl) (xmove rfl (pb 11 s0 rfl)) ?_; refine wl_value (v := .nilFunc) (want0 rfl) (xlookN16 (k := 43) rfl (pb 12 (put_in (t := 11) z rfl) rfl) (put_in (t := 12) (put_size z) rfl) (ow.get 0 rfl) him) ?_; refine wl_value (v := .nilFunc) (want0 rfl) (xassign rfl (put_in (t := 13) (put_size (put_size z)) rfl)) ?_; refine gt4 (put_size (put_size (put_size (put_size z)))) (put_def (put_def (put_def (put_def q)))) ow 0 (pb 5 (pb 13 (pb 12 (pb 11 s0 rfl) rfl) rfl) rfl) 1 (pb 5 (pb 13 (pb 12 (pb 11 s1 rfl) rfl) rfl) rfl) 4 (pb 5 (pb 13 (pb 12 (pb 11 s4 rfl) rfl) rfl) rfl) 5 (put_in (t := 5) (put_size (put_size (put_size z))) rfl) fun fa fw z q ow s0 s1 s4 s5 => ?_; refine wt hK3 ?_; refine sq fun hK4 => ?_
  refine ro [yV _, yV _] 2 81 z q ow (
    mvS s5 rfl rfl rfl rfl <|
    aS (fun hk bs hd => xneN rfl (dp hd 0 rfl)) rfl <|
    arm0) fun fa fw bs hv ap z q ow => ?_
  obtain ⟨s0, s1, s4, s5⟩ := b4 bs s0 s1 s4 s5; have s15 := gv hv 1 rfl rfl; refine wt hK4 ?_; refine wp_cond_false (s15) ?_; refine wp_skip ?_; refine tn hK2 ?_; refine sq fun hK5 => ?_; refine sq fun hK6 => ?_
  refine ro [yV _] 1 81 z q ow (
    mvS s0 rfl rfl rfl rfl <|
    arm0) fun fa fw bs hv ap z q ow => ?_
  obtain ⟨s0, s1, s4⟩ := b3 bs s0 s1 s4; have s28 := gv hv 0 rfl rfl; refine wt hK6 ?_; refine wp_block ?_; refine sq fun hK7 => ?_; refine sq fun hK8 => ?_
  refine ro [yV (.bool false), yV _] 2 81 z q ow (
    aE (fun hk bs hd => xeqi rfl (bg bs s28) rfl) (congrArg Value.bool rfl) rfl <|
    asD 0 rfl rfl rfl rfl rfl rfl <|
    arm0) fun fa fw bs hv ap z q ow => ?_
  obtain ⟨s0, s1, s4, s28⟩ := b4 bs s0 s1 s4 s28; have s29 := gv hv 1 rfl rfl; refine wt hK8 ?_; refine wp_cond_false (s29) ?_
  refine ro [yV (.bool false), yV _] 2 81 z q ow (
    aE (fun hk bs hd => xeqi rfl (bg bs s28) rfl) (congrArg Value.bool rfl) rfl <|
    asD 0 rfl rfl rfl rfl rfl rfl <|
    arm0) fun fa fw bs hv ap z q ow => ?_
  obtain ⟨s0, s1, s4, s28⟩ := b4 bs s0 s1 s4 s28; have s29 := gv hv 1 rfl rfl; refine wt hK7 ?_; refine wp_cond_false (s29) ?_; refine sq fun hK9 => ?_
  refine ro [yV (.bool false), yV _] 2 81 z q ow (
    aE (fun hk bs hd => xeqi rfl (bg bs s28) rfl) (congrArg Value.bool rfl) rfl <|
    asD 0 rfl rfl rfl rfl rfl rfl <|
    arm0) fun fa fw bs hv ap z q ow => ?_
  obtain ⟨s0, s1, s4, s28⟩ := b4 bs s0 s1 s4 s28; have s36 := gv hv 1 rfl rfl; refine wt hK9 ?_; refine wp_cond_false (s36) ?_; refine sq fun hK10 => ?_
  refine ro [yV (.bool false), yV _] 2 81 z q ow (
    aE (fun hk bs hd => xeqi rfl (bg bs s28) rfl) (congrArg Value.bool rfl) rfl <|
    asD 0 rfl rfl rfl rfl rfl rfl <|
    arm0) fun fa fw bs hv ap z q ow => ?_
  obtain ⟨s0, s1, s4, s28⟩ := b4 bs s0 s1 s4 s28; have s55 := gv hv 1 rfl rfl; refine wt hK10 ?_; refine wp_cond_false (s55) ?_; refine sq fun hK11 => ?_
  refine ro [yV (.bool true), yV _] 2 81 z q ow (
    aE (fun hk bs hd => xeqi rfl (bg bs s28) rfl) (congrArg Value.bool rfl) rfl <|
    asD 0 rfl rfl rfl rfl rfl rfl <|
    arm0) fun fa fw bs hv ap z q ow => ?_
  obtain ⟨s0, s1, s4⟩ := b3 bs s0 s1 s4; have s74 := gv hv 1 rfl rfl; refine wt hK11 ?_; refine wp_cond_true (s74) ?_; refine sq fun hK12 => ?_
  refine ro [yV _, yV (aggV (vIndex16 a [b.v, c.v]))] 2 81 z q ow (
    mvS s1 rfl rfl rfl rfl <|
    aC (fun hk bs hd => xcall1 rfl (dp hd 0 rfl) (en_agg_pick _ _)) (fun hk bs hd => apick3 A cap a b c _ mx (HM.kept (ow.keep hk).kept) (hr.kept (ow.keep hk).kept) hb.1 hc.1 hla hok) rfl <|
    arm0) fun fa fw bs hv ap z q ow => ?_
  obtain ⟨s0, s1, s4⟩ := b3 bs s0 s1 s4; have s77 := gv hv 1 rfl rfl; refine ws ow 1 0 s4 s77 fun fw ow => ?_; refine wt hK12 ?_; refine wp_ret ?_; refine block_r ?_; refine then_r ?_; refine rs3 s4 (ow.box 1 rfl) q ?_; exact ⟨rfl, ow.kept⟩
set_option maxHeartbeats 4000000 in
theorem avalue_11 (A : Option Addr) (cap : Nat) (l : List Ar) (w : World) (hr : ArgsAt w A l) (hl : l.length ≤ 1000) (hla : ∀ a ∈ l, a.l.length ≤ 900000) :
    Calls Tryz.prog 33 #[.int .u8 11, .slice A l.length cap] w fun e w' => e = .returned (aggV (val16 11 l)) ∧ Kept w w' := by
  go_enter Tryz.func33, Tryz.ntmps33; refine sq fun hK1 => ?_
  refine ro [yNew w.heap.size (.cells #[.int .u8 0, .int .i64 0, .string ⟨[].toArray⟩] 25 (0, 0))] 1 81 rfl rfl (Own.start w) (
    aP (fun hk bs hd => xalloc rfl (by kernel_rfl)) rfl <|
    arm0) fun fa fw bs hv ap z q ov => ?_
  have s0 := bs.get 0 rfl rfl; have s1 := bs.get 1 rfl rfl; obtain ⟨gb1, s4, bgb1, hgb1⟩ := gotP hv 0 rfl rfl rfl; have ov := ov.cons hgb1 (Nat.le_trans (Own.start w).kept.size bgb1) ((Own.start w).below bgb1); have ow := ov; refine wt hK1 ?_; refine sq fun hK2 => ?_; refine sq fun hK3 => ?_; refine wp_region_lit ?_; refine wl_enter (want0 rfl) (xcall0 rfl (en_agg_simple _ _)) ((asimple_any _).mono ?_); rintro _ fw ⟨gb2, rfl, hb, hh, hk⟩; refine ⟨_, rfl, ?_⟩; have ow := ow.add (t := Th.obj gb2 (.map (tabs16 10) 10)) hh hk (fun g e => by cases e; exact hb); clear hb hh hk; have him : Instr.findNow (.int .u8) (.int .u8 (11 : Nat)) (tabs16 10).toList 0 = some none := by kernel_rfl
  refine wl_value (v := .int .u8 11) (want0 rfl) (xmove rfl (pb 11 s0 rfl)) ?_; refine wl_value (v := .nilFunc) (want0 rfl) (xlookN16 (k := 11) rfl (pb 12 (put_in (t := 11) z rfl) rfl) (put_in (t := 12) (put_size z) rfl) (ow.get 0 rfl) him) ?_; refine wl_value (v := .nilFunc) (want0 rfl) (xassign rfl (put_in (t := 13) (put_size (put_size z)) rfl)) ?_; refine gt4 (put_size (put_size (put_size (put_size z)))) (put_def (put_def (put_def (put_def q)))) ow 0 (pb 5 (pb 13 (pb 12 (pb 11 s0 rfl) rfl) rfl) rfl) 1 (pb 5 (pb 13 (pb 12 (pb 11 s1 rfl) rfl) rfl) rfl) 4 (pb 5 (pb 13 (pb 12 (pb 11 s4 rfl) rfl) rfl) rfl) 5 (put_in (t := 5) (put_size (put_size (put_size z))) rfl) fun fa fw z q ow s0 s1 s4 s5 => ?_; refine wt hK3 ?_; refine sq fun hK4 => ?_
  refine ro [yV _, yV _] 2 81 z q ow (
    mvS s5 rfl rfl rfl rfl <|
    aS (fun hk bs hd => xneN rfl (dp hd 0 rfl)) rfl <|
    arm0) fun fa fw bs hv ap z q ow => ?_
  obtain ⟨s0, s1, s4, s5⟩ := b4 bs s0 s1 s4 s5; have s15 := gv hv 1 rfl rfl; refine wt hK4 ?_; refine wp_cond_false (s15) ?_; refine wp_skip ?_; refine tn hK2 ?_; refine sq fun hK5 => ?_; refine sq fun hK6 => ?_
  refine ro [yV _] 1 81 z q ow (
    mvS s0 rfl rfl rfl rfl <|
    arm0) fun fa fw bs hv ap z q ow => ?_
  obtain ⟨s0, s1, s4⟩ := b3 bs s0 s1 s4; have s28 := gv hv 0 rfl rfl; refine wt hK6 ?_; refine wp_block ?_; refine sq fun hK7 => ?_; refine sq fun hK8 => ?_
  refine ro [yV (.bool false), yV _] 2 81 z q ow (
    aE (fun hk bs hd => xeqi rfl (bg bs s28) rfl) (congrArg Value.bool rfl) rfl <|
    asD 0 rfl rfl rfl rfl rfl rfl <|
    arm0) fun fa fw bs hv ap z q ow => ?_
  obtain ⟨s0, s1, s4, s28⟩ := b4 bs s0 s1 s4 s28; have s29 := gv hv 1 rfl rfl; refine wt hK8 ?_; refine wp_cond_false (s29) ?_
  refine ro [yV (.bool false), yV _] 2 81 z q ow (
    aE (fun hk bs hd => xeqi rfl (bg bs s28) rfl) (congrArg Value.bool rfl) rfl <|
    asD 0 rfl rfl rfl rfl rfl rfl <|
    arm0) fun fa fw bs hv ap z q ow => ?_
  obtain ⟨s0, s1, s4, s28⟩ := b4 bs s0 s1 s4 s28; have s29 := gv hv 1 rfl rfl; refine wt hK7 ?_; refine wp_cond_false (s29) ?_; refine sq fun hK9 => ?_
  refine ro [yV (.bool false), yV _] 2 81 z q ow (
    aE (fun hk bs hd => xeqi rfl (bg bs s28) rfl) (congrArg Value.bool rfl) rfl <|
    asD 0 rfl rfl rfl rfl rfl rfl <|
    arm0) fun fa fw bs hv ap z q ow => ?_
  obtain ⟨s0, s1, s4, s28⟩ := b4 bs s0 s1 s4 s28; have s36 := gv hv 1 rfl rfl; refine wt hK9 ?_; refine wp_cond_false (s36) ?_; refine sq fun hK10 => ?_
  refine ro [yV (.bool false), yV _] 2 81 z q ow (
    aE (fun hk bs hd => xeqi rfl (bg bs s28) rfl) (congrArg Value.bool rfl) rfl <|
    asD 0 rfl rfl rfl rfl rfl rfl <|
    arm0) fun fa fw bs hv ap z q ow => ?_
  obtain ⟨s0, s1, s4, s28⟩ := b4 bs s0 s1 s4 s28; have s55 := gv hv 1 rfl rfl; refine wt hK10 ?_; refine wp_cond_false (s55) ?_; refine sq fun hK11 => ?_
  refine ro [yV (.bool false), yV _] 2 81 z q ow (
    aE (fun hk bs hd => xeqi rfl (bg bs s28) rfl) (congrArg Value.bool rfl) rfl <|
    asD 0 rfl rfl rfl rfl rfl rfl <|
    arm0) fun fa fw bs hv ap z q ow => ?_
  obtain ⟨s0, s1, s4⟩ := b3 bs s0 s1 s4; have s74 := gv hv 1 rfl rfl; refine wt hK11 ?_; refine wp_cond_false (s74) ?_; refine wp_skip ?_; refine block_n ?_; refine tn hK5 ?_; refine sq fun hK12 => ?_
  refine ro [yV _, yV _, yV (aggV (vMake (count16 11 l * 10000)))] 3 81 z q ow (
    mvS s0 rfl rfl rfl rfl <|
    mvS s1 rfl rfl rfl rfl <|
    aC (fun hk bs hd => xcall2 rfl (dp hd 0 rfl) (dp hd 1 rfl) (en_agg_count _ _)) (fun hk bs hd => acount_any 11 A cap l _ (hr.kept (ow.keep hk).kept) (fun a ha => Nat.le_trans (hla a ha) (by decide)) hl) rfl <|
    arm0) fun fa fw bs hv ap z q ow => ?_
  have s4 := bg bs s4; have s80 := gv hv 2 rfl rfl; refine ws ow 1 0 s4 s80 fun fw ow => ?_; refine wt hK12 ?_; refine wp_ret ?_; refine rs3 s4 (ow.box 1 rfl) q ?_; exact ⟨rfl, ow.kept⟩
set_option maxHeartbeats 4000000 in
theorem avalue_12 (A : Option Addr) (cap : Nat) (l : List Ar) (w : World) (hr : ArgsAt w A l) (hl : l.length ≤ 1000) (hla : ∀ a ∈ l, a.l.length ≤ 900000) :
    Calls Tryz.prog 33 #[.int .u8 12, .slice A l.length cap] w fun e w' => e = .returned (aggV (val16 12 l)) ∧ Kept w w' := by
  go_enter Tryz.func33, Tryz.ntmps33; refine sq fun hK1 => ?_
  refine ro [yNew w.heap.size (.cells #[.int .u8 0, .int .i64 0, .string ⟨[].toArray⟩] 25 (0, 0))] 1 81 rfl rfl (Own.start w) (
    aP (fun hk bs hd => xalloc rfl (by kernel_rfl)) rfl <|
    arm0) fun fa fw bs hv ap z q ov => ?_
  have s0 := bs.get 0 rfl rfl; have s1 := bs.get 1 rfl rfl; obtain ⟨gb1, s4, bgb1, hgb1⟩ := gotP hv 0 rfl rfl rfl; have ov := ov.cons hgb1 (Nat.le_trans (Own.start w).kept.size bgb1) ((Own.start w).below bgb1); have ow := ov; refine wt hK1 ?_; refine sq fun hK2 => ?_; refine sq fun hK3 => ?_; refine wp_region_lit ?_; refine wl_enter (want0 rfl) (xcall0 rfl (en_agg_simple _ _)) ((asimple_any _).mono ?_); rintro _ fw ⟨gb2, rfl, hb, hh, hk⟩; refine ⟨_, rfl, ?_⟩; have ow := ow.add (t := Th.obj gb2 (.map (tabs16 10) 10)) hh hk (fun g e => by cases e; exact hb); clear hb hh hk; have him : Instr.findNow (.int .u8) (.int .u8 (12 : Nat)) (tabs16 10).toList 0 = some none := by kernel_rfl
  refine wl_value (v := .int .u8 12) (want0 rfl) (xmove rfl (pb 11 s0 rfl)) ?_; refine wl_value (v := .nilFunc) (want0 rfl) (xlookN16 (k := 12) rfl (pb 12 (put_in (t := 11) z rfl) rfl) (put_in (t := 12) (put_size z) rfl) (ow.get 0 rfl) him) ?_; refine wl_value (v := .nilFunc) (want0 rfl) (xassign rfl (put_in (t := 13) (put_size (put_size z)) rfl)) ?_; refine gt4 (put_size (put_size (put_size (put_size z)))) (put_def (put_def (put_def (put_def q)))) ow 0 (pb 5 (pb 13 (pb 12 (pb 11 s0 rfl) rfl) rfl) rfl) 1 (pb 5 (pb 13 (pb 12 (pb 11 s1 rfl) rfl) rfl) rfl) 4 (pb 5 (pb 13 (pb 12 (pb 11 s4 rfl) rfl) rfl) rfl) 5 (put_in (t := 5) (put_size (put_size (put_size z))) rfl) fun fa fw z q ow s0 s1 s4 s5 => ?_; refine wt hK3 ?_; refine sq fun hK4 => ?_
  refine ro [yV _, yV _] 2 81 z q ow (
    mvS s5 rfl rfl rfl rfl <|
    aS (fun hk bs hd => xneN rfl (dp hd 0 rfl)) rfl <|
    arm0) fun fa fw bs hv ap z q ow => ?_
  obtain ⟨s0, s1, s4, s5⟩ := b4 bs s0 s1 s4 s5; have s15 := gv hv 1 rfl rfl; refine wt hK4 ?_; refine wp_cond_false (s15) ?_; refine wp_skip ?_; refine tn hK2 ?_; refine sq fun hK5 => ?_; refine sq fun hK6 => ?_
  refine ro [yV _] 1 81 z q ow (
    mvS s0 rfl rfl rfl rfl <|
    arm0) fun fa fw bs hv ap z q ow => ?_
  obtain ⟨s0, s1, s4⟩ := b3 bs s0 s1 s4; have s28 := gv hv 0 rfl rfl; refine wt hK6 ?_; refine wp_block ?_; refine sq fun hK7 => ?_; refine sq fun hK8 => ?_
  refine ro [yV (.bool false), yV _] 2 81 z q ow (
    aE (fun hk bs hd => xeqi rfl (bg bs s28) rfl) (congrArg Value.bool rfl) rfl <|
    asD 0 rfl rfl rfl rfl rfl rfl <|
    arm0) fun fa fw bs hv ap z q ow => ?_
  obtain ⟨s0, s1, s4, s28⟩ := b4 bs s0 s1 s4 s28; have s29 := gv hv 1 rfl rfl; refine wt hK8 ?_; refine wp_cond_false (s29) ?_
  refine ro [yV (.bool false), yV _] 2 81 z q ow (
    aE (fun hk bs hd => xeqi rfl (bg bs s28) rfl) (congrArg Value.bool rfl) rfl <|
    asD 0 rfl rfl rfl rfl rfl rfl <|
    arm0) fun fa fw bs hv ap z q ow => ?_
  obtain ⟨s0, s1, s4, s28⟩ := b4 bs s0 s1 s4 s28; have s29 := gv hv 1 rfl rfl; refine wt hK7 ?_; refine wp_cond_false (s29) ?_; refine sq fun hK9 => ?_
  refine ro [yV (.bool false), yV _] 2 81 z q ow (
    aE (fun hk bs hd => xeqi rfl (bg bs s28) rfl) (congrArg Value.bool rfl) rfl <|
    asD 0 rfl rfl rfl rfl rfl rfl <|
    arm0) fun fa fw bs hv ap z q ow => ?_
  obtain ⟨s0, s1, s4, s28⟩ := b4 bs s0 s1 s4 s28; have s36 := gv hv 1 rfl rfl; refine wt hK9 ?_; refine wp_cond_false (s36) ?_; refine sq fun hK10 => ?_
  refine ro [yV (.bool false), yV _] 2 81 z q ow (
    aE (fun hk bs hd => xeqi rfl (bg bs s28) rfl) (congrArg Value.bool rfl) rfl <|
    asD 0 rfl rfl rfl rfl rfl rfl <|
    arm0) fun fa fw bs hv ap z q ow => ?_
  obtain ⟨s0, s1, s4, s28⟩ := b4 bs s0 s1 s4 s28; have s55 := gv hv 1 rfl rfl; refine wt hK10 ?_; refine wp_cond_false (s55) ?_; refine sq fun hK11 => ?_
  refine ro [yV (.bool false), yV _] 2 81 z q ow (
    aE (fun hk bs hd => xeqi rfl (bg bs s28) rfl) (congrArg Value.bool rfl) rfl <|
    asD 0 rfl rfl rfl rfl rfl rfl <|
    arm0) fun fa fw bs hv ap z q ow => ?_
  obtain ⟨s0, s1, s4⟩ := b3 bs s0 s1 s4; have s74 := gv hv 1 rfl rfl; refine wt hK11 ?_; refine wp_cond_false (s74) ?_; refine wp_skip ?_; refine block_n ?_; refine tn hK5 ?_; refine sq fun hK12 => ?_
  refine ro [yV _, yV _, yV (aggV (vMake (count16 12 l * 10000)))] 3 81 z q ow (
    mvS s0 rfl rfl rfl rfl <|
    mvS s1 rfl rfl rfl rfl <|
    aC (fun hk bs hd => xcall2 rfl (dp hd 0 rfl) (dp hd 1 rfl) (en_agg_count _ _)) (fun hk bs hd => acount_any 12 A cap l _ (hr.kept (ow.keep hk).kept) (fun a ha => Nat.le_trans (hla a ha) (by decide)) hl) rfl <|
    arm0) fun fa fw bs hv ap z q ow => ?_
  have s4 := bg bs s4; have s80 := gv hv 2 rfl rfl; refine ws ow 1 0 s4 s80 fun fw ow => ?_; refine wt hK12 ?_; refine wp_ret ?_; refine rs3 s4 (ow.box 1 rfl) q ?_; exact ⟨rfl, ow.kept⟩
set_option maxHeartbeats 4000000 in
theorem avalue_13 (A : Option Addr) (cap : Nat) (l : List Ar) (w : World) (hr : ArgsAt w A l) (hl : l.length ≤ 1000) (hla : ∀ a ∈ l, a.l.length ≤ 900000) :
    Calls Tryz.prog 33 #[.int .u8 13, .slice A l.length cap] w fun e w' => e = .returned (aggV (val16 13 l)) ∧ Kept w w' := by
  go_enter Tryz.func33, Tryz.ntmps33; refine sq fun hK1 => ?_
  refine ro [yNew w.heap.size (.cells #[.int .u8 0, .int .i64 0, .string ⟨[].toArray⟩] 25 (0, 0))] 1 81 rfl rfl (Own.start w) (
    aP (fun hk bs hd => xalloc rfl (by kernel_rfl)) rfl <|
    arm0) fun fa fw bs hv ap z q ov => ?_
  have s0 := bs.get 0 rfl rfl; have s1 := bs.get 1 rfl rfl; obtain ⟨gb1, s4, bgb1, hgb1⟩ := gotP hv 0 rfl rfl rfl; have ov := ov.cons hgb1 (Nat.le_trans (Own.start w).kept.size bgb1) ((Own.start w).below bgb1); have ow := ov; refine wt hK1 ?_; refine sq fun hK2 => ?_; refine sq fun hK3 => ?_; refine wp_region_lit ?_; refine wl_enter (want0 rfl) (xcall0 rfl (en_agg_simple _ _)) ((asimple_any _).mono ?_); rintro _ fw ⟨gb2, rfl, hb, hh, hk⟩; refine ⟨_, rfl, ?_⟩; have ow := ow.add (t := Th.obj gb2 (.map (tabs16 10) 10)) hh hk (fun g e => by cases e; exact hb); clear hb hh hk; have him : Instr.findNow (.int .u8) (.int .u8 (13 : Nat)) (tabs16 10).toList 0 = some none := by kernel_rfl
  refine wl_value (v := .int .u8 13) (want0 rfl) (xmove rfl (pb 11 s0 rfl)) ?_; refine wl_value (v := .nilFunc) (want0 rfl) (xlookN16 (k := 13) rfl (pb 12 (put_in (t := 11) z rfl) rfl) (put_in (t := 12) (put_size z) rfl) (ow.get 0 rfl) him) ?_; refine wl_value (v := .nilFunc) (want0 rfl) (xassign rfl (put_in (t := 13) (put_size (put_size z)) rfl)) ?_; refine gt4 (put_size (put_size (put_size (put_size z)))) (put_def (put_def (put_def (put_def q)))) ow 0 (pb 5 (pb 13 (pb 12 (pb 11 s0 rfl) rfl) rfl) rfl) 1 (pb 5 (pb 13 (pb 12 (pb 11 s1 rfl) rfl) rfl) rfl) 4 (pb 5 (pb 13 (pb 12 (pb 11 s4 rfl) rfl) rfl) rfl) 5 (put_in (t := 5) (put_size (put_size (put_size z))) rfl) fun fa fw z q ow s0 s1 s4 s5 => ?_; refine wt hK3 ?_; refine sq fun hK4 => ?_
  refine ro [yV _, yV _] 2 81 z q ow (
    mvS s5 rfl rfl rfl rfl <|
    aS (fun hk bs hd => xneN rfl (dp hd 0 rfl)) rfl <|
    arm0) fun fa fw bs hv ap z q ow => ?_
  obtain ⟨s0, s1, s4, s5⟩ := b4 bs s0 s1 s4 s5; have s15 := gv hv 1 rfl rfl; refine wt hK4 ?_; refine wp_cond_false (s15) ?_; refine wp_skip ?_; refine tn hK2 ?_; refine sq fun hK5 => ?_; refine sq fun hK6 => ?_
  refine ro [yV _] 1 81 z q ow (
    mvS s0 rfl rfl rfl rfl <|
    arm0) fun fa fw bs hv ap z q ow => ?_
  obtain ⟨s0, s1, s4⟩ := b3 bs s0 s1 s4; have s28 := gv hv 0 rfl rfl; refine wt hK6 ?_; refine wp_block ?_; refine sq fun hK7 => ?_; refine sq fun hK8 => ?_
  refine ro [yV (.bool false), yV _] 2 81 z q ow (
    aE (fun hk bs hd => xeqi rfl (bg bs s28) rfl) (congrArg Value.bool rfl) rfl <|
    asD 0 rfl rfl rfl rfl rfl rfl <|
    arm0) fun fa fw bs hv ap z q ow => ?_
  obtain ⟨s0, s1, s4, s28⟩ := b4 bs s0 s1 s4 s28; have s29 := gv hv 1 rfl rfl; refine wt hK8 ?_; refine wp_cond_false (s29) ?_
  refine ro [yV (.bool false), yV _] 2 81 z q ow (
    aE (fun hk bs hd => xeqi rfl (bg bs s28) rfl) (congrArg Value.bool rfl) rfl <|
    asD 0 rfl rfl rfl rfl rfl rfl <|
    arm0) fun fa fw bs hv ap z q ow => ?_
  obtain ⟨s0, s1, s4, s28⟩ := b4 bs s0 s1 s4 s28; have s29 := gv hv 1 rfl rfl; refine wt hK7 ?_; refine wp_cond_false (s29) ?_; refine sq fun hK9 => ?_
  refine ro [yV (.bool false), yV _] 2 81 z q ow (
    aE (fun hk bs hd => xeqi rfl (bg bs s28) rfl) (congrArg Value.bool rfl) rfl <|
    asD 0 rfl rfl rfl rfl rfl rfl <|
    arm0) fun fa fw bs hv ap z q ow => ?_
  obtain ⟨s0, s1, s4, s28⟩ := b4 bs s0 s1 s4 s28; have s36 := gv hv 1 rfl rfl; refine wt hK9 ?_; refine wp_cond_false (s36) ?_; refine sq fun hK10 => ?_
  refine ro [yV (.bool false), yV _] 2 81 z q ow (
    aE (fun hk bs hd => xeqi rfl (bg bs s28) rfl) (congrArg Value.bool rfl) rfl <|
    asD 0 rfl rfl rfl rfl rfl rfl <|
    arm0) fun fa fw bs hv ap z q ow => ?_
  obtain ⟨s0, s1, s4, s28⟩ := b4 bs s0 s1 s4 s28; have s55 := gv hv 1 rfl rfl; refine wt hK10 ?_; refine wp_cond_false (s55) ?_; refine sq fun hK11 => ?_
  refine ro [yV (.bool false), yV _] 2 81 z q ow (
    aE (fun hk bs hd => xeqi rfl (bg bs s28) rfl) (congrArg Value.bool rfl) rfl <|
    asD 0 rfl rfl rfl rfl rfl rfl <|
    arm0) fun fa fw bs hv ap z q ow => ?_
  obtain ⟨s0, s1, s4⟩ := b3 bs s0 s1 s4; have s74 := gv hv 1 rfl rfl; refine wt hK11 ?_; refine wp_cond_false (s74) ?_; refine wp_skip ?_; refine block_n ?_; refine tn hK5 ?_; refine sq fun hK12 => ?_
  refine ro [yV _, yV _, yV (aggV (vMake (count16 13 l * 10000)))] 3 81 z q ow (
    mvS s0 rfl rfl rfl rfl <|
    mvS s1 rfl rfl rfl rfl <|
    aC (fun hk bs hd => xcall2 rfl (dp hd 0 rfl) (dp hd 1 rfl) (en_agg_count _ _)) (fun hk bs hd => acount_any 13 A cap l _ (hr.kept (ow.keep hk).kept) (fun a ha => Nat.le_trans (hla a ha) (by decide)) hl) rfl <|
    arm0) fun fa fw bs hv ap z q ow => ?_
  have s4 := bg bs s4; have s80 := gv hv 2 rfl rfl; refine ws ow 1 0 s4 s80 fun fw ow => ?_; refine wt hK12 ?_; refine wp_ret ?_; refine rs3 s4 (ow.box 1 rfl) q ?_; exact ⟨rfl, ow.kept⟩
set_option maxHeartbeats 4000000 in
theorem avalue_47 (A : Option Addr) (cap : Nat) (l : List Ar) (w : World) (hr : ArgsAt w A l) (hl : l.length ≤ 1000) (hla : ∀ a ∈ l, a.l.length ≤ 900000) :
    Calls Tryz.prog 33 #[.int .u8 47, .slice A l.length cap] w fun e w' => e = .returned (aggV (val16 47 l)) ∧ Kept w w' := by
  go_enter Tryz.func33, Tryz.ntmps33; refine sq fun hK1 => ?_
  refine ro [yNew w.heap.size (.cells #[.int .u8 0, .int .i64 0, .string ⟨[].toArray⟩] 25 (0, 0))] 1 81 rfl rfl (Own.start w) (
    aP (fun hk bs hd => xalloc rfl (by kernel_rfl)) rfl <|
    arm0) fun fa fw bs hv ap z q ov => ?_
  have s0 := bs.get 0 rfl rfl; have s1 := bs.get 1 rfl rfl; obtain ⟨gb1, s4, bgb1, hgb1⟩ := gotP hv 0 rfl rfl rfl; have ov := ov.cons hgb1 (Nat.le_trans (Own.start w).kept.size bgb1) ((Own.start w).below bgb1); have ow := ov; refine wt hK1 ?_; refine sq fun hK2 => ?_; refine sq fun hK3 => ?_; refine wp_region_lit ?_; refine wl_enter (want0 rfl) (xcall0 rfl (en_agg_simple _ _)) ((asimple_any _).mono ?_); rintro _ fw ⟨gb2, rfl, hb, hh, hk⟩; refine ⟨_, rfl, ?_⟩; have ow := ow.add (t := Th.obj gb2 (.map (tabs16 10) 10)) hh hk (fun g e => by cases e; exact hb); clear hb hh hk; have him : Instr.findNow (.int .u8) (.int .u8 (47 : Nat)) (tabs16 10).toList 0 = some none := by kernel_rfl
  refine wl_value (v := .int .u8 47) (want0 rfl) (xmove rfl (pb 11 s0 rfl)) ?_; refine wl_value (v := .nilFunc) (want0 rfl) (xlookN16 (k := 47) rfl (pb 12 (put_in (t := 11) z rfl) rfl) (put_in (t := 12) (put_size z) rfl) (ow.get 0 rfl) him) ?_; refine wl_value (v := .nilFunc) (want0 rfl) (xassign rfl (put_in (t := 13) (put_size (put_size z)) rfl)) ?_; refine gt4 (put_size (put_size (put_size (put_size z)))) (put_def (put_def (put_def (put_def q)))) ow 0 (pb 5 (pb 13 (pb 12 (pb 11 s0 rfl) rfl) rfl) rfl) 1 (pb 5 (pb 13 (pb 12 (pb 11 s1 rfl) rfl) rfl) rfl) 4 (pb 5 (pb 13 (pb 12 (pb 11 s4 rfl) rfl) rfl) rfl) 5 (put_in (t := 5) (put_size (put_size (put_size z))) rfl) fun fa fw z q ow s0 s1 s4 s5 => ?_; refine wt hK3 ?_; refine sq fun hK4 => ?_
  refine ro [yV _, yV _] 2 81 z q ow (
    mvS s5 rfl rfl rfl rfl <|
    aS (fun hk bs hd => xneN rfl (dp hd 0 rfl)) rfl <|
    arm0) fun fa fw bs hv ap z q ow => ?_
  obtain ⟨s0, s1, s4, s5⟩ := b4 bs s0 s1 s4 s5; have s15 := gv hv 1 rfl rfl; refine wt hK4 ?_; refine wp_cond_false (s15) ?_; refine wp_skip ?_; refine tn hK2 ?_; refine sq fun hK5 => ?_; refine sq fun hK6 => ?_
  refine ro [yV _] 1 81 z q ow (
    mvS s0 rfl rfl rfl rfl <|
    arm0) fun fa fw bs hv ap z q ow => ?_
  obtain ⟨s0, s1, s4⟩ := b3 bs s0 s1 s4; have s28 := gv hv 0 rfl rfl; refine wt hK6 ?_; refine wp_block ?_; refine sq fun hK7 => ?_; refine sq fun hK8 => ?_
  refine ro [yV (.bool false), yV _] 2 81 z q ow (
    aE (fun hk bs hd => xeqi rfl (bg bs s28) rfl) (congrArg Value.bool rfl) rfl <|
    asD 0 rfl rfl rfl rfl rfl rfl <|
    arm0) fun fa fw bs hv ap z q ow => ?_
  obtain ⟨s0, s1, s4, s28⟩ := b4 bs s0 s1 s4 s28; have s29 := gv hv 1 rfl rfl; refine wt hK8 ?_; refine wp_cond_false (s29) ?_
  refine ro [yV (.bool false), yV _] 2 81 z q ow (
    aE (fun hk bs hd => xeqi rfl (bg bs s28) rfl) (congrArg Value.bool rfl) rfl <|
    asD 0 rfl rfl rfl rfl rfl rfl <|
    arm0) fun fa fw bs hv ap z q ow => ?_
  obtain ⟨s0, s1, s4, s28⟩ := b4 bs s0 s1 s4 s28; have s29 := gv hv 1 rfl rfl; refine wt hK7 ?_; refine wp_cond_false (s29) ?_; refine sq fun hK9 => ?_
  refine ro [yV (.bool false), yV _] 2 81 z q ow (
    aE (fun hk bs hd => xeqi rfl (bg bs s28) rfl) (congrArg Value.bool rfl) rfl <|
    asD 0 rfl rfl rfl rfl rfl rfl <|
    arm0) fun fa fw bs hv ap z q ow => ?_
  obtain ⟨s0, s1, s4, s28⟩ := b4 bs s0 s1 s4 s28; have s36 := gv hv 1 rfl rfl; refine wt hK9 ?_; refine wp_cond_false (s36) ?_; refine sq fun hK10 => ?_
  refine ro [yV (.bool false), yV _] 2 81 z q ow (
    aE (fun hk bs hd => xeqi rfl (bg bs s28) rfl) (congrArg Value.bool rfl) rfl <|
    asD 0 rfl rfl rfl rfl rfl rfl <|
    arm0) fun fa fw bs hv ap z q ow => ?_
  obtain ⟨s0, s1, s4, s28⟩ := b4 bs s0 s1 s4 s28; have s55 := gv hv 1 rfl rfl; refine wt hK10 ?_; refine wp_cond_false (s55) ?_; refine sq fun hK11 => ?_
  refine ro [yV (.bool false), yV _] 2 81 z q ow (
    aE (fun hk bs hd => xeqi rfl (bg bs s28) rfl) (congrArg Value.bool rfl) rfl <|
    asD 0 rfl rfl rfl rfl rfl rfl <|
    arm0) fun fa fw bs hv ap z q ow => ?_
  obtain ⟨s0, s1, s4⟩ := b3 bs s0 s1 s4; have s74 := gv hv 1 rfl rfl; refine wt hK11 ?_; refine wp_cond_false (s74) ?_; refine wp_skip ?_; refine block_n ?_; refine tn hK5 ?_; refine sq fun hK12 => ?_
  refine ro [yV _, yV _, yV (aggV (vMake (count16 47 l * 10000)))] 3 81 z q ow (
    mvS s0 rfl rfl rfl rfl <|
    mvS s1 rfl rfl rfl rfl <|
    aC (fun hk bs hd => xcall2 rfl (dp hd 0 rfl) (dp hd 1 rfl) (en_agg_count _ _)) (fun hk bs hd => acount_any 47 A cap l _ (hr.kept (ow.keep hk).kept) (fun a ha => Nat.le_trans (hla a ha) (by decide)) hl) rfl <|
    arm0) fun fa fw bs hv ap z q ow => ?_
  have s4 := bg bs s4; have s80 := gv hv 2 rfl rfl; refine ws ow 1 0 s4 s80 fun fw ow => ?_; refine wt hK12 ?_; refine wp_ret ?_; refine rs3 s4 (ow.box 1 rfl) q ?_; exact ⟨rfl, ow.kept⟩
end Go.Proofs.YtbkjdcpfkepheaaGreatDoor
