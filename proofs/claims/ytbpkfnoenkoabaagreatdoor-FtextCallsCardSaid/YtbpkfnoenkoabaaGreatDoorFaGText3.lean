/- Layer 14: convert (printed by wip/mkftext3.py). -/
import Derived.Test.YtbpkfnoenkoabaaGreatDoorFaGText2
import Derived.Test.YtbpkfnoenkoabaaGreatDoorFaMVal3
namespace Go.Proofs.YtbpkfnoenkoabaaGreatDoor
set_option linter.unusedVariables false
set_option linter.unusedSimpArgs false
open Go.RowKit Lv
set_option maxRecDepth 100000
def ConvOut (fn : Nat) (l : List Vl) (w : World) (e : Ending) (w' : World) : Prop := ∃ sv nv x ok, e = .returned (.tuple #[.agg #[sv, nv], aggV x, .bool ok]) ∧ Kept w w' ∧ sv.oneCell' = true ∧ nv.oneCell' = true ∧ ((ok = false ∧ firstE (args14 fn 0 l) = some x) ∨ (ok = true ∧ firstE (args14 fn 0 l) = none ∧ Own w [Th.row w.heap.size 9 1 sv ((txts14 fn 0 l).map strV).length ((txts14 fn 0 l).map strV), Th.row w.heap.size 2 1 nv ((nums14 fn 0 l).map numV).length ((nums14 fn 0 l).map numV)] w'))
theorem isE_of {v : Vl} (h : (v.k : Int) = (4 : Int)) : isE v = true := by unfold isE; rw [decide_eq_true_eq]; omega
theorem isE_not {v : Vl} (h : ¬ ((v.k : Int) = (4 : Int))) : isE v = false := by unfold isE; rw [decide_eq_false_iff_not]; omega
theorem num_i64 {v : Vl} (h : i64 v.n) : i64 (vNum v).n := by
  obtain ⟨h1, h2⟩ := h
  by_cases ok : vOk v = true
  · rcases ok_cases ok with rfl | ⟨n, hn, rfl⟩ | rfl | rfl | ⟨t, ht, rfl⟩ | ⟨c, c1, c2, rfl⟩
    · exact ⟨by decide, by decide⟩
    · unfold vNum; rw [ok]; exact ⟨h1, h2⟩
    · exact ⟨by decide, by decide⟩
    · exact ⟨by decide, by decide⟩
    · unfold vNum; rw [ok]; exact (small_read t).1
    · unfold vNum; rw [ok]; exact ⟨h1, h2⟩
  · unfold vNum; rw [if_pos (by simpa using ok)]; exact ⟨by decide, by decide⟩
theorem trunc_i64 {a : Int} (h : i64 a) : i64 (a - Int.tmod a 10000) := by
  obtain ⟨h1, h2⟩ := h
  have := tmod_near a
  exact ⟨by omega, by omega⟩
theorem tdiv_trunc (a : Int) : Int.tdiv (a - Int.tmod a 10000) 10000 = Int.tdiv a 10000 := by
  have h := Int.tmod_add_mul_tdiv a 10000
  have e : a - Int.tmod a 10000 = 10000 * Int.tdiv a 10000 := by omega
  rw [e]
  exact Int.mul_tdiv_cancel_left _ (by decide)
section
variable {fn k : Nat} {l : List Vl}
theorem nextT (hk : k < l.length) (h : txt14 fn k = true) : (txts14 fn 0 (l.take (k + 1))).map strV = (txts14 fn 0 (l.take k)).map strV ++ [strV (vTxt (l.getD k blankV)).t] := by rw [txts14_next hk, if_pos h, List.map_append]; rfl
theorem nextTn (hk : k < l.length) (h : txt14 fn k = true) : (nums14 fn 0 (l.take (k + 1))).map numV = (nums14 fn 0 (l.take k)).map numV := by rw [nums14_next hk, if_pos h, List.append_nil]
theorem nextN (hk : k < l.length) (h : txt14 fn k = false) : (nums14 fn 0 (l.take (k + 1))).map numV = (nums14 fn 0 (l.take k)).map numV ++ [numV (Int.tdiv ((vNum (l.getD k blankV)).n - Int.tmod (vNum (l.getD k blankV)).n 10000) 10000)] := by rw [nums14_next hk, if_neg (by rw [h]; decide), List.map_append, tdiv_trunc]; rfl
theorem nextNt (hk : k < l.length) (h : txt14 fn k = false) : (txts14 fn 0 (l.take (k + 1))).map strV = (txts14 fn 0 (l.take k)).map strV := by rw [txts14_next hk, if_neg (by rw [h]; decide), List.append_nil]
end
theorem en_dec_Trunc (args : Array Value) (w : World) : (callFunc 131 args).run Tryz.prog w = .ok (.enter 131 args) w := by go_simp
theorem en_ftext_kinds (args : Array Value) (w : World) : (callFunc 130 args).run Tryz.prog w = .ok (.enter 130 args) w := by go_simp
theorem en_val_ToText (args : Array Value) (w : World) : (callFunc 39 args).run Tryz.prog w = .ok (.enter 39 args) w := by go_simp
set_option maxHeartbeats 4000000 in
theorem convert14_any (fn : Nat) (b0 off0 cap : Nat) (l : List Vl) (w : World) (mx : Int) (HM : Mx w mx) (hr : RowV w (some ⟨b0, off0, none⟩) l) (hs : ∀ v ∈ l, Small v) (hl : l.length ≤ 20) (hk2 : (fn = 32 ∨ fn = 33 ∨ fn = 39) → l.length ≤ 2) (hk3 : fn = 34 → l.length = 3) (hk4 : fn = 41 → l.length ≤ 3) :
    Calls Tryz.prog 60 #[.int .u8 fn, .slice (some ⟨b0, off0, none⟩) l.length cap] w fun e w' => ConvOut fn l w e w' := by
  go_enter Tryz.func60, Tryz.ntmps60
  refine wp_seq_k fun K1 hK1 => ?_
  refine rgn [yNew w.heap.size (.cells #[.slice none 0 0, .slice none 0 0] 90 (0, 0)), yNew w.heap.size (.cells #[.int .u8 0, .int .i64 0, .string ⟨[].toArray⟩] 25 (0, 0)), yV _] 3 53 rfl (by kernel_rfl) (by kernel_rfl) (
    armP (wn rfl) (fun aa ww hk bs hd => xalloc rfl (by kernel_rfl)) rfl <|
    armP (wn rfl) (fun aa ww hk bs hd => xalloc rfl (by kernel_rfl)) rfl <|
    armS (wn rfl) (fun aa ww hk bs hd => xassign rfl rfl) rfl <|
    arm0) fun fa fw hk bs hv ap => ?_
  obtain ⟨z, q, ov⟩ := aft hk bs rfl rfl (Own.start w)
  have s0 := bs.get 0 rfl rfl
  have s1 := bs.get 1 rfl rfl
  obtain ⟨gb1, s4, bgb1, hgb1⟩ := gotP hv 0 rfl rfl rfl
  have ov := ov.cons hgb1 (Nat.le_trans (Own.start w).kept.size bgb1) ((Own.start w).below bgb1)
  obtain ⟨gb2, s5, bgb2, hgb2⟩ := gotP hv 1 rfl rfl rfl
  have ov := ov.cons hgb2 (Nat.le_trans (Own.start w).kept.size bgb2) (ne_cons (apartP ap 0 1 rfl rfl rfl s4 rfl s5 rfl) ((Own.start w).below bgb2))
  have s6 := got hv 2 rfl rfl rfl
  have ow := ov
  clear hv ap bs hk ov
  refine wl_then (hK1 _ _ ?_)
  try clear hK1 K1
  refine wp_seq_k fun K2 hK2 => ?_
  refine wp_seq_k fun K3 hK3 => ?_
  refine rgn [yV _, yV _, yV _, ySl fw.heap.size l.length (Kinds fn l.length)] 4 53 z (by kernel_rfl) (by kernel_rfl) (
    mvS s0 rfl rfl rfl rfl <|
    mvS s1 rfl rfl rfl rfl <|
    armS (wn rfl) (fun aa ww hk bs hd => xlen Tryz.underlying22 rfl (dep hd 1 rfl rfl rfl)) rfl <|
    arm (fun aa ww hk bs hd => by
      have d0 : aa.eval (.tmp 11) = .int .u8 (fn : Int) := depX hd 0 rfl
      have d2 : aa.eval (.tmp 13) = .int .i64 ((l.length : Nat) : Int) := depX hd 2 rfl
      exact stepX_enterN (want0 rfl) (xcall2 (u := .int .u8 (fn : Int)) (v := .int .i64 ((l.length : Nat) : Int)) rfl (d0) (d2) (en_ftext_kinds _ _)) ((kinds14_any fn l.length ww (by omega) hk2 hk3 hk4).mono fun _ _ h => by obtain ⟨g, c, o, he, hb, hh, hp, hk2⟩ := h; exact ⟨_, he, ⟨g, c, o, rfl, Nat.le_trans hk.size hb, hh, hp⟩, hk2, g, rfl, hb⟩)
      ) <|
    arm0) fun fa fw hk bs hv ap => ?_
  obtain ⟨z, q, ov⟩ := aft hk bs z q ow
  have s1 := bs.get 1 rfl s1
  have s4 := bs.get 4 rfl s4
  have s5 := bs.get 5 rfl s5
  have s6 := bs.get 6 rfl s6
  obtain ⟨gb3, cb1, ogb3, s14, bgb3, hgb3, ⟨hle, csk, rfl, hkd⟩⟩ := gotY hv 3 rfl rfl rfl
  have ov := ov.cons hgb3 (Nat.le_trans ow.kept.size bgb3) (ow.below bgb3)
  have ow := ov
  clear hv ap bs hk ov
  refine wl_value (v := .int .i64 ((l.length : Nat) : Int)) (want0 rfl) (xlen Tryz.underlying150 rfl s14) ?_
  refine wl_value (v := .int .i64 0) (want0 rfl) (xmove rfl rfl) ?_
  refine gt7 (put_size (put_size z)) (put_def (put_def q)) ow 1 (pb 16 (pb 15 s1 rfl) rfl) 4 (pb 16 (pb 15 s4 rfl) rfl) 5 (pb 16 (pb 15 s5 rfl) rfl) 6 (pb 16 (pb 15 s6 rfl) rfl) 14 (pb 16 (pb 15 s14 rfl) rfl) 15 (pb 16 (put_in (t := 15) z rfl) rfl) 16 (put_in (t := 16) (put_size z) rfl) fun fa fw z q ow s1 s4 s5 s6 s14 s15 s16 => ?_
  refine wl_then (hK3 _ _ ?_)
  try clear hK3 K3
  refine wp_block ?_
  refine wp_loop_g (fun (k : Nat) fr u => ∃ (va : Value), ∃ (vb : Value), (k ≤ l.length) ∧ (firstE (args14 fn 0 (l.take k)) = none) ∧ fr.tmps.size = 53 ∧ fr.defers = [] ∧ Own w [Th.row w.heap.size 9 1 va (((txts14 fn 0 (l.take k)).map strV).length) ((txts14 fn 0 (l.take k)).map strV), Th.row w.heap.size 2 1 vb (((nums14 fn 0 (l.take k)).map numV).length) ((nums14 fn 0 (l.take k)).map numV), Th.obj gb3 (.cells csk 4 (0, 0)), Th.obj gb2 (.cells #[.int .u8 0, .int .i64 0, .string ⟨[].toArray⟩] 25 (0, 0)), Th.obj gb1 (.cells #[va, vb] 90 (0, 0))] u ∧ fr.eval (.tmp 1) = .slice (some ⟨b0, off0, none⟩) l.length cap ∧ fr.eval (.tmp 4) = .pointer (some ⟨gb1, 0, none⟩) ∧ fr.eval (.tmp 5) = .pointer (some ⟨gb2, 0, none⟩) ∧ fr.eval (.tmp 6) = .bool false ∧ fr.eval (.tmp 14) = .slice (some ⟨gb3, 0, none⟩) l.length cb1 ∧ fr.eval (.tmp 15) = .int .i64 ((l.length : Nat) : Int) ∧ fr.eval (.tmp 16) = .int .i64 (k : Int)) (fun k => l.length - k) 0 ⟨(.slice none 0 0), (.slice none 0 0), (Nat.zero_le _), rfl, z, q, ((ow.nil 2 1).nil 9 1), s1, s4, s5, s6, s14, s15, s16⟩ (fun k b_ u_ hI => ?_)
  revert b_ u_; intro fa fw hI
  obtain ⟨va, vb, hk, hfe, z, q, ow, s1, s4, s5, s6, s14, s15, s16⟩ := hI
  refine wp_seq_k fun K4 hK4 => ?_
  refine rgn [yV _] 1 53 z (by kernel_rfl) (by kernel_rfl) (
    armS (wn rfl) (fun aa ww hk bs hd => xlss rfl (bs.get 16 rfl s16) (bs.get 15 rfl s15)) rfl <|
    arm0) fun fa fw hk bs hv ap => ?_
  obtain ⟨z, q, ov⟩ := aft hk bs z q ow
  have s1 := bs.get 1 rfl s1
  have s4 := bs.get 4 rfl s4
  have s5 := bs.get 5 rfl s5
  have s6 := bs.get 6 rfl s6
  have s14 := bs.get 14 rfl s14
  have s15 := bs.get 15 rfl s15
  have s16 := bs.get 16 rfl s16
  have s17 := got hv 0 rfl rfl rfl
  have ow := ov
  clear hv ap bs hk ov
  refine wl_then (hK4 _ _ ?_)
  try clear hK4 K4
  refine wp_seq_k fun K5 hK5 => ?_
  by_cases hc1 : (k : Int) < ((l.length : Nat) : Int)
  · refine wp_cond_true (s17.trans (congrArg Value.bool ((decide_eq_true_iff).2 hc1))) ?_
    refine wp_skip ?_
    refine then_n (hK5 _ _ ?_)
    try clear hK5 K5
    refine wp_seq_k fun K6 hK6 => ?_
    refine wp_block ?_
    refine wp_seq_k fun K7 hK7 => ?_
    have hlt : k < l.length := by omega
    have hsk : Small (l.getD k blankV) := hs _ (by rw [show l.getD k blankV = l[k] by simp [List.getD, hlt]]; exact List.getElem_mem hlt)
    refine rgn [yV _, yV _, yV _, yV _, yV _] 5 53 z (by kernel_rfl) (by kernel_rfl) (
      mvS s16 rfl rfl rfl rfl <|
      armS (wn rfl) (fun aa ww hk bs hd => xindexAddr (u := .slice (some ⟨gb3, 0, none⟩) l.length cb1) (z := .int .i64 (k : Int)) rfl (bs.get 14 rfl s14) (bs.get 16 rfl s16) (run_place1 Tryz.underlying150 (by kernel_rfl) hlt)) rfl <|
      armS (wn rfl) (fun aa ww hk bs hd => xloadC rfl (by kernel_rfl) (dep hd 1 rfl rfl rfl) ((((ow.keep hk).box 2 rfl).cell (0 + k)).trans (by rw [Nat.zero_add]; exact hkd k hlt))) rfl <|
      asD 0 rfl rfl rfl rfl rfl rfl <|
      asD 2 rfl rfl rfl rfl rfl rfl <|
      arm0) fun fa fw hk bs hv ap => ?_
    obtain ⟨z, q, ov⟩ := aft hk bs z q ow
    have s1 := bs.get 1 rfl s1
    have s4 := bs.get 4 rfl s4
    have s5 := bs.get 5 rfl s5
    have s6 := bs.get 6 rfl s6
    have s14 := bs.get 14 rfl s14
    have s15 := bs.get 15 rfl s15
    have s16 := bs.get 16 rfl s16
    have s7 := got hv 3 rfl rfl rfl
    have s8 := got hv 4 rfl rfl rfl
    have ow := ov
    clear hv ap bs hk ov
    refine wl_then (hK7 _ _ ?_)
    try clear hK7 K7
    refine wp_seq_k fun K8 hK8 => ?_
    refine rgn [yV _] 1 53 z (by kernel_rfl) (by kernel_rfl) (
      armS (wn rfl) (fun aa ww hk bs hd => xassign rfl rfl) rfl <|
      arm0) fun fa fw hk bs hv ap => ?_
    obtain ⟨z, q, ov⟩ := aft hk bs z q ow
    have s1 := bs.get 1 rfl s1
    have s4 := bs.get 4 rfl s4
    have s5 := bs.get 5 rfl s5
    have s6 := bs.get 6 rfl s6
    have s14 := bs.get 14 rfl s14
    have s15 := bs.get 15 rfl s15
    have s16 := bs.get 16 rfl s16
    have s7 := bs.get 7 rfl s7
    have s8 := bs.get 8 rfl s8
    have s9 := got hv 0 rfl rfl rfl
    have ow := ov
    clear hv ap bs hk ov
    refine wl_then (hK8 _ _ ?_)
    try clear hK8 K8
    refine wp_seq_k fun K9 hK9 => ?_
    refine wp_seq_k fun K10 hK10 => ?_
    refine rgn [yV _] 1 53 z (by kernel_rfl) (by kernel_rfl) (
      mvS s8 rfl rfl rfl rfl <|
      arm0) fun fa fw hk bs hv ap => ?_
    obtain ⟨z, q, ov⟩ := aft hk bs z q ow
    have s1 := bs.get 1 rfl s1
    have s4 := bs.get 4 rfl s4
    have s5 := bs.get 5 rfl s5
    have s6 := bs.get 6 rfl s6
    have s14 := bs.get 14 rfl s14
    have s15 := bs.get 15 rfl s15
    have s16 := bs.get 16 rfl s16
    have s7 := bs.get 7 rfl s7
    have s8 := bs.get 8 rfl s8
    have s9 := bs.get 9 rfl s9
    have s21 := got hv 0 rfl rfl rfl
    have ow := ov
    clear hv ap bs hk ov
    refine wl_then (hK10 _ _ ?_)
    try clear hK10 K10
    by_cases hc2 : (txt14 fn k) = true
    · refine wp_cond_true (s21.trans (congrArg Value.bool ((Iff.rfl).2 hc2))) ?_
      have htx : txt14 fn k = true := hc2
      have harg : arg14 fn k (l.getD k blankV) = vTxt (l.getD k blankV) := by unfold arg14; rw [if_pos htx]
      refine rgn [yV _] 1 53 z (by kernel_rfl) (by kernel_rfl) (
        armS (wn rfl) (fun aa ww hk bs hd => xassign rfl rfl) rfl <|
        arm0) fun fa fw hk bs hv ap => ?_
      obtain ⟨z, q, ov⟩ := aft hk bs z q ow
      have s1 := bs.get 1 rfl s1
      have s4 := bs.get 4 rfl s4
      have s5 := bs.get 5 rfl s5
      have s6 := bs.get 6 rfl s6
      have s14 := bs.get 14 rfl s14
      have s15 := bs.get 15 rfl s15
      have s16 := bs.get 16 rfl s16
      have s7 := bs.get 7 rfl s7
      have s8 := bs.get 8 rfl s8
      have s9 := got hv 0 rfl rfl rfl
      have ow := ov
      clear hv ap bs hk ov
      refine wl_then (hK9 _ _ ?_)
      try clear hK9 K9
      refine wp_seq_k fun K11 hK11 => ?_
      refine rgn [yV _, yV _, yV _, yV _, yV (aggV (l.getD k blankV)), yV (aggV (vTxt (l.getD k blankV))), yNew fw.heap.size (.cells #[.int .u8 0, .int .i64 0, .string ⟨[].toArray⟩] 25 (0, 0))] 7 53 z (by kernel_rfl) (by kernel_rfl) (
        mvS s9 rfl rfl rfl rfl <|
        mvS s1 rfl rfl rfl rfl <|
        mvS s7 rfl rfl rfl rfl <|
        armS (wn rfl) (fun aa ww hk bs hd => xplaceV rfl (k := k) (dep hd 1 rfl rfl rfl) (dep hd 2 rfl rfl rfl) hlt) rfl <|
        armS (wn rfl) (fun aa ww hk bs hd => xatV rfl (l := l) (k := k) (dep hd 3 rfl rfl rfl) (hr.kept (ow.keep hk).kept) hlt) rfl <|
        armC (wn rfl) (fun aa ww hk bs hd => xcall1V (F := 39) (u := aggV (l.getD k blankV)) rfl (dep hd 0 rfl rfl rfl) (dep hd 4 rfl rfl rfl) (en_val_ToText _ _)) (fun aa ww hk bs hd => totxt_any (l.getD k blankV) ww hsk.1 hsk.2) rfl <|
        armP (wn rfl) (fun aa ww hk bs hd => xalloc rfl (by kernel_rfl)) rfl <|
        arm0) fun fa fw hk bs hv ap => ?_
      obtain ⟨z, q, ov⟩ := aft hk bs z q ow
      have s1 := bs.get 1 rfl s1
      have s4 := bs.get 4 rfl s4
      have s5 := bs.get 5 rfl s5
      have s6 := bs.get 6 rfl s6
      have s14 := bs.get 14 rfl s14
      have s15 := bs.get 15 rfl s15
      have s16 := bs.get 16 rfl s16
      have s8 := bs.get 8 rfl s8
      have s27 := got hv 5 rfl rfl rfl
      obtain ⟨gb4, s10, bgb4, hgb4⟩ := gotP hv 6 rfl rfl rfl
      have ov := ov.cons hgb4 (Nat.le_trans ow.kept.size bgb4) (ow.below bgb4)
      have ow := ov
      clear hv ap bs hk ov
      refine wl_store ow 0 0 (want0 rfl) rfl rfl s10 s27 (by kernel_rfl) rfl rfl rfl fun fw ow => ?_
      refine wl_then (hK11 _ _ ?_)
      try clear hK11 K11
      refine wp_seq_k fun K12 hK12 => ?_
      refine wp_seq_k fun K13 hK13 => ?_
      refine rgn [yV (.pointer (some ⟨gb4, 0, none⟩)), yV _, yV _] 3 53 z (by kernel_rfl) (by kernel_rfl) (
        armS (wn rfl) (fun aa ww hk bs hd => xfieldAddr rfl (bs.get 10 rfl s10) (by kernel_rfl)) rfl <|
        armS (wn rfl) (fun aa ww hk bs hd => xloadB rfl (by kernel_rfl) (dep hd 0 rfl rfl rfl) ((ow.keep hk).box 0 rfl) rfl) rfl <|
        armS (wn rfl) (fun aa ww hk bs hd => xeqi rfl (dep hd 1 rfl rfl rfl) rfl) rfl <|
        arm0) fun fa fw hk bs hv ap => ?_
      obtain ⟨z, q, ov⟩ := aft hk bs z q ow
      have s1 := bs.get 1 rfl s1
      have s4 := bs.get 4 rfl s4
      have s5 := bs.get 5 rfl s5
      have s6 := bs.get 6 rfl s6
      have s14 := bs.get 14 rfl s14
      have s15 := bs.get 15 rfl s15
      have s16 := bs.get 16 rfl s16
      have s8 := bs.get 8 rfl s8
      have s10 := bs.get 10 rfl s10
      have s30 := got hv 2 rfl rfl rfl
      have ow := ov
      clear hv ap bs hk ov
      refine wl_then (hK13 _ _ ?_)
      try clear hK13 K13
      by_cases hc3 : ((vTxt (l.getD k blankV)).k : Int) = (4 : Int)
      · refine wp_cond_true (s30.trans (congrArg Value.bool ((decide_eq_true_iff).2 hc3))) ?_
        have hye : isE (vTxt (l.getD k blankV)) = true := isE_of hc3
        refine wp_seq_k fun K14 hK14 => ?_
        refine region_chain [2, 3] [fun v => v = .agg #[.slice none 0 0, .slice none 0 0], fun v => v = aggV (vTxt (l.getD k blankV)), fun _ => True, fun _ => True, fun v => v = .bool false] (Stages w [⟨fun gs ys => True, fun gs ys => [Th.obj gb4 (.cells #[.int .u8 ((vTxt (l.getD k blankV)).k), .int .i64 ((vTxt (l.getD k blankV)).n), .string ⟨((vTxt (l.getD k blankV)).t).toArray⟩] 25 (0, 0)), Th.row w.heap.size 9 1 va (((txts14 fn 0 (l.take k)).map strV).length) ((txts14 fn 0 (l.take k)).map strV), Th.row w.heap.size 2 1 vb (((nums14 fn 0 (l.take k)).map numV).length) ((nums14 fn 0 (l.take k)).map numV), Th.obj gb3 (.cells csk 4 (0, 0)), Th.obj gb2 (.cells #[.int .u8 0, .int .i64 0, .string ⟨[].toArray⟩] 25 (0, 0)), Th.obj gb1 (.cells #[va, vb] 90 (0, 0))]⟩, ⟨fun gs ys => True, fun gs ys => [Th.obj gb4 (.cells #[.int .u8 ((vTxt (l.getD k blankV)).k), .int .i64 ((vTxt (l.getD k blankV)).n), .string ⟨((vTxt (l.getD k blankV)).t).toArray⟩] 25 (0, 0)), Th.row w.heap.size 9 1 va (((txts14 fn 0 (l.take k)).map strV).length) ((txts14 fn 0 (l.take k)).map strV), Th.row w.heap.size 2 1 vb (((nums14 fn 0 (l.take k)).map numV).length) ((nums14 fn 0 (l.take k)).map numV), Th.obj gb3 (.cells csk 4 (0, 0)), Th.obj gb2 (.cells #[.int .u8 0, .int .i64 0, .string ⟨[].toArray⟩] 25 (0, 0)), Th.obj gb1 (.cells #[.slice none 0 0, .slice none 0 0] 90 (0, 0))]⟩, ⟨fun gs ys => True, fun gs ys => [Th.obj gb4 (.cells #[.int .u8 ((vTxt (l.getD k blankV)).k), .int .i64 ((vTxt (l.getD k blankV)).n), .string ⟨((vTxt (l.getD k blankV)).t).toArray⟩] 25 (0, 0)), Th.row w.heap.size 9 1 va (((txts14 fn 0 (l.take k)).map strV).length) ((txts14 fn 0 (l.take k)).map strV), Th.row w.heap.size 2 1 vb (((nums14 fn 0 (l.take k)).map numV).length) ((nums14 fn 0 (l.take k)).map numV), Th.obj gb3 (.cells csk 4 (0, 0)), Th.obj gb2 (.cells #[.int .u8 ((vTxt (l.getD k blankV)).k), .int .i64 ((vTxt (l.getD k blankV)).n), .string ⟨((vTxt (l.getD k blankV)).t).toArray⟩] 25 (0, 0)), Th.obj gb1 (.cells #[.slice none 0 0, .slice none 0 0] 90 (0, 0))]⟩]) (fun u => Own w [Th.obj gb4 (.cells #[.int .u8 ((vTxt (l.getD k blankV)).k), .int .i64 ((vTxt (l.getD k blankV)).n), .string ⟨((vTxt (l.getD k blankV)).t).toArray⟩] 25 (0, 0)), Th.row w.heap.size 9 1 va (((txts14 fn 0 (l.take k)).map strV).length) ((txts14 fn 0 (l.take k)).map strV), Th.row w.heap.size 2 1 vb (((nums14 fn 0 (l.take k)).map numV).length) ((nums14 fn 0 (l.take k)).map numV), Th.obj gb3 (.cells csk 4 (0, 0))] u) 53 (by kernel_rfl) z (by kernel_rfl) (by kernel_rfl) (Stages.of (stages_cons (fun gs ys w o => ((o.less 5).less 4)) (stages_cons (fun gs ys w o => ((o.less 5).less 4)) (stages_cons (fun gs ys w o => ((o.less 5).less 4)) stages_nil)))) (Stages.drew _ _) ⟨[], trivial, ow⟩ (fun i o ho hn aa ww hk bs hd => ?_) (fun t i o ht ho aa ww bs hS hd => ?_) (fun fa1 fw1 bs hv hS => ?_)
        · match i, ho, hn with
          | 0, ho, hn =>
            cases ho
            exact ⟨.agg #[.slice none 0 0, .slice none 0 0], xbuild (us := #[]) rfl (by simp) (by kernel_rfl), rfl, fun h => by cases h⟩
          | 1, ho, hn =>
            cases ho
            exact ⟨aggV (vTxt (l.getD k blankV)), xloadN 3 (vs := [.int .u8 ((vTxt (l.getD k blankV)).k), .int .i64 ((vTxt (l.getD k blankV)).n), .string ⟨((vTxt (l.getD k blankV)).t).toArray⟩]) rfl (by kernel_rfl) (by kernel_rfl) ((bs 10 rfl).trans s10) (hk.box 0 rfl) (Nat.le_of_ble_eq_true rfl) rfl, rfl, fun h => by cases h⟩
          | 4, ho, hn =>
            cases ho
            exact ⟨.bool false, xassign rfl rfl, rfl, fun h => by cases h⟩
          | 2, ho, hn => exact absurd (by decide) hn
          | 3, ho, hn => exact absurd (by decide) hn
          | i + 5, ho, hn => exact absurd ho (by simp)
        · match t, ht with
          | 0, ht =>
            cases ht; cases ho
            have d0 : aa.eval (.tmp 31) = .agg #[.slice none 0 0, .slice none 0 0] := depP hd 0 rfl
            obtain ⟨gs, hc, ow⟩ := (show ∃ gs : List Nat, (True) ∧ Own w [Th.obj gb4 (.cells #[.int .u8 ((vTxt (l.getD k blankV)).k), .int .i64 ((vTxt (l.getD k blankV)).n), .string ⟨((vTxt (l.getD k blankV)).t).toArray⟩] 25 (0, 0)), Th.row w.heap.size 9 1 va (((txts14 fn 0 (l.take k)).map strV).length) ((txts14 fn 0 (l.take k)).map strV), Th.row w.heap.size 2 1 vb (((nums14 fn 0 (l.take k)).map numV).length) ((nums14 fn 0 (l.take k)).map numV), Th.obj gb3 (.cells csk 4 (0, 0)), Th.obj gb2 (.cells #[.int .u8 0, .int .i64 0, .string ⟨[].toArray⟩] 25 (0, 0)), Th.obj gb1 (.cells #[va, vb] 90 (0, 0))] ww from hS)
            obtain ⟨_⟩ := hc
            exact stepC_skip (xstoreN (off := 0) rfl ((bs 4 rfl).trans s4) d0 (by kernel_rfl) (ow.box 5 rfl) rfl (Nat.le_of_ble_eq_true rfl)) trivial ⟨[], trivial, ow.put 5 rfl 0 [.slice none 0 0, .slice none 0 0]⟩
          | 1, ht =>
            cases ht; cases ho
            have d1 : aa.eval (.tmp 32) = aggV (vTxt (l.getD k blankV)) := depP hd 1 rfl
            obtain ⟨gs, hc, ow⟩ := (show ∃ gs : List Nat, (True) ∧ Own w [Th.obj gb4 (.cells #[.int .u8 ((vTxt (l.getD k blankV)).k), .int .i64 ((vTxt (l.getD k blankV)).n), .string ⟨((vTxt (l.getD k blankV)).t).toArray⟩] 25 (0, 0)), Th.row w.heap.size 9 1 va (((txts14 fn 0 (l.take k)).map strV).length) ((txts14 fn 0 (l.take k)).map strV), Th.row w.heap.size 2 1 vb (((nums14 fn 0 (l.take k)).map numV).length) ((nums14 fn 0 (l.take k)).map numV), Th.obj gb3 (.cells csk 4 (0, 0)), Th.obj gb2 (.cells #[.int .u8 0, .int .i64 0, .string ⟨[].toArray⟩] 25 (0, 0)), Th.obj gb1 (.cells #[.slice none 0 0, .slice none 0 0] 90 (0, 0))] ww from hS)
            obtain ⟨_⟩ := hc
            exact stepC_skip (xstoreN (off := 0) rfl ((bs 5 rfl).trans s5) d1 (by kernel_rfl) (ow.box 4 rfl) rfl (Nat.le_of_ble_eq_true rfl)) trivial ⟨[], trivial, ow.put 4 rfl 0 [.int .u8 ((vTxt (l.getD k blankV)).k), .int .i64 ((vTxt (l.getD k blankV)).n), .string ⟨((vTxt (l.getD k blankV)).t).toArray⟩]⟩
          | t + 2, ht => exact absurd ht (by simp)
        obtain ⟨gs, hc, ow⟩ := (show ∃ gs : List Nat, (True) ∧ Own w [Th.obj gb4 (.cells #[.int .u8 ((vTxt (l.getD k blankV)).k), .int .i64 ((vTxt (l.getD k blankV)).n), .string ⟨((vTxt (l.getD k blankV)).t).toArray⟩] 25 (0, 0)), Th.row w.heap.size 9 1 va (((txts14 fn 0 (l.take k)).map strV).length) ((txts14 fn 0 (l.take k)).map strV), Th.row w.heap.size 2 1 vb (((nums14 fn 0 (l.take k)).map numV).length) ((nums14 fn 0 (l.take k)).map numV), Th.obj gb3 (.cells csk 4 (0, 0)), Th.obj gb2 (.cells #[.int .u8 ((vTxt (l.getD k blankV)).k), .int .i64 ((vTxt (l.getD k blankV)).n), .string ⟨((vTxt (l.getD k blankV)).t).toArray⟩] 25 (0, 0)), Th.obj gb1 (.cells #[.slice none 0 0, .slice none 0 0] 90 (0, 0))] fw1 from hS)
        obtain ⟨_⟩ := hc
        have zfa1 : fa1.tmps.size = 53 := bs.size.trans z
        have dffa1 : fa1.defers = [] := bs.defers.trans q
        have s1_fa1 : fa1.eval (.tmp 1) = .slice (some ⟨b0, off0, none⟩) l.length cap := (bs.same 1 (by kernel_rfl)).trans s1
        have s4_fa1 : fa1.eval (.tmp 4) = .pointer (some ⟨gb1, 0, none⟩) := (bs.same 4 (by kernel_rfl)).trans s4
        have s5_fa1 : fa1.eval (.tmp 5) = .pointer (some ⟨gb2, 0, none⟩) := (bs.same 5 (by kernel_rfl)).trans s5
        have s14_fa1 : fa1.eval (.tmp 14) = .slice (some ⟨gb3, 0, none⟩) l.length cb1 := (bs.same 14 (by kernel_rfl)).trans s14
        have s15_fa1 : fa1.eval (.tmp 15) = .int .i64 ((l.length : Nat) : Int) := (bs.same 15 (by kernel_rfl)).trans s15
        have s16_fa1 : fa1.eval (.tmp 16) = .int .i64 (k : Int) := (bs.same 16 (by kernel_rfl)).trans s16
        have s8_fa1 : fa1.eval (.tmp 8) = .bool (txt14 fn k) := (bs.same 8 (by kernel_rfl)).trans s8
        have s10_fa1 : fa1.eval (.tmp 10) = .pointer (some ⟨gb4, 0, none⟩) := (bs.same 10 (by kernel_rfl)).trans s10
        have s6_fa1 : fa1.eval (.tmp 6) = .bool false := hv 4 (by decide)
        refine gather_n (fun fr u => fr.tmps.size = 53 ∧ fr.defers = [] ∧ Own w [Th.obj gb4 (.cells #[.int .u8 ((vTxt (l.getD k blankV)).k), .int .i64 ((vTxt (l.getD k blankV)).n), .string ⟨((vTxt (l.getD k blankV)).t).toArray⟩] 25 (0, 0)), Th.row w.heap.size 9 1 va (((txts14 fn 0 (l.take k)).map strV).length) ((txts14 fn 0 (l.take k)).map strV), Th.row w.heap.size 2 1 vb (((nums14 fn 0 (l.take k)).map numV).length) ((nums14 fn 0 (l.take k)).map numV), Th.obj gb3 (.cells csk 4 (0, 0)), Th.obj gb2 (.cells #[.int .u8 ((vTxt (l.getD k blankV)).k), .int .i64 ((vTxt (l.getD k blankV)).n), .string ⟨((vTxt (l.getD k blankV)).t).toArray⟩] 25 (0, 0)), Th.obj gb1 (.cells #[.slice none 0 0, .slice none 0 0] 90 (0, 0))] u ∧ fr.eval (.tmp 1) = .slice (some ⟨b0, off0, none⟩) l.length cap ∧ fr.eval (.tmp 4) = .pointer (some ⟨gb1, 0, none⟩) ∧ fr.eval (.tmp 5) = .pointer (some ⟨gb2, 0, none⟩) ∧ fr.eval (.tmp 14) = .slice (some ⟨gb3, 0, none⟩) l.length cb1 ∧ fr.eval (.tmp 15) = .int .i64 ((l.length : Nat) : Int) ∧ fr.eval (.tmp 16) = .int .i64 (k : Int) ∧ fr.eval (.tmp 8) = .bool (txt14 fn k) ∧ fr.eval (.tmp 10) = .pointer (some ⟨gb4, 0, none⟩) ∧ fr.eval (.tmp 6) = .bool false) ⟨zfa1, dffa1, ow, s1_fa1, s4_fa1, s5_fa1, s14_fa1, s15_fa1, s16_fa1, s8_fa1, s10_fa1, s6_fa1⟩ ?_
        rintro fa fw ⟨z, q, ow, s1, s4, s5, s14, s15, s16, s8, s10, s6⟩
        refine then_n (hK14 _ _ ?_)
        try clear hK14 K14
        refine wp_ret ?_
        refine then_r ?_
        refine block_r ?_
        refine then_r ?_
        refine then_r ?_
        refine block_r ?_
        refine then_r ?_
        refine resultsL (v := .tuple #[.agg #[.slice none 0 0, .slice none 0 0], aggV (vTxt (l.getD k blankV)), .bool false]) rfl (.cons (res_cell (n := 2) _ s4 (by kernel_rfl) (by kernel_rfl) (ow.box 5 rfl) (Nat.le_of_ble_eq_true rfl) rfl) (.cons (res_cell (n := 3) _ s5 (by kernel_rfl) (by kernel_rfl) (ow.box 4 rfl) (Nat.le_of_ble_eq_true rfl) rfl) (.cons (res_tmp s6) .nil))) rfl q ?_
        exact ⟨_, _, vTxt (l.getD k blankV), false, rfl, ow.kept, rfl, rfl, Or.inl ⟨rfl, firstE_more hlt hfe harg hye⟩⟩
      refine wp_cond_false (s30.trans (congrArg Value.bool (Bool.eq_false_iff.2 (fun c => hc3 ((decide_eq_true_iff).1 c))))) ?_
      have hne : isE (vTxt (l.getD k blankV)) = false := isE_not hc3
      refine wp_skip ?_
      refine then_n (hK12 _ _ ?_)
      try clear hK12 K12
      refine wp_seq_k fun K15 hK15 => ?_
      refine rgn [yV (.bool true)] 1 53 z (by kernel_rfl) (by kernel_rfl) (
        armE (wn rfl) (fun aa ww hk bs hd => xmove rfl (bs.get 8 rfl s8)) (congrArg Value.bool ((Iff.rfl).2 hc2)) rfl <|
        arm0) fun fa fw hk bs hv ap => ?_
      obtain ⟨z, q, ov⟩ := aft hk bs z q ow
      have s1 := bs.get 1 rfl s1
      have s4 := bs.get 4 rfl s4
      have s5 := bs.get 5 rfl s5
      have s6 := bs.get 6 rfl s6
      have s14 := bs.get 14 rfl s14
      have s15 := bs.get 15 rfl s15
      have s16 := bs.get 16 rfl s16
      have s10 := bs.get 10 rfl s10
      have s33 := got hv 0 rfl rfl rfl
      have ow := ov
      clear hv ap bs hk ov
      refine wl_then (hK15 _ _ ?_)
      try clear hK15 K15
      refine wp_cond_true (s33) ?_
      refine rgn [yV (.pointer (some ⟨gb1, 0, none⟩)), yV _, yV (.pointer (some ⟨gb4, 2, none⟩)), yV _, ySlice fw.heap.size 1 (.cells #[.string ⟨((vTxt (l.getD k blankV)).t).toArray⟩] 9 (0, 0))] 5 53 z (by kernel_rfl) (by kernel_rfl) (
        armS (wn rfl) (fun aa ww hk bs hd => xfieldAddr rfl (bs.get 4 rfl s4) (by kernel_rfl)) rfl <|
        armS (wn rfl) (fun aa ww hk bs hd => xloadB rfl (by kernel_rfl) (dep hd 0 rfl rfl rfl) ((ow.keep hk).box 5 rfl) rfl) rfl <|
        armS (wn rfl) (fun aa ww hk bs hd => xfieldAddr rfl (bs.get 10 rfl s10) (by kernel_rfl)) rfl <|
        armS (wn rfl) (fun aa ww hk bs hd => xloadB rfl (by kernel_rfl) (dep hd 2 rfl rfl rfl) ((ow.keep hk).box 0 rfl) rfl) rfl <|
        arm (fun aa ww hk bs hd => by
          have d3 : aa.eval (.tmp 37) = .string ⟨((vTxt (l.getD k blankV)).t).toArray⟩ := depX hd 3 rfl
          exact stepX_new _ (want0 rfl) (xbuildSlice (us := #[(0, .string ⟨((vTxt (l.getD k blankV)).t).toArray⟩)]) (b := .cells #[.string ⟨((vTxt (l.getD k blankV)).t).toArray⟩] 9 (0, 0)) rfl (by simp only [List.map_toArray, List.map_cons, List.map_nil, d3]) (by kernel_rfl)) ⟨_, rfl, hk.size, Go.heap_alloc_new _ _⟩ ((Kept.refl _).alloc _) rfl (Nat.le_refl _)
          ) <|
        arm0) fun fa fw hk bs hv ap => ?_
      obtain ⟨z, q, ov⟩ := aft hk bs z q ow
      have s1 := bs.get 1 rfl s1
      have s4 := bs.get 4 rfl s4
      have s5 := bs.get 5 rfl s5
      have s6 := bs.get 6 rfl s6
      have s14 := bs.get 14 rfl s14
      have s15 := bs.get 15 rfl s15
      have s16 := bs.get 16 rfl s16
      have s35 := got hv 1 rfl rfl rfl
      obtain ⟨gb5, s38, bgb5, hgb5⟩ := gotL hv 4 rfl rfl rfl
      have ov := ov.cons hgb5 (Nat.le_trans ow.kept.size bgb5) (ow.below bgb5)
      have ow := ov
      clear hv ap bs hk ov
      refine wl_appendC (by_ := 16) (want0 rfl) (l := (txts14 fn 0 (l.take k)).map strV) (u := (strV ((vTxt (l.getD k blankV)).t))) rfl Tryz.underlying88 (info_one _ _ _ (by kernel_rfl) rfl) s35 s38 (ow.row 2 rfl) (ow.get 0 rfl) rfl (by rw [List.length_map]; have := shape14 fn (l.take k) 0; rw [List.length_take] at this; omega) (by decide) ow.kept.size (fun vr1 fw2 ho hg hb => ?_)
      have ow := ow.turn 2 rfl (t' := Th.row w.heap.size 9 1 vr1 (((txts14 fn 0 (l.take k)).map strV ++ [(strV ((vTxt (l.getD k blankV)).t))]).length) ((txts14 fn 0 (l.take k)).map strV ++ [(strV ((vTxt (l.getD k blankV)).t))])) ho hg (turn_new hb)
      clear ho hg hb
      refine wl_value (v := .pointer (some ⟨gb1, 0, none⟩)) (want0 rfl) (xfieldAddr rfl (pb 39 s4 rfl) (by kernel_rfl)) ?_
      refine wl_skip (want0 rfl) rfl (xstoreR (off := 0) rfl (put_in (t := 40) (put_size z) rfl) (pb 40 (put_in (t := 39) z rfl) rfl) (by kernel_rfl) (ow.box 6 rfl) (row_one (ow.row 2 rfl)) (Nat.le_of_ble_eq_true rfl)) ?_
      have ow : Own w [Th.obj gb5 (.cells #[.string ⟨((vTxt (l.getD k blankV)).t).toArray⟩] 9 (0, 0)), Th.obj gb4 (.cells #[.int .u8 ((vTxt (l.getD k blankV)).k), .int .i64 ((vTxt (l.getD k blankV)).n), .string ⟨((vTxt (l.getD k blankV)).t).toArray⟩] 25 (0, 0)), Th.row w.heap.size 9 1 vr1 (((txts14 fn 0 (l.take k)).map strV ++ [(strV ((vTxt (l.getD k blankV)).t))]).length) ((txts14 fn 0 (l.take k)).map strV ++ [(strV ((vTxt (l.getD k blankV)).t))]), Th.row w.heap.size 2 1 vb (((nums14 fn 0 (l.take k)).map numV).length) ((nums14 fn 0 (l.take k)).map numV), Th.obj gb3 (.cells csk 4 (0, 0)), Th.obj gb2 (.cells #[.int .u8 0, .int .i64 0, .string ⟨[].toArray⟩] 25 (0, 0)), Th.obj gb1 (.cells #[vr1, vb] 90 (0, 0))] _ := ow.put 6 rfl 0 [vr1]
      refine gt7 (put_size (put_size z)) (put_def (put_def q)) ow 1 (pb 40 (pb 39 s1 rfl) rfl) 4 (pb 40 (pb 39 s4 rfl) rfl) 5 (pb 40 (pb 39 s5 rfl) rfl) 6 (pb 40 (pb 39 s6 rfl) rfl) 14 (pb 40 (pb 39 s14 rfl) rfl) 15 (pb 40 (pb 39 s15 rfl) rfl) 16 (pb 40 (pb 39 s16 rfl) rfl) fun fa fw z q ow s1 s4 s5 s6 s14 s15 s16 => ?_
      refine wl_end ?_
      refine block_n ?_
      refine then_n (hK6 _ _ ?_)
      try clear hK6 K6
      refine rgn [yV (.int .i64 ((k + 1 : Nat) : Int))] 1 53 z (by kernel_rfl) (by kernel_rfl) (
        armS (wn rfl) (fun aa ww hk bs hd => xadd (Or.inl rfl) rfl (bs.get 16 rfl s16) rfl (by omega) (by omega)) rfl <|
        arm0) fun fa fw hk bs hv ap => ?_
      obtain ⟨z, q, ov⟩ := aft hk bs z q ow
      have s1 := bs.get 1 rfl s1
      have s4 := bs.get 4 rfl s4
      have s5 := bs.get 5 rfl s5
      have s6 := bs.get 6 rfl s6
      have s14 := bs.get 14 rfl s14
      have s15 := bs.get 15 rfl s15
      have s16 := bs.get 16 rfl s16
      have s50 := got hv 0 rfl rfl rfl
      have ow := ov
      clear hv ap bs hk ov
      refine wl_value (v := .int .i64 ((k + 1 : Nat) : Int)) (want0 rfl) (xmove rfl s50) ?_
      refine gt7 (put_size z) (put_def q) ow 1 (pb 16 s1 rfl) 4 (pb 16 s4 rfl) 5 (pb 16 s5 rfl) 6 (pb 16 s6 rfl) 14 (pb 16 s14 rfl) 15 (pb 16 s15 rfl) 16 (put_in (t := 16) z rfl) fun fa fw z q ow s1 s4 s5 s6 s14 s15 s16 => ?_
      refine wl_end ?_
      exact then_n ⟨(k + 1), ⟨vr1, vb, hlt, (firstE_next hlt hfe (by rw [harg]; exact hne)), z, q, (by rw [nextT hlt htx, nextTn hlt htx]; exact ow.tail.tail), s1, s4, s5, s6, s14, s15, s16⟩, (show l.length - (k + 1) < l.length - k by omega)⟩
    refine wp_cond_false (s21.trans (congrArg Value.bool (Bool.eq_false_iff.2 (fun c => hc2 ((Iff.rfl).1 c))))) ?_
    have htx : txt14 fn k = false := Bool.eq_false_iff.2 hc2
    have harg : arg14 fn k (l.getD k blankV) = vNum (l.getD k blankV) := by unfold arg14; rw [if_neg (by rw [htx]; decide)]
    refine wp_skip ?_
    refine then_n (hK9 _ _ ?_)
    try clear hK9 K9
    refine wp_seq_k fun K16 hK16 => ?_
    refine rgn [yV _, yV _, yV _, yV _, yV (aggV (l.getD k blankV)), yV (aggV (vNum (l.getD k blankV))), yNew fw.heap.size (.cells #[.int .u8 0, .int .i64 0, .string ⟨[].toArray⟩] 25 (0, 0))] 7 53 z (by kernel_rfl) (by kernel_rfl) (
      mvS s9 rfl rfl rfl rfl <|
      mvS s1 rfl rfl rfl rfl <|
      mvS s7 rfl rfl rfl rfl <|
      armS (wn rfl) (fun aa ww hk bs hd => xplaceV rfl (k := k) (dep hd 1 rfl rfl rfl) (dep hd 2 rfl rfl rfl) hlt) rfl <|
      armS (wn rfl) (fun aa ww hk bs hd => xatV rfl (l := l) (k := k) (dep hd 3 rfl rfl rfl) (hr.kept (ow.keep hk).kept) hlt) rfl <|
      armC (wn rfl) (fun aa ww hk bs hd => xcall1V (F := 38) (u := aggV (l.getD k blankV)) rfl (dep hd 0 rfl rfl rfl) (dep hd 4 rfl rfl rfl) (en_val_ToNumber _ _)) (fun aa ww hk bs hd => tonum_any (l.getD k blankV) ww mx (HM.kept (ow.keep hk).kept) hsk.1 hsk.2) rfl <|
      armP (wn rfl) (fun aa ww hk bs hd => xalloc rfl (by kernel_rfl)) rfl <|
      arm0) fun fa fw hk bs hv ap => ?_
    obtain ⟨z, q, ov⟩ := aft hk bs z q ow
    have s1 := bs.get 1 rfl s1
    have s4 := bs.get 4 rfl s4
    have s5 := bs.get 5 rfl s5
    have s6 := bs.get 6 rfl s6
    have s14 := bs.get 14 rfl s14
    have s15 := bs.get 15 rfl s15
    have s16 := bs.get 16 rfl s16
    have s8 := bs.get 8 rfl s8
    have s27 := got hv 5 rfl rfl rfl
    obtain ⟨gb6, s10, bgb6, hgb6⟩ := gotP hv 6 rfl rfl rfl
    have ov := ov.cons hgb6 (Nat.le_trans ow.kept.size bgb6) (ow.below bgb6)
    have ow := ov
    clear hv ap bs hk ov
    refine wl_store ow 0 0 (want0 rfl) rfl rfl s10 s27 (by kernel_rfl) rfl rfl rfl fun fw ow => ?_
    refine wl_then (hK16 _ _ ?_)
    try clear hK16 K16
    refine wp_seq_k fun K17 hK17 => ?_
    refine wp_seq_k fun K18 hK18 => ?_
    refine rgn [yV (.pointer (some ⟨gb6, 0, none⟩)), yV _, yV _] 3 53 z (by kernel_rfl) (by kernel_rfl) (
      armS (wn rfl) (fun aa ww hk bs hd => xfieldAddr rfl (bs.get 10 rfl s10) (by kernel_rfl)) rfl <|
      armS (wn rfl) (fun aa ww hk bs hd => xloadB rfl (by kernel_rfl) (dep hd 0 rfl rfl rfl) ((ow.keep hk).box 0 rfl) rfl) rfl <|
      armS (wn rfl) (fun aa ww hk bs hd => xeqi rfl (dep hd 1 rfl rfl rfl) rfl) rfl <|
      arm0) fun fa fw hk bs hv ap => ?_
    obtain ⟨z, q, ov⟩ := aft hk bs z q ow
    have s1 := bs.get 1 rfl s1
    have s4 := bs.get 4 rfl s4
    have s5 := bs.get 5 rfl s5
    have s6 := bs.get 6 rfl s6
    have s14 := bs.get 14 rfl s14
    have s15 := bs.get 15 rfl s15
    have s16 := bs.get 16 rfl s16
    have s8 := bs.get 8 rfl s8
    have s10 := bs.get 10 rfl s10
    have s30 := got hv 2 rfl rfl rfl
    have ow := ov
    clear hv ap bs hk ov
    refine wl_then (hK18 _ _ ?_)
    try clear hK18 K18
    by_cases hc4 : ((vNum (l.getD k blankV)).k : Int) = (4 : Int)
    · refine wp_cond_true (s30.trans (congrArg Value.bool ((decide_eq_true_iff).2 hc4))) ?_
      have hye : isE (vNum (l.getD k blankV)) = true := isE_of hc4
      refine wp_seq_k fun K19 hK19 => ?_
      refine region_chain [2, 3] [fun v => v = .agg #[.slice none 0 0, .slice none 0 0], fun v => v = aggV (vNum (l.getD k blankV)), fun _ => True, fun _ => True, fun v => v = .bool false] (Stages w [⟨fun gs ys => True, fun gs ys => [Th.obj gb6 (.cells #[.int .u8 ((vNum (l.getD k blankV)).k), .int .i64 ((vNum (l.getD k blankV)).n), .string ⟨((vNum (l.getD k blankV)).t).toArray⟩] 25 (0, 0)), Th.row w.heap.size 9 1 va (((txts14 fn 0 (l.take k)).map strV).length) ((txts14 fn 0 (l.take k)).map strV), Th.row w.heap.size 2 1 vb (((nums14 fn 0 (l.take k)).map numV).length) ((nums14 fn 0 (l.take k)).map numV), Th.obj gb3 (.cells csk 4 (0, 0)), Th.obj gb2 (.cells #[.int .u8 0, .int .i64 0, .string ⟨[].toArray⟩] 25 (0, 0)), Th.obj gb1 (.cells #[va, vb] 90 (0, 0))]⟩, ⟨fun gs ys => True, fun gs ys => [Th.obj gb6 (.cells #[.int .u8 ((vNum (l.getD k blankV)).k), .int .i64 ((vNum (l.getD k blankV)).n), .string ⟨((vNum (l.getD k blankV)).t).toArray⟩] 25 (0, 0)), Th.row w.heap.size 9 1 va (((txts14 fn 0 (l.take k)).map strV).length) ((txts14 fn 0 (l.take k)).map strV), Th.row w.heap.size 2 1 vb (((nums14 fn 0 (l.take k)).map numV).length) ((nums14 fn 0 (l.take k)).map numV), Th.obj gb3 (.cells csk 4 (0, 0)), Th.obj gb2 (.cells #[.int .u8 0, .int .i64 0, .string ⟨[].toArray⟩] 25 (0, 0)), Th.obj gb1 (.cells #[.slice none 0 0, .slice none 0 0] 90 (0, 0))]⟩, ⟨fun gs ys => True, fun gs ys => [Th.obj gb6 (.cells #[.int .u8 ((vNum (l.getD k blankV)).k), .int .i64 ((vNum (l.getD k blankV)).n), .string ⟨((vNum (l.getD k blankV)).t).toArray⟩] 25 (0, 0)), Th.row w.heap.size 9 1 va (((txts14 fn 0 (l.take k)).map strV).length) ((txts14 fn 0 (l.take k)).map strV), Th.row w.heap.size 2 1 vb (((nums14 fn 0 (l.take k)).map numV).length) ((nums14 fn 0 (l.take k)).map numV), Th.obj gb3 (.cells csk 4 (0, 0)), Th.obj gb2 (.cells #[.int .u8 ((vNum (l.getD k blankV)).k), .int .i64 ((vNum (l.getD k blankV)).n), .string ⟨((vNum (l.getD k blankV)).t).toArray⟩] 25 (0, 0)), Th.obj gb1 (.cells #[.slice none 0 0, .slice none 0 0] 90 (0, 0))]⟩]) (fun u => Own w [Th.obj gb6 (.cells #[.int .u8 ((vNum (l.getD k blankV)).k), .int .i64 ((vNum (l.getD k blankV)).n), .string ⟨((vNum (l.getD k blankV)).t).toArray⟩] 25 (0, 0)), Th.row w.heap.size 9 1 va (((txts14 fn 0 (l.take k)).map strV).length) ((txts14 fn 0 (l.take k)).map strV), Th.row w.heap.size 2 1 vb (((nums14 fn 0 (l.take k)).map numV).length) ((nums14 fn 0 (l.take k)).map numV), Th.obj gb3 (.cells csk 4 (0, 0))] u) 53 (by kernel_rfl) z (by kernel_rfl) (by kernel_rfl) (Stages.of (stages_cons (fun gs ys w o => ((o.less 5).less 4)) (stages_cons (fun gs ys w o => ((o.less 5).less 4)) (stages_cons (fun gs ys w o => ((o.less 5).less 4)) stages_nil)))) (Stages.drew _ _) ⟨[], trivial, ow⟩ (fun i o ho hn aa ww hk bs hd => ?_) (fun t i o ht ho aa ww bs hS hd => ?_) (fun fa2 fw3 bs hv hS => ?_)
      · match i, ho, hn with
        | 0, ho, hn =>
          cases ho
          exact ⟨.agg #[.slice none 0 0, .slice none 0 0], xbuild (us := #[]) rfl (by simp) (by kernel_rfl), rfl, fun h => by cases h⟩
        | 1, ho, hn =>
          cases ho
          exact ⟨aggV (vNum (l.getD k blankV)), xloadN 3 (vs := [.int .u8 ((vNum (l.getD k blankV)).k), .int .i64 ((vNum (l.getD k blankV)).n), .string ⟨((vNum (l.getD k blankV)).t).toArray⟩]) rfl (by kernel_rfl) (by kernel_rfl) ((bs 10 rfl).trans s10) (hk.box 0 rfl) (Nat.le_of_ble_eq_true rfl) rfl, rfl, fun h => by cases h⟩
        | 4, ho, hn =>
          cases ho
          exact ⟨.bool false, xassign rfl rfl, rfl, fun h => by cases h⟩
        | 2, ho, hn => exact absurd (by decide) hn
        | 3, ho, hn => exact absurd (by decide) hn
        | i + 5, ho, hn => exact absurd ho (by simp)
      · match t, ht with
        | 0, ht =>
          cases ht; cases ho
          have d0 : aa.eval (.tmp 31) = .agg #[.slice none 0 0, .slice none 0 0] := depP hd 0 rfl
          obtain ⟨gs, hc, ow⟩ := (show ∃ gs : List Nat, (True) ∧ Own w [Th.obj gb6 (.cells #[.int .u8 ((vNum (l.getD k blankV)).k), .int .i64 ((vNum (l.getD k blankV)).n), .string ⟨((vNum (l.getD k blankV)).t).toArray⟩] 25 (0, 0)), Th.row w.heap.size 9 1 va (((txts14 fn 0 (l.take k)).map strV).length) ((txts14 fn 0 (l.take k)).map strV), Th.row w.heap.size 2 1 vb (((nums14 fn 0 (l.take k)).map numV).length) ((nums14 fn 0 (l.take k)).map numV), Th.obj gb3 (.cells csk 4 (0, 0)), Th.obj gb2 (.cells #[.int .u8 0, .int .i64 0, .string ⟨[].toArray⟩] 25 (0, 0)), Th.obj gb1 (.cells #[va, vb] 90 (0, 0))] ww from hS)
          obtain ⟨_⟩ := hc
          exact stepC_skip (xstoreN (off := 0) rfl ((bs 4 rfl).trans s4) d0 (by kernel_rfl) (ow.box 5 rfl) rfl (Nat.le_of_ble_eq_true rfl)) trivial ⟨[], trivial, ow.put 5 rfl 0 [.slice none 0 0, .slice none 0 0]⟩
        | 1, ht =>
          cases ht; cases ho
          have d1 : aa.eval (.tmp 32) = aggV (vNum (l.getD k blankV)) := depP hd 1 rfl
          obtain ⟨gs, hc, ow⟩ := (show ∃ gs : List Nat, (True) ∧ Own w [Th.obj gb6 (.cells #[.int .u8 ((vNum (l.getD k blankV)).k), .int .i64 ((vNum (l.getD k blankV)).n), .string ⟨((vNum (l.getD k blankV)).t).toArray⟩] 25 (0, 0)), Th.row w.heap.size 9 1 va (((txts14 fn 0 (l.take k)).map strV).length) ((txts14 fn 0 (l.take k)).map strV), Th.row w.heap.size 2 1 vb (((nums14 fn 0 (l.take k)).map numV).length) ((nums14 fn 0 (l.take k)).map numV), Th.obj gb3 (.cells csk 4 (0, 0)), Th.obj gb2 (.cells #[.int .u8 0, .int .i64 0, .string ⟨[].toArray⟩] 25 (0, 0)), Th.obj gb1 (.cells #[.slice none 0 0, .slice none 0 0] 90 (0, 0))] ww from hS)
          obtain ⟨_⟩ := hc
          exact stepC_skip (xstoreN (off := 0) rfl ((bs 5 rfl).trans s5) d1 (by kernel_rfl) (ow.box 4 rfl) rfl (Nat.le_of_ble_eq_true rfl)) trivial ⟨[], trivial, ow.put 4 rfl 0 [.int .u8 ((vNum (l.getD k blankV)).k), .int .i64 ((vNum (l.getD k blankV)).n), .string ⟨((vNum (l.getD k blankV)).t).toArray⟩]⟩
        | t + 2, ht => exact absurd ht (by simp)
      obtain ⟨gs, hc, ow⟩ := (show ∃ gs : List Nat, (True) ∧ Own w [Th.obj gb6 (.cells #[.int .u8 ((vNum (l.getD k blankV)).k), .int .i64 ((vNum (l.getD k blankV)).n), .string ⟨((vNum (l.getD k blankV)).t).toArray⟩] 25 (0, 0)), Th.row w.heap.size 9 1 va (((txts14 fn 0 (l.take k)).map strV).length) ((txts14 fn 0 (l.take k)).map strV), Th.row w.heap.size 2 1 vb (((nums14 fn 0 (l.take k)).map numV).length) ((nums14 fn 0 (l.take k)).map numV), Th.obj gb3 (.cells csk 4 (0, 0)), Th.obj gb2 (.cells #[.int .u8 ((vNum (l.getD k blankV)).k), .int .i64 ((vNum (l.getD k blankV)).n), .string ⟨((vNum (l.getD k blankV)).t).toArray⟩] 25 (0, 0)), Th.obj gb1 (.cells #[.slice none 0 0, .slice none 0 0] 90 (0, 0))] fw3 from hS)
      obtain ⟨_⟩ := hc
      have zfa2 : fa2.tmps.size = 53 := bs.size.trans z
      have dffa2 : fa2.defers = [] := bs.defers.trans q
      have s1_fa2 : fa2.eval (.tmp 1) = .slice (some ⟨b0, off0, none⟩) l.length cap := (bs.same 1 (by kernel_rfl)).trans s1
      have s4_fa2 : fa2.eval (.tmp 4) = .pointer (some ⟨gb1, 0, none⟩) := (bs.same 4 (by kernel_rfl)).trans s4
      have s5_fa2 : fa2.eval (.tmp 5) = .pointer (some ⟨gb2, 0, none⟩) := (bs.same 5 (by kernel_rfl)).trans s5
      have s14_fa2 : fa2.eval (.tmp 14) = .slice (some ⟨gb3, 0, none⟩) l.length cb1 := (bs.same 14 (by kernel_rfl)).trans s14
      have s15_fa2 : fa2.eval (.tmp 15) = .int .i64 ((l.length : Nat) : Int) := (bs.same 15 (by kernel_rfl)).trans s15
      have s16_fa2 : fa2.eval (.tmp 16) = .int .i64 (k : Int) := (bs.same 16 (by kernel_rfl)).trans s16
      have s8_fa2 : fa2.eval (.tmp 8) = .bool (txt14 fn k) := (bs.same 8 (by kernel_rfl)).trans s8
      have s10_fa2 : fa2.eval (.tmp 10) = .pointer (some ⟨gb6, 0, none⟩) := (bs.same 10 (by kernel_rfl)).trans s10
      have s6_fa2 : fa2.eval (.tmp 6) = .bool false := hv 4 (by decide)
      refine gather_n (fun fr u => fr.tmps.size = 53 ∧ fr.defers = [] ∧ Own w [Th.obj gb6 (.cells #[.int .u8 ((vNum (l.getD k blankV)).k), .int .i64 ((vNum (l.getD k blankV)).n), .string ⟨((vNum (l.getD k blankV)).t).toArray⟩] 25 (0, 0)), Th.row w.heap.size 9 1 va (((txts14 fn 0 (l.take k)).map strV).length) ((txts14 fn 0 (l.take k)).map strV), Th.row w.heap.size 2 1 vb (((nums14 fn 0 (l.take k)).map numV).length) ((nums14 fn 0 (l.take k)).map numV), Th.obj gb3 (.cells csk 4 (0, 0)), Th.obj gb2 (.cells #[.int .u8 ((vNum (l.getD k blankV)).k), .int .i64 ((vNum (l.getD k blankV)).n), .string ⟨((vNum (l.getD k blankV)).t).toArray⟩] 25 (0, 0)), Th.obj gb1 (.cells #[.slice none 0 0, .slice none 0 0] 90 (0, 0))] u ∧ fr.eval (.tmp 1) = .slice (some ⟨b0, off0, none⟩) l.length cap ∧ fr.eval (.tmp 4) = .pointer (some ⟨gb1, 0, none⟩) ∧ fr.eval (.tmp 5) = .pointer (some ⟨gb2, 0, none⟩) ∧ fr.eval (.tmp 14) = .slice (some ⟨gb3, 0, none⟩) l.length cb1 ∧ fr.eval (.tmp 15) = .int .i64 ((l.length : Nat) : Int) ∧ fr.eval (.tmp 16) = .int .i64 (k : Int) ∧ fr.eval (.tmp 8) = .bool (txt14 fn k) ∧ fr.eval (.tmp 10) = .pointer (some ⟨gb6, 0, none⟩) ∧ fr.eval (.tmp 6) = .bool false) ⟨zfa2, dffa2, ow, s1_fa2, s4_fa2, s5_fa2, s14_fa2, s15_fa2, s16_fa2, s8_fa2, s10_fa2, s6_fa2⟩ ?_
      rintro fa fw ⟨z, q, ow, s1, s4, s5, s14, s15, s16, s8, s10, s6⟩
      refine then_n (hK19 _ _ ?_)
      try clear hK19 K19
      refine wp_ret ?_
      refine then_r ?_
      refine block_r ?_
      refine then_r ?_
      refine then_r ?_
      refine block_r ?_
      refine then_r ?_
      refine resultsL (v := .tuple #[.agg #[.slice none 0 0, .slice none 0 0], aggV (vNum (l.getD k blankV)), .bool false]) rfl (.cons (res_cell (n := 2) _ s4 (by kernel_rfl) (by kernel_rfl) (ow.box 5 rfl) (Nat.le_of_ble_eq_true rfl) rfl) (.cons (res_cell (n := 3) _ s5 (by kernel_rfl) (by kernel_rfl) (ow.box 4 rfl) (Nat.le_of_ble_eq_true rfl) rfl) (.cons (res_tmp s6) .nil))) rfl q ?_
      exact ⟨_, _, vNum (l.getD k blankV), false, rfl, ow.kept, rfl, rfl, Or.inl ⟨rfl, firstE_more hlt hfe harg hye⟩⟩
    refine wp_cond_false (s30.trans (congrArg Value.bool (Bool.eq_false_iff.2 (fun c => hc4 ((decide_eq_true_iff).1 c))))) ?_
    have hne : isE (vNum (l.getD k blankV)) = false := isE_not hc4
    refine wp_skip ?_
    refine then_n (hK17 _ _ ?_)
    try clear hK17 K17
    refine wp_seq_k fun K20 hK20 => ?_
    refine rgn [yV (.bool false)] 1 53 z (by kernel_rfl) (by kernel_rfl) (
      armE (wn rfl) (fun aa ww hk bs hd => xmove rfl (bs.get 8 rfl s8)) (congrArg Value.bool (Bool.eq_false_iff.2 (fun c => hc2 ((Iff.rfl).1 c)))) rfl <|
      arm0) fun fa fw hk bs hv ap => ?_
    obtain ⟨z, q, ov⟩ := aft hk bs z q ow
    have s1 := bs.get 1 rfl s1
    have s4 := bs.get 4 rfl s4
    have s5 := bs.get 5 rfl s5
    have s6 := bs.get 6 rfl s6
    have s14 := bs.get 14 rfl s14
    have s15 := bs.get 15 rfl s15
    have s16 := bs.get 16 rfl s16
    have s10 := bs.get 10 rfl s10
    have s33 := got hv 0 rfl rfl rfl
    have ow := ov
    clear hv ap bs hk ov
    refine wl_then (hK20 _ _ ?_)
    try clear hK20 K20
    refine wp_cond_false (s33) ?_
    refine rgn [yV (.pointer (some ⟨gb1, 1, none⟩)), yV _, yV (.pointer (some ⟨gb6, 1, none⟩)), yV _, yV (.int .i64 (((vNum (l.getD k blankV)).n) - Int.tmod ((vNum (l.getD k blankV)).n) 10000)), yV _, ySlice fw.heap.size 1 (.cells #[.int .i64 (Int.tdiv (((vNum (l.getD k blankV)).n) - Int.tmod ((vNum (l.getD k blankV)).n) 10000) 10000)] 2 (0, 0))] 7 53 z (by kernel_rfl) (by kernel_rfl) (
      armS (wn rfl) (fun aa ww hk bs hd => xfieldAddr rfl (bs.get 4 rfl s4) (by kernel_rfl)) rfl <|
      armS (wn rfl) (fun aa ww hk bs hd => xloadB rfl (by kernel_rfl) (dep hd 0 rfl rfl rfl) ((ow.keep hk).box 5 rfl) rfl) rfl <|
      armS (wn rfl) (fun aa ww hk bs hd => xfieldAddr rfl (bs.get 10 rfl s10) (by kernel_rfl)) rfl <|
      armS (wn rfl) (fun aa ww hk bs hd => xloadB rfl (by kernel_rfl) (dep hd 2 rfl rfl rfl) ((ow.keep hk).box 0 rfl) rfl) rfl <|
      armC (wn rfl) (fun aa ww hk bs hd => xcall1 rfl (dep hd 3 rfl rfl rfl) (en_dec_Trunc _ _)) (fun aa ww hk bs hd => trunc14_any ((vNum (l.getD k blankV)).n) ww (num_i64 hsk.1)) rfl <|
      armS (wn rfl) (fun aa ww hk bs hd => xquo (Or.inr rfl) rfl (dep hd 4 rfl rfl rfl) rfl (by omega) (by have := (trunc_i64 (num_i64 hsk.1)).1; omega) (by have := (trunc_i64 (num_i64 hsk.1)).2; omega)) rfl <|
      arm (fun aa ww hk bs hd => by
        have d5 : aa.eval (.tmp 46) = .int .i64 (Int.tdiv (((vNum (l.getD k blankV)).n) - Int.tmod ((vNum (l.getD k blankV)).n) 10000) 10000) := depX hd 5 rfl
        exact stepX_new _ (want0 rfl) (xbuildSlice (us := #[(0, .int .i64 (Int.tdiv (((vNum (l.getD k blankV)).n) - Int.tmod ((vNum (l.getD k blankV)).n) 10000) 10000))]) (b := .cells #[.int .i64 (Int.tdiv (((vNum (l.getD k blankV)).n) - Int.tmod ((vNum (l.getD k blankV)).n) 10000) 10000)] 2 (0, 0)) rfl (by simp only [List.map_toArray, List.map_cons, List.map_nil, d5]) (by kernel_rfl)) ⟨_, rfl, hk.size, Go.heap_alloc_new _ _⟩ ((Kept.refl _).alloc _) rfl (Nat.le_refl _)
        ) <|
      arm0) fun fa fw hk bs hv ap => ?_
    obtain ⟨z, q, ov⟩ := aft hk bs z q ow
    have s1 := bs.get 1 rfl s1
    have s4 := bs.get 4 rfl s4
    have s5 := bs.get 5 rfl s5
    have s6 := bs.get 6 rfl s6
    have s14 := bs.get 14 rfl s14
    have s15 := bs.get 15 rfl s15
    have s16 := bs.get 16 rfl s16
    have s42 := got hv 1 rfl rfl rfl
    obtain ⟨gb7, s47, bgb7, hgb7⟩ := gotL hv 6 rfl rfl rfl
    have ov := ov.cons hgb7 (Nat.le_trans ow.kept.size bgb7) (ow.below bgb7)
    have ow := ov
    clear hv ap bs hk ov
    refine wl_appendC (by_ := 8) (want0 rfl) (l := (nums14 fn 0 (l.take k)).map numV) (u := (numV (Int.tdiv (((vNum (l.getD k blankV)).n) - Int.tmod ((vNum (l.getD k blankV)).n) 10000) 10000))) rfl Tryz.underlying72 (info_one _ _ _ (by kernel_rfl) rfl) s42 s47 (ow.row 3 rfl) (ow.get 0 rfl) rfl (by rw [List.length_map]; have := shape14 fn (l.take k) 0; rw [List.length_take] at this; omega) (by decide) ow.kept.size (fun vr2 fw4 ho hg hb => ?_)
    have ow := ow.turn 3 rfl (t' := Th.row w.heap.size 2 1 vr2 (((nums14 fn 0 (l.take k)).map numV ++ [(numV (Int.tdiv (((vNum (l.getD k blankV)).n) - Int.tmod ((vNum (l.getD k blankV)).n) 10000) 10000))]).length) ((nums14 fn 0 (l.take k)).map numV ++ [(numV (Int.tdiv (((vNum (l.getD k blankV)).n) - Int.tmod ((vNum (l.getD k blankV)).n) 10000) 10000))])) ho hg (turn_new hb)
    clear ho hg hb
    refine wl_value (v := .pointer (some ⟨gb1, 1, none⟩)) (want0 rfl) (xfieldAddr rfl (pb 48 s4 rfl) (by kernel_rfl)) ?_
    refine wl_skip (want0 rfl) rfl (xstoreR (off := 1) rfl (put_in (t := 49) (put_size z) rfl) (pb 49 (put_in (t := 48) z rfl) rfl) (by kernel_rfl) (ow.box 6 rfl) (row_one (ow.row 3 rfl)) (Nat.le_of_ble_eq_true rfl)) ?_
    have ow : Own w [Th.obj gb7 (.cells #[.int .i64 (Int.tdiv (((vNum (l.getD k blankV)).n) - Int.tmod ((vNum (l.getD k blankV)).n) 10000) 10000)] 2 (0, 0)), Th.obj gb6 (.cells #[.int .u8 ((vNum (l.getD k blankV)).k), .int .i64 ((vNum (l.getD k blankV)).n), .string ⟨((vNum (l.getD k blankV)).t).toArray⟩] 25 (0, 0)), Th.row w.heap.size 9 1 va (((txts14 fn 0 (l.take k)).map strV).length) ((txts14 fn 0 (l.take k)).map strV), Th.row w.heap.size 2 1 vr2 (((nums14 fn 0 (l.take k)).map numV ++ [(numV (Int.tdiv (((vNum (l.getD k blankV)).n) - Int.tmod ((vNum (l.getD k blankV)).n) 10000) 10000))]).length) ((nums14 fn 0 (l.take k)).map numV ++ [(numV (Int.tdiv (((vNum (l.getD k blankV)).n) - Int.tmod ((vNum (l.getD k blankV)).n) 10000) 10000))]), Th.obj gb3 (.cells csk 4 (0, 0)), Th.obj gb2 (.cells #[.int .u8 0, .int .i64 0, .string ⟨[].toArray⟩] 25 (0, 0)), Th.obj gb1 (.cells #[va, vr2] 90 (0, 0))] _ := ow.put 6 rfl 1 [vr2]
    refine gt7 (put_size (put_size z)) (put_def (put_def q)) ow 1 (pb 49 (pb 48 s1 rfl) rfl) 4 (pb 49 (pb 48 s4 rfl) rfl) 5 (pb 49 (pb 48 s5 rfl) rfl) 6 (pb 49 (pb 48 s6 rfl) rfl) 14 (pb 49 (pb 48 s14 rfl) rfl) 15 (pb 49 (pb 48 s15 rfl) rfl) 16 (pb 49 (pb 48 s16 rfl) rfl) fun fa fw z q ow s1 s4 s5 s6 s14 s15 s16 => ?_
    refine wl_end ?_
    refine block_n ?_
    refine then_n (hK6 _ _ ?_)
    try clear hK6 K6
    refine rgn [yV (.int .i64 ((k + 1 : Nat) : Int))] 1 53 z (by kernel_rfl) (by kernel_rfl) (
      armS (wn rfl) (fun aa ww hk bs hd => xadd (Or.inl rfl) rfl (bs.get 16 rfl s16) rfl (by omega) (by omega)) rfl <|
      arm0) fun fa fw hk bs hv ap => ?_
    obtain ⟨z, q, ov⟩ := aft hk bs z q ow
    have s1 := bs.get 1 rfl s1
    have s4 := bs.get 4 rfl s4
    have s5 := bs.get 5 rfl s5
    have s6 := bs.get 6 rfl s6
    have s14 := bs.get 14 rfl s14
    have s15 := bs.get 15 rfl s15
    have s16 := bs.get 16 rfl s16
    have s50 := got hv 0 rfl rfl rfl
    have ow := ov
    clear hv ap bs hk ov
    refine wl_value (v := .int .i64 ((k + 1 : Nat) : Int)) (want0 rfl) (xmove rfl s50) ?_
    refine gt7 (put_size z) (put_def q) ow 1 (pb 16 s1 rfl) 4 (pb 16 s4 rfl) 5 (pb 16 s5 rfl) 6 (pb 16 s6 rfl) 14 (pb 16 s14 rfl) 15 (pb 16 s15 rfl) 16 (put_in (t := 16) z rfl) fun fa fw z q ow s1 s4 s5 s6 s14 s15 s16 => ?_
    refine wl_end ?_
    exact then_n ⟨(k + 1), ⟨va, vr2, hlt, (firstE_next hlt hfe (by rw [harg]; exact hne)), z, q, (by rw [nextN hlt htx, nextNt hlt htx]; exact ow.tail.tail), s1, s4, s5, s6, s14, s15, s16⟩, (show l.length - (k + 1) < l.length - k by omega)⟩
  refine wp_cond_false (s17.trans (congrArg Value.bool (Bool.eq_false_iff.2 (fun c => hc1 ((decide_eq_true_iff).1 c))))) ?_
  refine wp_exit ?_
  refine then_e ?_
  refine then_e ?_
  refine block_hit ?_
  refine then_n (hK2 _ _ ?_)
  try clear hK2 K2
  refine wp_seq_k fun K21 hK21 => ?_
  refine rgn [yV (.agg #[va, vb]), yV (aggV (⟨0, 0, []⟩ : Vl))] 2 53 z (by kernel_rfl) (by kernel_rfl) (
    armS (wn rfl) (fun aa ww hk bs hd => xloadN 2 rfl (by kernel_rfl) (by kernel_rfl) (bs.get 4 rfl s4) ((ow.keep hk).box 4 rfl) (Nat.le_of_ble_eq_true rfl) rfl) rfl <|
    armS (wn rfl) (fun aa ww hk bs hd => xbuild (us := #[]) rfl (by simp) (by kernel_rfl)) rfl <|
    arm0) fun fa fw hk bs hv ap => ?_
  obtain ⟨z, q, ov⟩ := aft hk bs z q ow
  have s4 := bs.get 4 rfl s4
  have s5 := bs.get 5 rfl s5
  have s6 := bs.get 6 rfl s6
  have s51 := got hv 0 rfl rfl rfl
  have s52 := got hv 1 rfl rfl rfl
  have ow := ov
  clear hv ap bs hk ov
  refine wl_store ow 4 0 (want0 rfl) rfl rfl s4 s51 (by kernel_rfl) rfl (one_cons (row_one (ow.row 0 rfl)) (one_cons (row_one (ow.row 1 rfl)) rfl)) rfl fun fw ow => ?_
  refine wl_store ow 3 0 (want0 rfl) rfl rfl s5 s52 (by kernel_rfl) rfl rfl rfl fun fw ow => ?_
  refine wl_value (v := .bool true) (want0 rfl) (xassign rfl rfl) ?_
  refine gt3 (put_size z) (put_def q) ow 4 (pb 6 s4 rfl) 5 (pb 6 s5 rfl) 6 (put_in (t := 6) z rfl) fun fa fw z q ow s4 s5 s6 => ?_
  refine wl_then (hK21 _ _ ?_)
  try clear hK21 K21
  refine wp_ret ?_
  refine resultsL (v := .tuple #[.agg #[va, vb], aggV (⟨0, 0, []⟩ : Vl), .bool true]) rfl (.cons (res_cell (n := 2) _ s4 (by kernel_rfl) (by kernel_rfl) (ow.box 4 rfl) (Nat.le_of_ble_eq_true rfl) rfl) (.cons (res_cell (n := 3) _ s5 (by kernel_rfl) (by kernel_rfl) (ow.box 3 rfl) (Nat.le_of_ble_eq_true rfl) rfl) (.cons (res_tmp s6) .nil))) rfl q ?_
  have hkl : k = l.length := by omega
  subst hkl
  rw [List.take_length] at hfe
  have oo := Own.two ow
  rw [List.take_length] at oo
  exact ⟨_, _, (⟨0, 0, []⟩ : Vl), true, rfl, ow.kept, row_one (oo.row 0 rfl), row_one (oo.row 1 rfl), Or.inr ⟨rfl, hfe, oo⟩⟩
end Go.Proofs.YtbpkfnoenkoabaaGreatDoor
