/- The law FlogicErrors, walked. -/
import Derived.Test.YtipkjpcedfokhaaDoorGAwake15
import Derived.Test.YtipkjpcedfokhaaDoorGGood
namespace Go.Proofs.YtipkjpcedfokhaaDoor
set_option linter.unusedVariables false
set_option linter.unusedSimpArgs false
open Go.RowKit Lv

/-- the first error of a row converted to bools, or blank -/
def wantV (l : List Vl) : Vl := (firstE (l.map vBool)).getD blankV
theorem wantV_snoc (l : List Vl) (v : Vl) : wantV (l ++ [v]) = if isE (vBool v) = true ∧ (wantV l).k = 0 then vBool v else wantV l := by
  unfold wantV
  rw [List.map_append, List.map_cons, List.map_nil, firstE_snoc]
  cases hf : firstE (l.map vBool) with
  | some e =>
    have he := isE_iff.1 (firstE_some hf).1
    show e = _
    rw [if_neg]
    · rfl
    · rintro ⟨_, h⟩
      simp only [Option.getD_some] at h
      omega
  | none =>
    by_cases h : isE (vBool v) = true
    · rw [if_pos h, if_pos ⟨h, rfl⟩]; rfl
    · rw [if_neg h, if_neg (fun x => h x.1)]; rfl
theorem wantV_kinds (l : List Vl) : (wantV l = blankV ∧ firstE (l.map vBool) = none) ∨ ((wantV l).k = 4 ∧ firstE (l.map vBool) = some (wantV l)) := by
  unfold wantV
  cases hf : firstE (l.map vBool) with
  | none => exact Or.inl ⟨rfl, rfl⟩
  | some e => exact Or.inr ⟨isE_iff.1 (firstE_some hf).1, rfl⟩
theorem small_ok {v : Vl} (h : vOk v = true) (hn : i64 v.n) : Small v := ⟨hn, by have := ok_short h; omega⟩
theorem good_i64 {v : Vl} (h : i64 v.n) : i64 (vGood v).n := by
  unfold vGood
  split
  · exact h
  · split
    · exact (small_truth _).1
    · split
      · show i64 0; exact ⟨by omega, by omega⟩
      · split
        · exact (small_fail _).1
        · split
          · show i64 0; exact ⟨by omega, by omega⟩
          · exact (small_make (n := max v.n (-9223372036854775807)) ⟨by have := h.1; omega, by have := h.2; omega⟩).1
theorem good_small {v : Vl} (h : Wide v) : Small (vGood v) := small_ok (good_ok v) (good_i64 h.2.1)
abbrev fns3 : Value := .agg #[.int .u8 21, .int .u8 22, .int .u8 23]
theorem fn3 (k : Nat) (h : k < 3) (w : World) : (Instr.index 57 fns3 (.int .i64 k)).run Tryd.prog w = .ok (.int .u8 ((21 + k : Nat) : Int)) w := by
  match k, h with
  | 0, _ => show _ = _; kernel_rfl
  | 1, _ => show _ = _; kernel_rfl
  | 2, _ => show _ = _; kernel_rfl

/-- stores into a block below an own row -/
theorem OwnV.below3 {w : World} {base p : Nat} {u x y z : Value} {l : List Vl} (h : OwnV w base u l) (hp : p < base) : OwnV (((w.setCell ⟨p, 0, none⟩ x).setCell ⟨p, 1, none⟩ y).setCell ⟨p, 2, none⟩ z) base u l := by
  obtain ⟨h1, h2⟩ := h
  refine ⟨h1, ?_⟩
  rcases h2 with h2 | ⟨g, cap, cur, hv, hg, hh, r⟩
  · exact Or.inl h2
  · exact Or.inr ⟨g, cap, cur, hv, hg, Box.far3 (T := 35) (cs := cur) hh (by omega), r⟩

set_option maxHeartbeats 8000000 in
set_option maxRecDepth 100000 in
theorem FlogicErrors_walk (a0 : Option Addr) (len0 cap0 : Nat) (l0 : List Vl) (w : World) (w0 : ValsIn w a0 len0 cap0 l0) (mx : Int) (hm : Mx w mx) :
    Calls Tryd.prog 16 #[.slice a0 len0 cap0] w fun e w' => e = .returned (.bool true) ∧ Below w.heap.size w w' := by
  have HM := Lib.hid hm
  have AW := Lib.hid (fun w h => awake15_any w mx h)
  have HR := Lib.hid w0.row
  have HL := Lib.hid w0.len_eq
  have ml : maxLen ≤ 9223372036854775807 := by decide
  have lb : len0 ≤ 9223372036854775807 := Nat.le_trans w0.le (Nat.le_trans w0.max ml)
  have HW := Lib.hid w0.wide
  obtain ⟨n, hn⟩ : ∃ n, n = min len0 16 := ⟨_, rfl⟩
  obtain ⟨gs, hgs⟩ : ∃ gs, gs = (l0.take 16).map vGood := ⟨_, rfl⟩
  have lg : gs.length = n := by rw [hgs, List.length_map, List.length_take, w0.len_eq]; omega
  have LG := Lib.hid lg
  have GS := Lib.hid hgs
  have n16 : n ≤ 16 := by omega
  have nl : n ≤ len0 := by omega
  have nn : n = len0 ∨ n = 16 := by omega
  have SG : Hid (∀ v ∈ gs, Small v) := fun v hv => by
    rw [hgs] at hv
    obtain ⟨u, hu, rfl⟩ := List.mem_map.1 hv
    exact good_small (w0.wide u (List.mem_of_mem_take hu))
  have OG : Hid (∀ v ∈ gs, vOk v = true) := fun v hv => by
    rw [hgs] at hv
    obtain ⟨u, hu, rfl⟩ := List.mem_map.1 hv
    exact good_ok u
  have GK : Hid (∀ k, k < n → gs[k]? = some (vGood (l0.getD k blankV))) := fun k hk => by
    have hkl : k < l0.length := by rw [w0.len_eq]; omega
    rw [hgs, List.getElem?_map, List.getElem?_take_of_lt (by omega)]
    simp [List.getD, hkl]
  have B0 : Hid (Box (w.alloc (.cells #[.int .u8 0, .int .i64 0, .string ⟨#[]⟩] 35)) w.heap.size 35 (cellsV blankV)) := Lib.hid (Box.new w _ _)
  clear hm w0 lg hgs ml hn
  go_enter Tryd.func16, Tryd.ntmps16
  go_wp2_with fail
  go_loopw [3, 5] (fun s i wr => ∃ k : Nat, k ≤ n ∧ i = .int .i64 k ∧ OwnV wr (w.heap.size + 1) s (gs.take k) ∧ Kept w wr ∧ Box wr w.heap.size 35 (cellsV (wantV (gs.take k)))) (fun _ i _ => n - (intOf i).toNat)
  case atStart => exact ⟨0, by omega, rfl, by rw [List.take_zero]; exact OwnV.nil _ _, (by repeat (first | with_reducible exact Kept.refl _ | with_reducible apply Kept.drew | with_reducible apply Kept.drewN | with_reducible apply Kept.alloc | (with_reducible refine Kept.setCellX ?_ ?_ _; focus (first | (simp; done) | (simp; omega))) | (with_reducible refine Kept.trans ?_ (by assumption)))), B0.out⟩
  case round =>
    obtain ⟨k, hk, rfl, own, kw, bx⟩ := hrel
    have OWN := Lib.hid own
    have KW := Lib.hid kw
    have BX := Lib.hid bx
    have isz := bx.inside
    clear own kw bx
    by_cases hlt : k < n
    · have h16 : k < 16 := by omega
      have hl : k < len0 := by omega
      have hkl : k < l0.length := by rw [HL.out]; omega
      obtain ⟨b, off, rfl, hb, x0, x1, x2⟩ := (HR.out.kept KW.out) k hkl
      have gk := GK.out k hlt
      have hkg : k < gs.length := by rw [LG.out]; exact hlt
      have wx : Wide (l0.getD k blankV) := HW.out _ (by rw [show l0.getD k blankV = l0[k] by simp [List.getD, hkl]]; exact List.getElem_mem hkl)
      have G := Lib.hid (fun w => good_any (l0.getD k blankV) w wx)
      have sy := good_small wx
      have T := Lib.hid (fun w => tobool_any (vGood (l0.getD k blankV)) w sy.1 sy.2)
      have tk : gs.take (k + 1) = gs.take k ++ [vGood (l0.getD k blankV)] := by
        rw [List.getElem?_eq_getElem hkg] at gk
        rw [List.take_succ_eq_append_getElem hkg, Option.some.inj gk]
      have TK := Lib.hid tk
      have WS := Lib.hid (wantV_snoc (gs.take k) (vGood (l0.getD k blankV)))
      clear gk wx sy tk
      generalize vGood (l0.getD k blankV) = y at *
      generalize l0.getD k blankV = x at *
      go_wp2_with fail
      refine (G.out _).mono ?_
      rintro e w1 ⟨rfl, k1⟩
      have by0 : Box (w1.alloc (.cells (cellsV y) 35)) w1.heap.size 35 (cellsV y) := Box.new w1 _ _
      have sz1 := k1.size
      have K1 := Lib.hid (k1.alloc (.cells (cellsV y) 35))
      have BY := Lib.hid by0
      clear k1 by0
      go_wp2_with fail
      refine (T.out _).mono ?_
      rintro e w2 ⟨rfl, k2⟩
      have k12 := K1.out.trans k2
      have sz2 : w1.heap.size < w2.heap.size := by have := k2.size; rw [World.size_alloc] at this; omega
      have OW2 := Lib.hid (OWN.out.kept k12)
      have BX2 := Lib.hid (BX.out.kept k12)
      have KW2 := Lib.hid (KW.out.trans k12)
      obtain ⟨_, y0, y1, y2, _⟩ := (BY.out.kept k2).three
      have LT : Hid ((gs.take k).length + 1 ≤ 1000000) := Lib.hid (by rw [List.length_take]; omega)
      clear k2 k12 x0 x1 x2 OWN BX KW
      generalize vBool y = z at *
      generalize wantV (gs.take k) = wv at *
      obtain ⟨_, p0, p1, p2, f0, f1, f2⟩ := BX2.out.three
      have zk := isE_beq z
      rcases (show (isE z = true ∧ wv.k = 0) ∨ (isE z = true ∧ ¬ wv.k = 0) ∨ isE z = false by cases isE z <;> simp <;> omega) with ⟨c1, c2⟩ | ⟨c1, c2⟩ | c1
      · rw [c1] at zk
        have wk : ((wv.k : Int) == 0) = true := by rw [beq_iff_eq]; omega
        have WN : Hid (wantV (gs.take k ++ [y]) = z) := Lib.hid (by rw [WS.out, if_pos ⟨c1, c2⟩])
        have ho := Lib.hid (show OwnV (((((w2.setCell ⟨w.heap.size, 0, none⟩ (.int .u8 z.k)).setCell ⟨w.heap.size, 1, none⟩ (.int .i64 z.n)).setCell ⟨w.heap.size, 2, none⟩ (.string ⟨z.t.toArray⟩)).alloc (.cells (cellsV z) 35)).alloc (.cells (cellsV y) 35)) (w.heap.size + 1) _ (gs.take k) from ((OW2.out.below3 (Nat.lt_succ_self _)).alloc _).alloc _)
        have BZ : Hid (Box (((((w2.setCell ⟨w.heap.size, 0, none⟩ (.int .u8 z.k)).setCell ⟨w.heap.size, 1, none⟩ (.int .i64 z.n)).setCell ⟨w.heap.size, 2, none⟩ (.string ⟨z.t.toArray⟩)).alloc (.cells (cellsV z) 35)).alloc (.cells (cellsV y) 35)) w.heap.size 35 (cellsV z)) := Lib.hid (((Box.set3 BX2.out).alloc _).alloc _)
        have KZ : Hid (Kept w (((((w2.setCell ⟨w.heap.size, 0, none⟩ (.int .u8 z.k)).setCell ⟨w.heap.size, 1, none⟩ (.int .i64 z.n)).setCell ⟨w.heap.size, 2, none⟩ (.string ⟨z.t.toArray⟩)).alloc (.cells (cellsV z) 35)).alloc (.cells (cellsV y) 35))) := Lib.hid (((KW2.out.set3 (Nat.le_refl _)).alloc _).alloc _)
        have RZ : Hid (RowV (((((w2.setCell ⟨w.heap.size, 0, none⟩ (.int .u8 z.k)).setCell ⟨w.heap.size, 1, none⟩ (.int .i64 z.n)).setCell ⟨w.heap.size, 2, none⟩ (.string ⟨z.t.toArray⟩)).alloc (.cells (cellsV z) 35)).alloc (.cells (cellsV y) 35)) (some ⟨w2.heap.size + 1, 0, none⟩) [y]) := Lib.hid (RowV.box (t := 35) (Box.newAt (by simp) _ _) rfl)
        clear c1 c2
        go_wp2_with (refine append_vals rfl _ _ rfl (w.heap.size + 1) _ _ [y] rfl ho.out _ _ rfl RZ.out (by simp only [List.length_singleton]; exact LT.out) (by simp; omega) ?_; intro v1 w5 o1 gr)
        have k5 := ho.out.grown (a := w) (by omega) KZ.out gr
        have b5 := ho.out.box (Nat.lt_succ_self _) gr BZ.out
        go_roundw
        case rel => exact ⟨k + 1, by omega, by go_num, by rw [TK.out]; exact o1, k5, by rw [TK.out, WN.out]; exact b5⟩
        case measure => (simp [intOf]; try omega)
      · rw [c1] at zk
        have wk : ((wv.k : Int) == 0) = false := by rw [beq_eq_false_iff_ne]; omega
        have WN : Hid (wantV (gs.take k ++ [y]) = wv) := Lib.hid (by rw [WS.out, if_neg (fun x => c2 x.2)])
        have ho := Lib.hid (show OwnV ((w2.alloc (.cells (cellsV z) 35)).alloc (.cells (cellsV y) 35)) (w.heap.size + 1) _ (gs.take k) from (OW2.out.alloc _).alloc _)
        have BZ : Hid (Box ((w2.alloc (.cells (cellsV z) 35)).alloc (.cells (cellsV y) 35)) w.heap.size 35 (cellsV wv)) := Lib.hid ((BX2.out.alloc _).alloc _)
        have KZ : Hid (Kept w ((w2.alloc (.cells (cellsV z) 35)).alloc (.cells (cellsV y) 35))) := Lib.hid ((KW2.out.alloc _).alloc _)
        have RZ : Hid (RowV ((w2.alloc (.cells (cellsV z) 35)).alloc (.cells (cellsV y) 35)) (some ⟨w2.heap.size + 1, 0, none⟩) [y]) := Lib.hid (RowV.box (t := 35) (Box.newAt (by simp) _ _) rfl)
        clear c1 c2
        go_wp2_with (refine append_vals rfl _ _ rfl (w.heap.size + 1) _ _ [y] rfl ho.out _ _ rfl RZ.out (by simp only [List.length_singleton]; exact LT.out) (by simp; omega) ?_; intro v1 w5 o1 gr)
        have k5 := ho.out.grown (a := w) (by omega) KZ.out gr
        have b5 := ho.out.box (Nat.lt_succ_self _) gr BZ.out
        go_roundw
        case rel => exact ⟨k + 1, by omega, by go_num, by rw [TK.out]; exact o1, k5, by rw [TK.out, WN.out]; exact b5⟩
        case measure => (simp [intOf]; try omega)
      · rw [c1] at zk
        have WN : Hid (wantV (gs.take k ++ [y]) = wv) := Lib.hid (by rw [WS.out, if_neg (fun x => by rw [c1] at x; exact Bool.false_ne_true x.1)])
        have ho := Lib.hid (show OwnV ((w2.alloc (.cells (cellsV z) 35)).alloc (.cells (cellsV y) 35)) (w.heap.size + 1) _ (gs.take k) from (OW2.out.alloc _).alloc _)
        have BZ : Hid (Box ((w2.alloc (.cells (cellsV z) 35)).alloc (.cells (cellsV y) 35)) w.heap.size 35 (cellsV wv)) := Lib.hid ((BX2.out.alloc _).alloc _)
        have KZ : Hid (Kept w ((w2.alloc (.cells (cellsV z) 35)).alloc (.cells (cellsV y) 35))) := Lib.hid ((KW2.out.alloc _).alloc _)
        have RZ : Hid (RowV ((w2.alloc (.cells (cellsV z) 35)).alloc (.cells (cellsV y) 35)) (some ⟨w2.heap.size + 1, 0, none⟩) [y]) := Lib.hid (RowV.box (t := 35) (Box.newAt (by simp) _ _) rfl)
        clear c1
        go_wp2_with (refine append_vals rfl _ _ rfl (w.heap.size + 1) _ _ [y] rfl ho.out _ _ rfl RZ.out (by simp only [List.length_singleton]; exact LT.out) (by simp; omega) ?_; intro v1 w5 o1 gr)
        have k5 := ho.out.grown (a := w) (by omega) KZ.out gr
        have b5 := ho.out.box (Nat.lt_succ_self _) gr BZ.out
        go_roundw
        case rel => exact ⟨k + 1, by omega, by go_num, by rw [TK.out]; exact o1, k5, by rw [TK.out, WN.out]; exact b5⟩
        case measure => (simp [intOf]; try omega)
    · obtain rfl : k = n := by omega
      have e : gs.take k = gs := List.take_of_length_le (by rw [LG.out]; omega)
      have own := OWN.out
      have bx := BX.out
      rw [e] at own bx
      obtain ⟨A, cap, rfl, row, hcap, _⟩ := own.row
      rw [LG.out] at hcap ⊢
      have ROW := Lib.hid row
      have B1 := Lib.hid bx
      have stop : k = len0 ∨ (¬ k = len0 ∧ k = 16) := by omega
      have wk := wantV_kinds gs
      have WK := Lib.hid wk
      generalize wantV gs = wv at *
      have C := Lib.hid (fun fn w hm hr => call15_any fn A cap gs w mx hm hr SG.out (by rw [LG.out]; omega) (by rw [LG.out]; exact hcap))
      rw [LG.out] at C
      have ck : (k < len0 ∧ ¬ k < 16) ∨ ¬ k < len0 := by omega
      have LB := Lib.hid (show k = gs.length from LG.out.symm)
      have FN := Lib.hid fn3
      clear own bx row e wk hlt nn OWN BX
      rcases ck with ⟨c1, c2⟩ | c1
      all_goals
        go_wp2_with fail
        go_loopw [44] (fun i wx => ∃ j : Nat, j ≤ 3 ∧ i = .int .i64 j ∧ Kept w wx ∧ RowV wx A gs ∧ Box wx w.heap.size 35 (cellsV wv)) (fun i _ => 3 - (intOf i).toNat)
        case atStart => exact ⟨0, by omega, rfl, KW.out, ROW.out, B1.out⟩
        case round =>
          obtain ⟨j, hj, rfl, kx, rx, bx⟩ := hrel
          have KX := Lib.hid kx
          have RX := Lib.hid rx
          have BX := Lib.hid bx
          obtain ⟨isx, b0, b1, b2, _⟩ := bx.three
          clear kx rx bx
          by_cases h3 : j < 3
          · have ix := FN.out j h3
            have CJ := Lib.hid (fun w hm hr => C.out (21 + j) w hm hr)
            by_cases hk0 : k = 0
            · have gnil : gs = [] := List.eq_nil_of_length_eq_zero (by rw [LG.out]; exact hk0)
              have cv : vCall (21 + j) gs = (blankV, 11) := by
                rw [gnil]
                exact call_count (by omega) (Or.inl (by have := lo_pos (21 + j); simp; omega))
              rw [cv] at CJ
              have kb : ((k : Int) == 0) = true := by rw [hk0]; rfl
              clear cv gnil hk0
              go_wp2_with fail
              refine (CJ.out _ (HM.out.kept KX.out) RX.out).mono ?_
              rintro e w3 ⟨rfl, k3⟩
              have kz := Lib.hid (k3.alloc (.cells (cellsV blankV) 35))
              clear k3
              go_wp2_with fail
              go_roundw
              case rel => exact ⟨j + 1, by omega, by go_num, KX.out.trans kz.out, RX.out.kept kz.out, BX.out.kept kz.out⟩
              case measure => (simp [intOf]; try omega)
            · obtain ⟨a, r, hgs⟩ : ∃ a r, gs = a :: r := by
                cases gs with
                | nil => exfalso; have := LG.out; simp at this; omega
                | cons a r => exact ⟨a, r, rfl⟩
              have hi : hi15 (21 + j) = 16 := by
                rcases (show j = 0 ∨ j = 1 ∨ j = 2 by omega) with rfl | rfl | rfl <;> rfl
              have lo : lo15 (21 + j) = 1 := by
                rcases (show j = 0 ∨ j = 1 ∨ j = 2 by omega) with rfl | rfl | rfl <;> rfl
              have lr : (a :: r).length = k := by rw [← hgs]; exact LG.out
              have cv : vCall (21 + j) gs = (vLogic (21 + j) a r, 0) := by
                have ok := OG.out
                rw [hgs] at ok ⊢
                exact call_good (by omega) (by rw [hi, lo, lr]; omega) ok
              rw [cv] at CJ
              have kb : ((k : Int) == 0) = false := by rw [beq_eq_false_iff_ne]; omega
              have ways := fold_error (21 + j) (by omega) a r
              rw [← hgs] at ways
              generalize vLogic (21 + j) a r = v at *
              have ways2 : (∃ n t, v = ⟨4, n, t⟩ ∧ wv = ⟨4, n, t⟩) ∨ (∃ n t, v = ⟨2, n, t⟩ ∧ wv = ⟨0, 0, []⟩) := by
                rcases ways with ⟨e, h1, h2⟩ | ⟨h1, b, h2⟩
                · rcases WK.out with ⟨_, g⟩ | ⟨g1, g2⟩
                  · rw [h1] at g; cases g
                  · rw [h1] at g2
                    have e1 := Option.some.inj g2
                    obtain ⟨k1, n1, t1⟩ := wv
                    simp only at g1
                    subst g1
                    exact Or.inl ⟨n1, t1, h2.trans e1, rfl⟩
                · rcases WK.out with ⟨g1, _⟩ | ⟨g1, g2⟩
                  · exact Or.inr ⟨_, _, h2, g1⟩
                  · rw [h1] at g2; cases g2
              clear ways cv lr lo hi hgs hk0
              rcases ways2 with ⟨vn, vt, rfl, rfl⟩ | ⟨vn, vt, rfl, rfl⟩
              · have CJ := Lib.hid CJ.out
                go_wp2_with fail
                refine (CJ.out _ (HM.out.kept KX.out) RX.out).mono ?_
                rintro e w3 ⟨rfl, k3⟩
                have kz := Lib.hid (k3.alloc (.cells (cellsV ⟨4, vn, vt⟩) 35))
                obtain ⟨_, b0, b1, b2, _⟩ := (BX.out.kept k3).three
                clear k3
                go_wp2_with fail
                go_roundw
                case rel => exact ⟨j + 1, by omega, by go_num, KX.out.trans kz.out, RX.out.kept kz.out, BX.out.kept kz.out⟩
                case measure => (simp [intOf]; try omega)
              · have CJ := Lib.hid CJ.out
                go_wp2_with fail
                refine (CJ.out _ (HM.out.kept KX.out) RX.out).mono ?_
                rintro e w3 ⟨rfl, k3⟩
                have kz := Lib.hid (k3.alloc (.cells (cellsV ⟨2, vn, vt⟩) 35))
                obtain ⟨_, b0, b1, b2, _⟩ := (BX.out.kept k3).three
                clear k3
                go_wp2_with fail
                go_roundw
                case rel => exact ⟨j + 1, by omega, by go_num, KX.out.trans kz.out, RX.out.kept kz.out, BX.out.kept kz.out⟩
                case measure => (simp [intOf]; try omega)
          · obtain rfl : j = 3 := by omega
            clear h3
            go_wp2_with fail
            refine (AW.out _ (HM.out.kept KX.out)).mono ?_
            rintro e w8 ⟨rfl, k8⟩
            go_wp2_with fail
            go_ret
            exact ⟨rfl, KX.out.trans k8⟩
end Go.Proofs.YtipkjpcedfokhaaDoor
