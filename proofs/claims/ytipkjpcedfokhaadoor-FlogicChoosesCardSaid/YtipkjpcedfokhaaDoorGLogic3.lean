/- Layer 15: fold over values, choice. -/
import Derived.Test.YtipkjpcedfokhaaDoorGLogic2
namespace Go.Proofs.YtipkjpcedfokhaaDoor
set_option linter.unusedVariables false
set_option linter.unusedSimpArgs false
open Go.RowKit Lv

/-- what is known of a function's last world, and no more -/
theorem ret_world {P : Program} {f : Func} {R : Ending → World → Prop} {x : Exit} {a : Act} {W : World} (F : World → Prop) (hF : F W) (h : ∀ wf, F wf → bodyPost P f R x a wf) : bodyPost P f R x a W := h W hF
theorem wp_world {P : Program} {c : Code} {Q : Exit → Act → World → Prop} {a : Act} {W : World} (F : World → Prop) (hF : F W) (h : ∀ wf, F wf → c.wp P Q a wf) : c.wp P Q a W := h W hF
/-- three blocks of a value each -/
structure Tri (w : World) (p : Nat) (a b c : Vl) : Prop where
  A : Box w p 35 (cellsV a)
  B : Box w (p + 1) 35 (cellsV b)
  C : Box w (p + 1 + 1) 35 (cellsV c)
theorem Tri.kept {w w' : World} {p : Nat} {a b c : Vl} (h : Tri w p a b c) (k : Kept w w') : Tri w' p a b c := ⟨h.A.kept k, h.B.kept k, h.C.kept k⟩
theorem Tri.made (w : World) (a b c : Vl) : Tri (((w.alloc (.cells (cellsV a) 35)).alloc (.cells (cellsV b) 35)).alloc (.cells (cellsV c) 35)) w.heap.size a b c :=
  ⟨((Box.new w _ _).alloc _).alloc _, (Box.newAt (by simp) _ _).alloc _, Box.newAt (by simp) _ _⟩
theorem Tri.far {w : World} {p g : Nat} {a b c : Vl} (h : Tri w p a b c) (hg : p + 1 + 1 < g) (x y z : Value) : Tri (((w.setCell ⟨g, 0, none⟩ x).setCell ⟨g, 1, none⟩ y).setCell ⟨g, 2, none⟩ z) p a b c := ⟨Box.far3 h.A (by omega), Box.far3 h.B (by omega), Box.far3 h.C (by omega)⟩
theorem Tri.setB {w : World} {p : Nat} {a b c : Vl} (h : Tri w p a b c) (x : Vl) : Tri (((w.setCell ⟨p + 1, 0, none⟩ (.int .u8 x.k)).setCell ⟨p + 1, 1, none⟩ (.int .i64 x.n)).setCell ⟨p + 1, 2, none⟩ (.string ⟨x.t.toArray⟩)) p a x c := ⟨Box.far3 h.A (by omega), Box.set3 h.B, Box.far3 h.C (by omega)⟩
theorem Tri.setC {w : World} {p : Nat} {a b c : Vl} (h : Tri w p a b c) (x : Vl) : Tri (((w.setCell ⟨p + 1 + 1, 0, none⟩ (.int .u8 x.k)).setCell ⟨p + 1 + 1, 1, none⟩ (.int .i64 x.n)).setCell ⟨p + 1 + 1, 2, none⟩ (.string ⟨x.t.toArray⟩)) p a b x := ⟨Box.far3 h.A (by omega), Box.far3 h.B (by omega), Box.set3 h.C⟩
theorem Tri.inside {w : World} {p : Nat} {a b c : Vl} (h : Tri w p a b c) : p + 1 + 1 < w.heap.size := h.C.inside
theorem getLastD_snoc (l : List Vl) (v d : Vl) : (l ++ [v]).getLastD d = v := by simp

set_option maxHeartbeats 2000000 in
set_option maxRecDepth 100000 in
theorem foldV_any (A : Option Addr) (cap : Nat) (l : List Vl) (first : Vl) (w : World) (hr : RowV w A l) (hl : l.length ≤ 100) :
    Calls Tryd.prog 144 #[.slice A l.length cap, .func (.func 145) #[] #[], aggV first, .func (.func 146) #[] #[]] w fun e w' => e = .returned (foldE (aggV first) (aggV (l.getLastD first)) (firstE l)) ∧ Kept w w' := by
  obtain ⟨n, hn⟩ : ∃ n, n = l.length := ⟨_, rfl⟩
  rw [← hn]
  have HN := Lib.hid hn
  have HR := Lib.hid hr
  rw [← hn] at hl
  clear hn hr
  go_enter Tryd.func144, Tryd.ntmps144
  go_wp2_with fail
  go_loopw [17] (fun i wr => ∃ (k : Nat) (x : Vl), k ≤ n ∧ i = .int .i64 k ∧ x = (l.take k).getLastD first ∧ firstE (l.take k) = none ∧ Kept w wr ∧ Tri wr w.heap.size first x blankV) (fun i _ => n - (intOf i).toNat)
  case atStart => exact ⟨0, first, by omega, rfl, rfl, rfl, (by repeat (first | with_reducible exact Kept.refl _ | with_reducible apply Kept.drew | with_reducible apply Kept.drewN | with_reducible apply Kept.alloc | (with_reducible refine Kept.setCellX ?_ ?_ _; focus (first | (simp; done) | (simp; omega))) | (with_reducible refine Kept.trans ?_ (by assumption)))), Tri.made w first first blankV⟩
  case round =>
    obtain ⟨k, u, hk, rfl, hu, hf, kw, tri⟩ := hrel
    have HU := Lib.hid hu
    clear hu
    by_cases hlt : k < n
    · have hkl : k < l.length := by rw [← HN.out]; exact hlt
      obtain ⟨b, o, rfl, _, x0, x1, x2⟩ := (HR.out.kept kw) k hkl
      have tk : l.take (k + 1) = l.take k ++ [l.getD k blankV] := by
        rw [List.take_succ_eq_append_getElem hkl, show l.getD k blankV = l[k] by simp [List.getD, hkl]]
      have dk : l = l.take k ++ (l.getD k blankV :: l.drop (k + 1)) := by
        conv => lhs; rw [← List.take_append_drop k l]
        rw [List.drop_eq_getElem_cons hkl, show l.getD k blankV = l[k] by simp [List.getD, hkl]]
      have TK := Lib.hid tk
      have HF := Lib.hid hf
      have TB := Lib.hid (fun w => same15_any (l.getD k blankV) w)
      have TRI := Lib.hid tri
      have KW := Lib.hid kw
      have DK := Lib.hid dk
      have si := tri.inside
      clear hf tk dk tri kw
      generalize l.getD k blankV = y at *
      cases he : isE y with
      | true =>
        have yk : ((y.k : Int) == 4) = true := by have := isE_iff.1 he; rw [beq_iff_eq]; omega
        have HE := Lib.hid he
        clear he
        go_wp2_with fail
        refine (TB.out _).mono ?_
        rintro e w1 ⟨rfl, k1⟩
        have ka := (Kept.alloc (Kept.refl wr) (.cells #[.int .u8 y.k, .int .i64 y.n, .string ⟨y.t.toArray⟩] 35)).trans k1
        have kb := ka.alloc (.cells #[.int .u8 y.k, .int .i64 y.n, .string ⟨y.t.toArray⟩] 35)
        have by0 : Box (w1.alloc (.cells #[.int .u8 y.k, .int .i64 y.n, .string ⟨y.t.toArray⟩] 35)) w1.heap.size 35 (cellsV y) := Box.new w1 _ _
        have TZ := Lib.hid (TRI.out.kept kb)
        have KB := Lib.hid (KW.out.trans kb)
        have BY := Lib.hid by0
        have P3 : w.heap.size + 1 + 1 < w1.heap.size := (TRI.out.kept ka).inside
        clear ka kb k1 by0
        go_wp2_with fail
        generalize w1.alloc (.cells #[.int .u8 y.k, .int .i64 y.n, .string ⟨y.t.toArray⟩] 35) = w3 at *
        generalize w1.heap.size = p3 at *
        obtain ⟨_, a0, a1, a2, _⟩ := TZ.out.A.three
        obtain ⟨_, y0, y1, y2, _⟩ := BY.out.three
        obtain ⟨i1, b0, b1, b2, f0, f1, f2⟩ := TZ.out.B.three
        obtain ⟨i2, c0, c1, c2, g0, g1, g2⟩ := TZ.out.C.three
        go_region
        go_wp2_with fail
        have EF : Hid (firstE l = some y) := by
          show _ = _
          rw [DK.out, firstE_append_none HF.out, firstE_cons_yes HE.out]
        exact bodyPost_ret (v := .tuple #[aggV first, aggV y, .bool false]) (by simp [results, Tryd.results144, go_sem, b0, b1, b2, c0, c1, c2]) rfl ⟨congrArg (fun z => Ending.returned (foldE (aggV first) (aggV (l.getLastD first)) z)) EF.out.symm, ((KB.out.set3 (by omega)).set3 (by omega)).drew⟩
      | false =>
        have yk : ((y.k : Int) == 4) = false := by rw [beq_eq_false_iff_ne]; intro h; rw [isE_iff.2 (by omega)] at he; cases he
        have C1 := Lib.hid (fun w => last15_any u y w)
        have HE := Lib.hid he
        clear he
        go_wp2_with fail
        refine (TB.out _).mono ?_
        rintro e w1 ⟨rfl, k1⟩
        have ka := (Kept.alloc (Kept.refl wr) (.cells #[.int .u8 y.k, .int .i64 y.n, .string ⟨y.t.toArray⟩] 35)).trans k1
        have tz := TRI.out.kept ka
        obtain ⟨i1, b0, b1, b2, f0, f1, f2⟩ := tz.B.three
        have KA := Lib.hid ka
        clear ka tz k1
        go_wp2_with fail
        refine (C1.out _).mono ?_
        rintro e w2 ⟨rfl, k2⟩
        have kb := (Kept.alloc KA.out (.cells #[.int .u8 y.k, .int .i64 y.n, .string ⟨y.t.toArray⟩] 35)).trans k2
        have tz := TRI.out.kept kb
        obtain ⟨i1', b0', b1', b2', f0', f1', f2'⟩ := tz.B.three
        have TZ := Lib.hid tz
        have KB := Lib.hid (KW.out.trans kb)
        clear kb tz k2
        go_wp2_with fail
        go_roundw
        case rel => exact ⟨k + 1, y, by omega, by go_num, by rw [TK.out, getLastD_snoc], by rw [TK.out, firstE_snoc, HF.out, HE.out]; rfl, KB.out.set3 (by omega), TZ.out.setB y⟩
        case measure => (simp [intOf]; try omega)
    · obtain rfl : k = n := by omega
      have e : l.take k = l := List.take_of_length_le (by rw [← HN.out]; omega)
      have EF : Hid (foldE (aggV first) (aggV (l.getLastD first)) (firstE l) = .tuple #[aggV u, aggV blankV, .bool true]) := by
        show _ = _
        rw [e] at hf
        have hu := HU.out
        rw [e] at hu
        rw [hf, hu]; rfl
      obtain ⟨i1, b0, b1, b2, f0, f1, f2⟩ := tri.B.three
      obtain ⟨i2, c0, c1, c2, g0, g1, g2⟩ := tri.C.three
      have KW := Lib.hid kw
      have TRI := Lib.hid tri
      clear e hf kw tri
      go_wp2_with fail
      exact bodyPost_ret (v := .tuple #[aggV u, .agg #[.int .u8 0, .int .i64 0, .string ⟨#[]⟩], .bool true]) (by simp [results, Tryd.results144, go_sem, b0, b1, b2, c0, c1, c2]) rfl ⟨congrArg Ending.returned EF.out.symm, ((KW.out.set3 (by omega)).set3 (by omega))⟩

/-- what choice yields, of the first value converted and the first error among the others -/
def chosenE (x : Vl) (f : Option Vl) : Value := if isE x then .tuple #[aggV blankV, aggV x, .bool false] else match f with
  | some e => .tuple #[aggV x, aggV e, .bool false]
  | none => .tuple #[aggV x, aggV blankV, .bool true]

set_option maxHeartbeats 2000000 in
set_option maxRecDepth 100000 in
theorem choiceB_any (b off cap : Nat) (a : Vl) (r : List Vl) (y : Vl) (w : World) (hr : RowV w (some ⟨b, off, none⟩) (a :: r)) (hl : r.length + 1 ≤ 100) (hn : 1 ≤ r.length) (hc : r.length + 1 ≤ cap)
    (hf : ∀ w', Kept w w' → Calls Tryd.prog 53 #[aggV a] w' fun e w'' => e = .returned (aggV y) ∧ Kept w' w'') :
    Calls Tryd.prog 124 #[.slice (some ⟨b, off, none⟩) (r.length + 1) cap, .func (.func 53) #[] #[]] w fun e w' => e = .returned (chosenE y (firstE r)) ∧ Kept w w' := by
  obtain ⟨b', off', e, hb, x0, x1, x2⟩ := hr 0 (by simp)
  cases e
  simp only [Nat.zero_mul, Nat.add_zero, List.getD_cons_zero] at x0 x1 x2
  have rt := (RowV.drop hr 1)
  simp only [Nat.one_mul, List.drop_succ_cons, List.drop_zero] at rt
  have RT := Lib.hid rt
  have FV : Hid (∀ w, RowV w (some ⟨b, off + 3, none⟩) r → Calls Tryd.prog 144 #[.slice (some ⟨b, off + 3, none⟩) r.length (cap - 1), .func (.func 145) #[] #[], aggV y, .func (.func 146) #[] #[]] w
    fun e w' => e = .returned (foldE (aggV y) (aggV (r.getLastD y)) (firstE r)) ∧ Kept w w') := fun w h => foldV_any _ _ r y w h (by omega)
  have TB := Lib.hid hf
  have b0 : Box ((w.alloc (.cells #[.int .u8 0, .int .i64 0, .string ⟨#[]⟩] 35)).alloc (.cells #[.int .u8 0, .int .i64 0, .string ⟨#[]⟩] 35)) w.heap.size 35 (cellsV blankV) := (Box.new w _ _).alloc _
  have b1 : Box ((w.alloc (.cells #[.int .u8 0, .int .i64 0, .string ⟨#[]⟩] 35)).alloc (.cells #[.int .u8 0, .int .i64 0, .string ⟨#[]⟩] 35)) (w.heap.size + 1) 35 (cellsV blankV) := Box.newAt (by simp) _ _
  have B0 := Lib.hid b0
  have B1 := Lib.hid b1
  clear hr hf rt b0 b1
  cases he : isE y with
  | true =>
    have yk : ((y.k : Int) == 4) = true := by have := isE_iff.1 he; rw [beq_iff_eq]; omega
    have EF : Hid (chosenE y (firstE r) = .tuple #[aggV blankV, aggV y, .bool false]) := by
      show _ = _
      unfold chosenE; rw [he]; rfl
    clear he
    go_enter Tryd.func124, Tryd.ntmps124
    go_wp2_with fail
    refine (TB.out _ (by repeat (first | with_reducible exact Kept.refl _ | with_reducible apply Kept.drew | with_reducible apply Kept.drewN | with_reducible apply Kept.alloc | (with_reducible refine Kept.setCellX ?_ ?_ _; focus (first | (simp; done) | (simp; omega))) | (with_reducible refine Kept.trans ?_ (by assumption))))).mono ?_
    rintro e w1 ⟨rfl, k1⟩
    have c0 := B0.out.kept k1
    have c1 := B1.out.kept k1
    have kk : Kept w w1 := Kept.trans (by repeat (first | with_reducible exact Kept.refl _ | with_reducible apply Kept.drew | with_reducible apply Kept.drewN | with_reducible apply Kept.alloc | (with_reducible refine Kept.setCellX ?_ ?_ _; focus (first | (simp; done) | (simp; omega))) | (with_reducible refine Kept.trans ?_ (by assumption)))) k1
    obtain ⟨i0, p0, p1, p2, f0, f1, f2⟩ := c0.three
    obtain ⟨i1, q0, q1, q2, g0, g1, g2⟩ := c1.three
    have KK := Lib.hid kk
    have C0 := Lib.hid c0
    have C1 := Lib.hid c1
    clear c0 c1 kk k1
    go_wp2_with fail
    refine ret_world (fun wf => Box wf w.heap.size 35 #[.int .u8 0, .int .i64 0, .string ⟨#[]⟩] ∧ Box wf (w.heap.size + 1) 35 (cellsV y) ∧ Kept w wf)
      ⟨Box.far3 (Box.set3 (Box.set3 C0.out)) (by omega), Box.set3 (Box.far3 (Box.far3 C1.out (by omega)) (by omega)), ((KK.out.set3 (Nat.le_refl _)).set3 (Nat.le_refl _)).set3 (by omega)⟩ ?_
    rintro wf ⟨z0, z1, kf⟩
    obtain ⟨r0, r1, r2⟩ := z0.cells3
    obtain ⟨s0, s1, s2⟩ := z1.cells3
    exact bodyPost_ret (v := .tuple #[.agg #[.int .u8 0, .int .i64 0, .string ⟨#[]⟩], aggV y, .bool false]) (by simp [results, Tryd.results124, go_sem, r0, r1, r2, s0, s1, s2]) rfl ⟨congrArg Ending.returned EF.out.symm, kf⟩
  | false =>
    have yk : ((y.k : Int) == 4) = false := by rw [beq_eq_false_iff_ne]; intro h; rw [isE_iff.2 (by omega)] at he; cases he
    obtain ⟨out, z, ok, h1, h2⟩ : ∃ out z ok, foldE (aggV y) (aggV (r.getLastD y)) (firstE r) = .tuple #[aggV out, aggV z, .bool ok] ∧ chosenE y (firstE r) = .tuple #[aggV y, aggV z, .bool ok] := by
      unfold chosenE
      rw [he]
      cases firstE r with
      | some e => exact ⟨_, _, _, rfl, rfl⟩
      | none => exact ⟨_, _, _, rfl, rfl⟩
    rw [h1] at FV
    have EF := Lib.hid h2
    clear h1 h2
    clear he
    go_enter Tryd.func124, Tryd.ntmps124
    go_wp2_with fail
    refine (TB.out _ (by repeat (first | with_reducible exact Kept.refl _ | with_reducible apply Kept.drew | with_reducible apply Kept.drewN | with_reducible apply Kept.alloc | (with_reducible refine Kept.setCellX ?_ ?_ _; focus (first | (simp; done) | (simp; omega))) | (with_reducible refine Kept.trans ?_ (by assumption))))).mono ?_
    rintro e w1 ⟨rfl, k1⟩
    have c0 := B0.out.kept k1
    have c1 := B1.out.kept k1
    have kk : Kept w w1 := Kept.trans (by repeat (first | with_reducible exact Kept.refl _ | with_reducible apply Kept.drew | with_reducible apply Kept.drewN | with_reducible apply Kept.alloc | (with_reducible refine Kept.setCellX ?_ ?_ _; focus (first | (simp; done) | (simp; omega))) | (with_reducible refine Kept.trans ?_ (by assumption)))) k1
    obtain ⟨i0, p0, p1, p2, f0, f1, f2⟩ := c0.three
    have KK := Lib.hid kk
    have C0 := Lib.hid c0
    have C1 := Lib.hid c1
    have K1 := Lib.hid k1
    clear c0 c1 kk k1
    go_wp2_with fail
    refine wp_world (fun wf => RowV wf (some ⟨b, off + 3, none⟩) r ∧ Box wf w.heap.size 35 (cellsV y) ∧ Box wf (w.heap.size + 1) 35 (cellsV blankV) ∧ Kept w wf)
      ⟨RT.out.kept (KK.out.set3 (Nat.le_refl _)), Box.set3 C0.out, Box.far3 C1.out (by omega), KK.out.set3 (Nat.le_refl _)⟩ ?_
    rintro w3 ⟨rt, z0, z1, kf⟩
    have RT := Lib.hid rt
    have Z0 := Lib.hid z0
    have Z1 := Lib.hid z1
    have KF := Lib.hid kf
    obtain ⟨_, r0, r1, r2, _⟩ := z0.three
    clear rt z0 z1 kf C0 C1 K1 KK p0 p1 p2 f0 f1 f2 x0 x1 x2
    have A0 := cell_regrown r0; have A1 := cell_regrown r1; have A2 := cell_regrown r2
    have cne : ¬ cap = 1 := by omega
    have HX : Hid (∀ d os, RowV (Go.Sort.grow (redrawn w3 d) os) (some ⟨b, off + 3, none⟩) r) := fun d os => RT.out.kept (below_regrown w3 d os)
    obtain ⟨_, s0, s1, s2, t0, t1, t2⟩ := Z1.out.three
    go_region_with (go_at_call 144; refine (FV.out _ (by first | exact RT.out | exact RT.out.kept ((Kept.refl _).drew))).mono ?_; rintro e w4 ⟨rfl, k4⟩; obtain ⟨_, y0, y1, y2, v0, v1, v2⟩ := ((Z1.out.drew).kept k4).three; obtain ⟨_, y0', y1', y2', v0', v1', v2'⟩ := ((Z0.out.drew).kept k4).three)
    all_goals go_wp2_with fail
    all_goals
      refine wp_world (fun wf => Box wf w.heap.size 35 (cellsV y) ∧ Box wf (w.heap.size + 1) 35 (cellsV z) ∧ Kept w wf)
        ⟨Box.far3 ((Z0.out.drew).kept k4) (by omega), Box.set3 ((Z1.out.drew).kept k4), ((KF.out.drew).trans k4).set3 (by omega)⟩ ?_
      rintro w5 ⟨z0, z1, kf⟩
      obtain ⟨j0, p0, p1, p2, f0, f1, f2⟩ := z0.three
      obtain ⟨j1, q0, q1, q2, g0, g1, g2⟩ := z1.three
      have KF5 := Lib.hid kf
      have Z05 := Lib.hid z0
      have Z15 := Lib.hid z1
      clear z0 z1 kf r0 r1 r2 A0 A1 A2 s0 s1 s2 t0 t1 t2 y0 y1 y2 v0 v1 v2 y0' y1' y2' v0' v1' v2' k4
      go_region
      all_goals go_wp2_with fail
      all_goals
        refine ret_world (fun wf => Box wf w.heap.size 35 (cellsV y) ∧ Box wf (w.heap.size + 1) 35 (cellsV z) ∧ Kept w wf)
          ⟨(Box.far3 (Box.set3 Z05.out) (by omega)).drew, (Box.set3 (Box.far3 Z15.out (by omega))).drew, ((KF5.out.set3 (Nat.le_refl _)).set3 (by omega)).drew⟩ ?_
        rintro wf ⟨z0, z1, kf⟩
        obtain ⟨e0, e1, e2⟩ := z0.cells3
        obtain ⟨d0, d1, d2⟩ := z1.cells3
        exact bodyPost_ret (v := .tuple #[aggV y, aggV z, .bool ok]) (by simp [results, Tryd.results124, go_sem, e0, e1, e2, d0, d1, d2]) rfl ⟨congrArg Ending.returned EF.out.symm, kf⟩

end Go.Proofs.YtipkjpcedfokhaaDoor
