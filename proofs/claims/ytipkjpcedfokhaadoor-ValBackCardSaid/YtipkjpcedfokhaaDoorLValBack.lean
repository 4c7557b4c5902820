/- The law ValBack, walked. -/
import Derived.Test.YtipkjpcedfokhaaDoorBunC
import Derived.Test.YtipkjpcedfokhaaDoorGShow2
import Derived.Test.YtipkjpcedfokhaaDoorGCode
import Derived.Test.YtipkjpcedfokhaaDoorMVal3
namespace Go.Proofs.YtipkjpcedfokhaaDoor
set_option linter.unusedVariables false
set_option linter.unusedSimpArgs false
open Go.RowKit Lv

set_option maxHeartbeats 8000000 in
set_option maxRecDepth 100000 in
theorem back_main (n code : Int) (b : Bool) (w : World) (mx : Int) (hm : Mx w mx) (wd : Wd w) (tx y ny ty : Vl) (zn : Int)
    (nm : (n == -9223372036854775808) = false)
    (MK : Hid (∀ w, Calls Tryd.prog 57 #[.int .i64 n] w fun e w' => e = .returned (.agg #[.int .u8 1, .int .i64 n, .string ⟨#[]⟩]) ∧ Kept w w'))
    (TR : Hid (∀ w, Calls Tryd.prog 59 #[.bool b] w fun e w' => e = .returned (aggV y) ∧ Kept w w'))
    (U1 : Hid (∀ w, Calls Tryd.prog 67 #[.agg #[.int .u8 1, .int .i64 n, .string ⟨#[]⟩]] w fun e w' => e = .returned (aggV tx) ∧ Kept w w'))
    (U2 : Hid (∀ w, Mx w mx → Calls Tryd.prog 65 #[aggV tx] w fun e w' => e = .returned (.agg #[.int .u8 1, .int .i64 n, .string ⟨#[]⟩]) ∧ Kept w w'))
    (U3 : Hid (∀ w, Mx w mx → Calls Tryd.prog 65 #[aggV y] w fun e w' => e = .returned (aggV ny) ∧ Kept w w'))
    (U4 : Hid (∀ w, Calls Tryd.prog 53 #[aggV ny] w fun e w' => e = .returned (aggV y) ∧ Kept w w'))
    (U5 : Hid (∀ w, Calls Tryd.prog 67 #[aggV y] w fun e w' => e = .returned (aggV ty) ∧ Kept w w'))
    (U6 : Hid (∀ w, Calls Tryd.prog 53 #[aggV ty] w fun e w' => e = .returned (aggV y) ∧ Kept w w'))
    (U7 : Hid (∀ w, Wd w → Calls Tryd.prog 63 #[.agg #[.int .u8 1, .int .i64 n, .string ⟨#[]⟩]] w fun e w' => e = .returned (.string ⟨tx.t.toArray⟩) ∧ Kept w w'))
    (FL : Hid (∀ w, Calls Tryd.prog 61 #[.int .i64 code] w fun e w' => e = .returned (.agg #[.int .u8 4, .int .i64 zn, .string ⟨#[]⟩]) ∧ Kept w w'))
    (sz : ByteArray)
    (U8 : Hid (∀ w, Wd w → Calls Tryd.prog 63 #[.agg #[.int .u8 4, .int .i64 zn, .string ⟨#[]⟩]] w fun e w' => e = .returned (.string sz) ∧ Kept w w'))
    (U9 : Hid (∀ w, Wd w → Calls Tryd.prog 54 #[.string sz] w fun e w' => e = .returned (.tuple #[.int .i64 zn, .int .i64 0]) ∧ Kept w w'))
    (fin : zn = code ∨ ((zn == code) = false ∧ zn = 2 ∧ decide (code < 1) = true) ∨ ((zn == code) = false ∧ zn = 2 ∧ decide (code < 1) = false ∧ decide (7 < code) = true)) :
    Calls Tryd.prog 21 #[.int .i64 n, .bool b, .int .i64 code] w fun e w' => e = .returned (.bool true) ∧ Kept w w' := by
  have K := Lib.hid (fun w h h' => known5_any w mx h h')
  have NV := Lib.hid (fun w => number_v n w)
  have HM := Lib.hid hm
  have WD := Lib.hid wd
  have FIN := Lib.hid fin
  have hfd : ∀ w : World, (Instr.field 35 (.agg #[.int .u8 tx.k, .int .i64 tx.n, .string ⟨tx.t.toArray⟩]) 2).run Tryd.prog w = .ok (.string ⟨tx.t.toArray⟩) w := fun _ => by kernel_rfl
  clear hm wd fin
  go_enter Tryd.func21, Tryd.ntmps21
  go_wp2_with fail
  refine (MK.out _).mono ?_
  rintro e w1 ⟨rfl, k1⟩
  go_wp2_with fail
  refine (TR.out _).mono ?_
  rintro e w2 ⟨rfl, k2⟩
  have kk := k1.trans k2
  clear k1 k2
  go_wp2_with fail
  have bx : Box ((w2.alloc (.cells #[.int .u8 1, .int .i64 n, .string ⟨#[]⟩] 35)).alloc (.cells #[.int .u8 y.k, .int .i64 y.n, .string ⟨y.t.toArray⟩] 35)) w2.heap.size 35 #[.int .u8 1, .int .i64 n, .string ⟨#[]⟩] := Box.alloc (Box.new w2 _ _) _
  have by_ : Box ((w2.alloc (.cells #[.int .u8 1, .int .i64 n, .string ⟨#[]⟩] 35)).alloc (.cells #[.int .u8 y.k, .int .i64 y.n, .string ⟨y.t.toArray⟩] 35)) (w2.heap.size + 1) 35 #[.int .u8 y.k, .int .i64 y.n, .string ⟨y.t.toArray⟩] := by
    have := Box.new (w2.alloc (.cells #[.int .u8 1, .int .i64 n, .string ⟨#[]⟩] 35)) 35 #[.int .u8 y.k, .int .i64 y.n, .string ⟨y.t.toArray⟩]
    rwa [World.size_alloc] at this
  have kk := (kk.alloc (.cells #[.int .u8 1, .int .i64 n, .string ⟨#[]⟩] 35)).alloc (.cells #[.int .u8 y.k, .int .i64 y.n, .string ⟨y.t.toArray⟩] 35)
  generalize ((w2.alloc (.cells #[.int .u8 1, .int .i64 n, .string ⟨#[]⟩] 35)).alloc (.cells #[.int .u8 y.k, .int .i64 y.n, .string ⟨y.t.toArray⟩] 35)) = w3 at *
  have s0 := bx.cell 0; have s1 := bx.cell 1; have s2 := bx.cell 2
  have t0 := by_.cell 0; have t1 := by_.cell 1; have t2 := by_.cell 2
  have HX : Hid (∀ d os, Mx (Go.Sort.grow (redrawn w3 d) os) mx) := fun d os => (HM.out.kept kk).kept (below_regrown w3 d os)
  have WX : Hid (∀ d os, Wd (Go.Sort.grow (redrawn w3 d) os)) := fun d os => (WD.out.kept kk).kept (below_regrown w3 d os)
  have A0 := cell_regrown s0; have A1 := cell_regrown s1; have A2 := cell_regrown s2
  have B0 := cell_regrown t0; have B1 := cell_regrown t1; have B2 := cell_regrown t2
  clear s0 s1 s2 t0 t1 t2 bx by_
  refine wp_region_quiet_below (w := w3) (by kernel_rfl) (by kernel_rfl) ?_
  repeat (quiet_step (first | with_reducible exact Calls.regrown_of (NV.out _) | with_reducible exact Calls.regrown_of (U1.out _) | with_reducible exact Calls.regrown_of (U2.out _ (HX.out _ _)) | with_reducible exact Calls.regrown_of (U3.out _ (HX.out _ _)) | with_reducible exact Calls.regrown_of (U4.out _) | with_reducible exact Calls.regrown_of (U5.out _) | with_reducible exact Calls.regrown_of (U6.out _) | with_reducible exact Calls.regrown_of (U7.out _ (WX.out _ _))))
  refine wpQuiet_nil ?_
  intro _ hw'; obtain ⟨⟨dq, osq⟩, hw''⟩ := hw'; subst hw''
  have kq : Kept w3 (Go.Sort.grow (redrawn w3 dq) osq) := below_regrown w3 dq osq
  generalize Go.Sort.grow (redrawn w3 dq) osq = w3q at *
  have kk := kk.trans kq
  clear A0 A1 A2 B0 B1 B2 HX WX kq hfd
  go_wp2_with fail
  refine (FL.out _).mono ?_
  rintro e w4 ⟨rfl, k4⟩
  have kk := (kk.trans k4).alloc (.cells #[.int .u8 4, .int .i64 zn, .string ⟨#[]⟩] 35)
  have W4 := Lib.hid (WD.out.kept kk)
  have bz := Lib.hid (Box.new w4 35 #[.int .u8 4, .int .i64 zn, .string ⟨#[]⟩])
  go_wp2_with fail
  refine (U8.out _ W4.out).mono ?_
  rintro e w5 ⟨rfl, k5⟩
  have W5 := Lib.hid (W4.out.kept k5)
  have bz := Lib.hid (bz.out.kept k5)
  go_wp2_with fail
  refine (U9.out _ W5.out).mono ?_
  rintro e w6 ⟨rfl, k6⟩
  have kf := (kk.trans k5).trans k6
  clear kk
  have bz := bz.out.kept k6
  have z0 := bz.cell 0; have z1 := bz.cell 1; have z2 := bz.cell 2
  clear bz
  have fn := FIN.out
  rcases fn with f | ⟨f, rfl, f2⟩ | ⟨f, rfl, f2, f3⟩
  · subst f
    go_wp2_with fail
    refine (K.out _ (HM.out.kept kf) (WD.out.kept kf)).mono ?_
    rintro e w7 ⟨rfl, k7⟩
    go_wp2_with fail
    go_ret
    exact ⟨rfl, kf.trans k7⟩
  · go_wp2_with fail
    refine (K.out _ (HM.out.kept kf) (WD.out.kept kf)).mono ?_
    rintro e w7 ⟨rfl, k7⟩
    go_wp2_with fail
    go_ret
    exact ⟨rfl, kf.trans k7⟩
  · go_wp2_with fail
    refine (K.out _ (HM.out.kept kf) (WD.out.kept kf)).mono ?_
    rintro e w7 ⟨rfl, k7⟩
    go_wp2_with fail
    go_ret
    exact ⟨rfl, kf.trans k7⟩

theorem min_fail : vMake (-9223372036854775808) = ⟨4, 3, []⟩ := rfl

set_option maxHeartbeats 2000000 in
set_option maxRecDepth 100000 in
theorem back_min (code : Int) (b : Bool) (w : World) (mx : Int) (hm : Mx w mx) (wd : Wd w) :
    Calls Tryd.prog 21 #[.int .i64 (-9223372036854775808), .bool b, .int .i64 code] w fun e w' => e = .returned (.bool true) ∧ Kept w w' := by
  have K := Lib.hid (fun w h h' => known5_any w mx h h')
  have FV := Lib.hid (fun w => fails_v 3 w)
  have MK : Hid (∀ w, Calls Tryd.prog 57 #[.int .i64 (-9223372036854775808)] w fun e w' => e = .returned (.agg #[.int .u8 4, .int .i64 3, .string ⟨#[]⟩]) ∧ Kept w w') := fun w => vmake_any (-9223372036854775808) w (by omega) (by omega)
  have HM := Lib.hid hm
  have WD := Lib.hid wd
  clear hm wd
  go_enter Tryd.func21, Tryd.ntmps21
  go_wp2_with fail
  refine (MK.out _).mono ?_
  rintro e w1 ⟨rfl, k1⟩
  go_wp2_with fail
  refine (FV.out _).mono ?_
  rintro e w2 ⟨rfl, k2⟩
  have kk := k1.trans k2
  go_wp2_with fail
  refine (K.out _ (HM.out.kept kk) (WD.out.kept kk)).mono ?_
  rintro e w3 ⟨rfl, k3⟩
  go_wp2_with fail
  go_ret
  exact ⟨rfl, kk.trans k3⟩

theorem vfail_cases (c : Int) : ∃ z : Int, vFail c = ⟨4, z, []⟩ ∧ 1 ≤ z ∧ z ≤ 7 ∧ (z = c ∨ ((z == c) = false ∧ z = 2 ∧ decide (c < 1) = true) ∨ ((z == c) = false ∧ z = 2 ∧ decide (c < 1) = false ∧ decide (7 < c) = true)) := by
  unfold vFail
  by_cases h : 1 ≤ c ∧ c ≤ 7
  · rw [if_pos h]; exact ⟨c, rfl, h.1, h.2, Or.inl rfl⟩
  · rw [if_neg h]
    refine ⟨2, rfl, by omega, by omega, Or.inr ?_⟩
    have e : ((2 : Int) == c) = false := by rw [beq_eq_false_iff_ne]; omega
    by_cases g : c < 1
    · exact Or.inl ⟨e, rfl, decide_eq_true g⟩
    · exact Or.inr ⟨e, rfl, decide_eq_false g, decide_eq_true (by omega)⟩

theorem i64_of_lit5 {a : Int} (h : (Lit.int .i64 a).wf = true) : i64 a := by
  have := Go.bounds_i64 h
  unfold i64; omega

theorem ValBack_walk (a0 : Int) (a1 : Bool) (a2 : Int) (w0 : (Lit.int .i64 a0).wf = true) (w2 : (Lit.int .i64 a2).wf = true) (w : World) (mx : Int) (hm : Mx w mx) (wd : Wd w) :
    Calls Tryd.prog 21 #[.int .i64 a0, .bool a1, .int .i64 a2] w fun e w' => e = .returned (.bool true) ∧ Below w.heap.size w w' := by
  have hi : i64 a0 := i64_of_lit5 w0
  by_cases c : a0 = -9223372036854775808
  · subst c; exact back_min a2 a1 w mx hm wd
  · obtain ⟨z, ez, z1, z7, fin⟩ := vfail_cases a2
    have mk : vMake a0 = ⟨1, a0, []⟩ := by unfold vMake; rw [if_neg c]
    have s0 : Small ⟨1, a0, []⟩ := ⟨hi, by simp⟩
    have st := small_txt s0
    have sb := small_truth a1
    have sn := small_num sb
    have sy := small_txt sb
    have bb := back_bool a1
    have cs := code_show a2
    rw [ez] at cs
    have zi : i64 z := ⟨by omega, by omega⟩
    refine back_main a0 a2 a1 w mx hm wd (vTxt ⟨1, a0, []⟩) (vTruth a1) (vNum (vTruth a1)) (vTxt (vTruth a1)) z (by simpa using c) ?_ (fun w => vtruth_any a1 w) (fun w => totxt_any _ w s0.1 s0.2) ?_ (fun w h => tonum_any _ w mx h sb.1 sb.2) ?_ (fun w => totxt_any _ w sb.1 sb.2) ?_ ?_ ?_ ⟨(vShow ⟨4, z, []⟩).toArray⟩ (fun w h => vshow_any ⟨4, z, []⟩ w h zi (by simp)) ?_ fin
    · intro w; have := vmake_any a0 w hi.1 hi.2; rwa [mk] at this
    · intro w h; have := tonum_any _ w mx h st.1 st.2; rwa [back_num c hi] at this
    · intro w; have := tobool_any _ w sn.1 sn.2; rwa [bb.1] at this
    · intro w; have := tobool_any _ w sy.1 sy.2; rwa [bb.2] at this
    · intro w h; have := vshow_any ⟨1, a0, []⟩ w h s0.1 s0.2; rwa [show_num c] at this
    · intro w; have := vfail_any a2 w; rwa [ez] at this
    · intro w h
      have l : (vShow ⟨4, z, []⟩).length ≤ 1000000 := by
        have : z = 1 ∨ z = 2 ∨ z = 3 ∨ z = 4 ∨ z = 5 ∨ z = 6 ∨ z = 7 := by omega
        rcases this with rfl | rfl | rfl | rfl | rfl | rfl | rfl <;> decide
      have := vcode_any (vShow ⟨4, z, []⟩) w h l
      rwa [cs] at this
end Go.Proofs.YtipkjpcedfokhaaDoor
