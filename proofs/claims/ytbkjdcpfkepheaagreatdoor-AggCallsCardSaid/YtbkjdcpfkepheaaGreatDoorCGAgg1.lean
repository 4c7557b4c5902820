/- Layer 16: ranges and addresses (printed by wip/mkagg1.py). -/
import Derived.Test.YtbkjdcpfkepheaaGreatDoorCMixAN
import Derived.Test.YtbkjdcpfkepheaaGreatDoorCMixAP
set_option maxHeartbeats 4000000
namespace Go.Proofs.YtbkjdcpfkepheaaGreatDoor
section
set_option linter.unusedVariables false
set_option linter.unusedSimpArgs false
open Go.RowKit Lv
set_option maxRecDepth 100000
abbrev aA (a : Ar) (s : Value) : Value := .agg #[.bool a.w, .int .u8 a.v.k, .int .i64 a.v.n, .string ⟨a.v.t.toArray⟩, .int .i64 a.x.c1, .int .i64 a.x.r1, .int .i64 a.x.c2, .int .i64 a.x.r2, s]
abbrev aR (x : Rc) : Value := .agg #[.int .i64 x.c1, .int .i64 x.r1, .int .i64 x.c2, .int .i64 x.r2]
def iy (x : Rc) : Int := if okR x then 0 else 3
theorem yI {x : Rc} (h : (((¬ (vU x.c1 x.r1 = true)) ∨ (¬ (vU x.c2 x.r2 = true))) ∨ ((x.c2 : Int) < (x.c1 : Int))) ∨ ((x.r2 : Int) < (x.r1 : Int))) : iy x = 3 := by
  unfold iy okR; rw [if_neg]; intro c
  simp only [Bool.and_eq_true, decide_eq_true_eq] at c
  rcases h with ((h | h) | h) | h
  · exact h c.1.1
  · exact h c.1.2
  · omega
  · omega
theorem yJ {x : Rc} (h : ¬ ((((¬ (vU x.c1 x.r1 = true)) ∨ (¬ (vU x.c2 x.r2 = true))) ∨ ((x.c2 : Int) < (x.c1 : Int))) ∨ ((x.r2 : Int) < (x.r1 : Int)))) : iy x = 0 := by
  unfold iy okR; rw [if_pos]
  simp only [Bool.and_eq_true, decide_eq_true_eq]
  simp only [not_or, Classical.not_not] at h
  obtain ⟨⟨⟨a, b⟩, c⟩, d⟩ := h; exact ⟨⟨a, b⟩, by omega⟩
theorem ui {x : Rc} (h : okR x = true) : iy x = 0 := by unfold iy; rw [if_pos h]
theorem DB {x : Rc} (h : okR x = false) : iy x = 3 := by unfold iy; rw [h]; rfl
theorem lA {x : Rc} (h : ¬ ((iy x : Int) ≠ (0 : Int))) : okR x = true := by
  cases e : okR x with
  | true => rfl
  | false => rw [DB e] at h; exact absurd (by decide) h
theorem oK {x : Rc} (h : (iy x : Int) ≠ (0 : Int)) : okR x = false := by
  cases e : okR x with
  | false => rfl
  | true => rw [ui e] at h; exact absurd rfl h
theorem yK {x : Rc} (h : okR x = false) : aJ x = 0 := by unfold aJ; rw [h]; rfl
theorem um {x : Rc} (h : okR x = true) : aJ x = (x.c2 - x.c1 + 1) * (x.r2 - x.r1 + 1) := by unfold aJ; rw [if_pos h]; rfl
theorem iz {a b : Int} (h0 : 0 ≤ a) (h1 : a ≤ 1024) (h2 : 0 ≤ b) (h3 : b ≤ 1024) : 0 ≤ a * b ∧ a * b ≤ 1048576 := by
  have e0 := Int.mul_nonneg h0 h2; have e1 : a * b ≤ 1024 * 1024 := Int.mul_le_mul h1 h3 h2 (by decide); exact ⟨e0, by omega⟩
theorem vZ {a b c d : Int} (h1 : a ≤ b) (h2 : c ≤ d) (h3 : b - a ≤ 1023) (h4 : d - c ≤ 1023) : -9223372036854775808 ≤ (b - a + 1) * (d - c + 1) ∧ (b - a + 1) * (d - c + 1) ≤ 9223372036854775807 := by
  have := iz (a := b - a + 1) (b := d - c + 1) (by omega) (by omega) (by omega) (by omega)
  omega
theorem DC {x : Rc} {c r : Int} (h : jL x c r = true) : (x.c1 ≤ c ∧ c ≤ x.c2) ∧ x.r1 ≤ r ∧ r ≤ x.r2 := by
  unfold jL at h; rw [decide_eq_true_eq] at h
  omega
theorem uo {x : Rc} {i : Int} (h2 : x.c1 ≤ x.c2) (h5 : x.r1 ≤ x.r2) (h0 : 0 ≤ i) (h1 : i < bh x * cd x) : (0 ≤ i % bh x ∧ i % bh x < bh x) ∧ bh x = x.c2 - x.c1 + 1 ∧ (0 ≤ i / bh x ∧ i / bh x < cd x) ∧ cd x = x.r2 - x.r1 + 1 := by
  have hw : bh x = x.c2 - x.c1 + 1 := rfl; have hh : cd x = x.r2 - x.r1 + 1 := rfl; have p : 0 < bh x := by omega
  refine ⟨⟨Int.emod_nonneg _ (by omega), Int.emod_lt_of_pos _ p⟩, hw, ⟨Int.ediv_nonneg h0 (by omega), ?_⟩, hh⟩; exact Int.ediv_lt_of_lt_mul p (by rw [Int.mul_comm]; exact h1)
theorem yL {x : Rc} {i : Int} (h0 : 0 ≤ i) : Ending.returned (.agg #[.int .i64 (x.c1 + Int.tmod i (x.c2 - x.c1 + 1)), .int .i64 (x.r1 + Int.tdiv i (x.c2 - x.c1 + 1))]) = .returned (.agg #[.int .i64 (x.c1 + i % bh x), .int .i64 (x.r1 + i / bh x)]) := by
  rw [Int.tmod_eq_emod_of_nonneg h0, Int.tdiv_eq_ediv_of_nonneg h0]
  rfl
theorem nL (c r : Int) (w : World) :
    Calls Tryz.prog 83 #[.agg #[.int .i64 c, .int .i64 r]] w fun e w' => e = .returned (.bool (vU c r)) ∧ Kept w w' := by
  go_enter Tryz.func83, Tryz.ntmps83; refine z00 21 [(0, .agg #[.int .i64 c, .int .i64 r])] ?_; intro _ s; refine zr s 2 (zP (zB Z0 (.cells #[.int .i64 c, .int .i64 r] 44 (0, 0)))) ?_; intro gb1 _ fw s; refine zr s 19 (zP (zO (zPi (zLi (zFi (zP (zO (zPi (zLi (zFi (zP (zO (zPi (zLi (zFi (zP (zP (zL (zF Z0 0) 0))) 0) 0)) fun cc => gm rfl cc.e (fun hb => cc.f hb) rfl)) 1) 0)) fun cc => gm rfl cc.e (fun hb => cc.f hb) rfl)) 1) 0)) fun cc => gm rfl cc.e (fun hb => cc.f hb) rfl)) ?_; intro _ fw s; refine wp_ret ?_; refine z1 s ?_; exact ⟨(congrArg (fun b => Ending.returned (.bool b)) (show _ = vU c r by unfold vU; rw [Bool.eq_iff_iff]; simp only [Bool.or_eq_true, Bool.and_eq_true, decide_eq_true_eq]; omega)), s.o.kept⟩
theorem mh (c r : Int) (w : World) :
    Calls Tryz.prog 78 #[.agg #[.int .i64 c, .int .i64 r]] w fun e w' => e = .returned (.bool (vU c r)) ∧ Kept w w' := by
  go_enter Tryz.func78, Tryz.ntmps78; refine z00 21 [(0, .agg #[.int .i64 c, .int .i64 r])] ?_; intro _ s; refine zr s 2 (zP (zB Z0 (.cells #[.int .i64 c, .int .i64 r] 44 (0, 0)))) ?_; intro gb1 _ fw s; refine zr s 19 (zP (zO (zPi (zLi (zFi (zP (zO (zPi (zLi (zFi (zP (zO (zPi (zLi (zFi (zP (zP (zL (zF Z0 0) 0))) 0) 0)) fun cc => gm rfl cc.e (fun hb => cc.f hb) rfl)) 1) 0)) fun cc => gm rfl cc.e (fun hb => cc.f hb) rfl)) 1) 0)) fun cc => gm rfl cc.e (fun hb => cc.f hb) rfl)) ?_; intro _ fw s; refine wp_ret ?_; refine z1 s ?_; exact ⟨(congrArg (fun b => Ending.returned (.bool b)) (show _ = vU c r by unfold vU; rw [Bool.eq_iff_iff]; simp only [Bool.or_eq_true, Bool.and_eq_true, decide_eq_true_eq]; omega)), s.o.kept⟩
theorem sH (x : Rc) (w : World) :
    Calls Tryz.prog 82 #[aR x] w fun e w' => e = .returned (.tuple #[.agg #[.int .i64 x.c1, .int .i64 x.r1], .agg #[.int .i64 x.c2, .int .i64 x.r2]]) ∧ Kept w w' := by
  go_enter Tryz.func82, Tryz.ntmps82; refine z00 14 [(0, aR x)] ?_; intro _ s; refine zr s 3 (zV (zV (zB Z0 (.cells #[.int .i64 x.c1, .int .i64 x.r1, .int .i64 x.c2, .int .i64 x.r2] 34 (0, 0))) (.cells #[.int .i64 0, .int .i64 0] 44 (0, 0))) (.cells #[.int .i64 0, .int .i64 0] 44 (0, 0))) ?_; intro gb1 gb2 gb3 _ fw s; refine sq fun hK1 => ?_; refine gE [10, 11] [fun v => v = .pointer (some ⟨gb1, 0, none⟩), fun v => v = .int .i64 x.c1, fun v => v = .pointer (some ⟨gb1, 1, none⟩), fun v => v = .int .i64 x.r1, fun v => v = .agg #[.int .i64 x.c1, .int .i64 x.r1], fun v => v = .pointer (some ⟨gb1, 2, none⟩), fun v => v = .int .i64 x.c2, fun v => v = .pointer (some ⟨gb1, 3, none⟩), fun v => v = .int .i64 x.r2, fun v => v = .agg #[.int .i64 x.c2, .int .i64 x.r2], fun _ => True, fun _ => True] (Stages w [⟨fun gs ys => True, fun gs ys => [Th.obj gb3 (.cells #[.int .i64 0, .int .i64 0] 44 (0, 0)), Th.obj gb2 (.cells #[.int .i64 0, .int .i64 0] 44 (0, 0)), Th.obj gb1 (.cells #[.int .i64 x.c1, .int .i64 x.r1, .int .i64 x.c2, .int .i64 x.r2] 34 (0, 0))]⟩, ⟨fun gs ys => True, fun gs ys => [Th.obj gb3 (.cells #[.int .i64 0, .int .i64 0] 44 (0, 0)), Th.obj gb2 (.cells #[.int .i64 x.c1, .int .i64 x.r1] 44 (0, 0)), Th.obj gb1 (.cells #[.int .i64 x.c1, .int .i64 x.r1, .int .i64 x.c2, .int .i64 x.r2] 34 (0, 0))]⟩, ⟨fun gs ys => True, fun gs ys => [Th.obj gb3 (.cells #[.int .i64 x.c2, .int .i64 x.r2] 44 (0, 0)), Th.obj gb2 (.cells #[.int .i64 x.c1, .int .i64 x.r1] 44 (0, 0)), Th.obj gb1 (.cells #[.int .i64 x.c1, .int .i64 x.r1, .int .i64 x.c2, .int .i64 x.r2] 34 (0, 0))]⟩]) (fun u => Own w [Th.obj gb1 (.cells #[.int .i64 x.c1, .int .i64 x.r1, .int .i64 x.c2, .int .i64 x.r2] 34 (0, 0))] u) 14 (by kernel_rfl) s.z (by kernel_rfl) (by kernel_rfl) (Stages.of (eQ (fun gs ys w o => ((o.less 1).less 0)) (eQ (fun gs ys w o => ((o.less 1).less 0)) (eQ (fun gs ys w o => ((o.less 1).less 0)) jU)))) (Stages.drew _ _) ⟨[], trivial, s.o⟩ (fun i o ho hn aa ww hk bs hd => ?_) (fun t i o ht ho aa ww bs hS hd => ?_) (fun fa1 fw1 bs hv hS => ?_)
  ·match i, ho, hn with
    | 0, ho, hn =>
      cases ho
      exact ⟨.pointer (some ⟨gb1, 0, none⟩), aE rfl ((bs 1 rfl).trans (s.g 1)) (by kernel_rfl), rfl, fun h => by cases h⟩
    | 1, ho, hn =>
      cases ho
      have d0 : aa.eval (.tmp 4) = .pointer (some ⟨gb1, 0, none⟩) := fC hd 0 rfl; exact ⟨.int .i64 x.c1, dY rfl (by kernel_rfl) d0 (hk.box 0 rfl) rfl, rfl, fun h => by cases h⟩
    | 2, ho, hn =>
      cases ho
      exact ⟨.pointer (some ⟨gb1, 1, none⟩), aE rfl ((bs 1 rfl).trans (s.g 1)) (by kernel_rfl), rfl, fun h => by cases h⟩
    | 3, ho, hn =>
      cases ho
      have d2 : aa.eval (.tmp 6) = .pointer (some ⟨gb1, 1, none⟩) := fC hd 2 rfl; exact ⟨.int .i64 x.r1, dY rfl (by kernel_rfl) d2 (hk.box 0 rfl) rfl, rfl, fun h => by cases h⟩
    | 4, ho, hn =>
      cases ho
      have d1 : aa.eval (.tmp 5) = .int .i64 x.c1 := fC hd 1 rfl; have d3 : aa.eval (.tmp 7) = .int .i64 x.r1 := fC hd 3 rfl; exact ⟨.agg #[.int .i64 x.c1, .int .i64 x.r1], xb2 rfl d1 d3 (by kernel_rfl), rfl, fun h => by cases h⟩
    | 5, ho, hn =>
      cases ho
      exact ⟨.pointer (some ⟨gb1, 2, none⟩), aE rfl ((bs 1 rfl).trans (s.g 1)) (by kernel_rfl), rfl, fun h => by cases h⟩
    | 6, ho, hn =>
      cases ho
      have d5 : aa.eval (.tmp 9) = .pointer (some ⟨gb1, 2, none⟩) := fC hd 5 rfl; exact ⟨.int .i64 x.c2, dY rfl (by kernel_rfl) d5 (hk.box 0 rfl) rfl, rfl, fun h => by cases h⟩
    | 7, ho, hn =>
      cases ho
      exact ⟨.pointer (some ⟨gb1, 3, none⟩), aE rfl ((bs 1 rfl).trans (s.g 1)) (by kernel_rfl), rfl, fun h => by cases h⟩
    | 8, ho, hn =>
      cases ho
      have d7 : aa.eval (.tmp 11) = .pointer (some ⟨gb1, 3, none⟩) := fC hd 7 rfl; exact ⟨.int .i64 x.r2, dY rfl (by kernel_rfl) d7 (hk.box 0 rfl) rfl, rfl, fun h => by cases h⟩
    | 9, ho, hn =>
      cases ho
      have d6 : aa.eval (.tmp 10) = .int .i64 x.c2 := fC hd 6 rfl; have d8 : aa.eval (.tmp 12) = .int .i64 x.r2 := fC hd 8 rfl; exact ⟨.agg #[.int .i64 x.c2, .int .i64 x.r2], xb2 rfl d6 d8 (by kernel_rfl), rfl, fun h => by cases h⟩
    | 10, ho, hn => exact absurd (by decide) hn
    | 11, ho, hn => exact absurd (by decide) hn
    | i + 12, ho, hn => exact absurd ho (by simp)
  ·match t, ht with
    | 0, ht =>
      cases ht; cases ho
      have d4 : aa.eval (.tmp 8) = .agg #[.int .i64 x.c1, .int .i64 x.r1] := fC hd 4 rfl; obtain ⟨gs, hc, ow⟩ := (show ∃ gs : List Nat, (True) ∧ Own w [Th.obj gb3 (.cells #[.int .i64 0, .int .i64 0] 44 (0, 0)), Th.obj gb2 (.cells #[.int .i64 0, .int .i64 0] 44 (0, 0)), Th.obj gb1 (.cells #[.int .i64 x.c1, .int .i64 x.r1, .int .i64 x.c2, .int .i64 x.r2] 34 (0, 0))] ww from hS); obtain ⟨_⟩ := hc; exact nE (fT (off := 0) rfl ((bs 2 rfl).trans (s.g 2)) d4 (by kernel_rfl) (ow.box 1 rfl) rfl (Nat.le_of_ble_eq_true rfl)) trivial ⟨[], trivial, ow.put 1 rfl 0 [.int .i64 x.c1, .int .i64 x.r1]⟩
    | 1, ht =>
      cases ht; cases ho
      have d9 : aa.eval (.tmp 13) = .agg #[.int .i64 x.c2, .int .i64 x.r2] := fC hd 9 rfl; obtain ⟨gs, hc, ow⟩ := (show ∃ gs : List Nat, (True) ∧ Own w [Th.obj gb3 (.cells #[.int .i64 0, .int .i64 0] 44 (0, 0)), Th.obj gb2 (.cells #[.int .i64 x.c1, .int .i64 x.r1] 44 (0, 0)), Th.obj gb1 (.cells #[.int .i64 x.c1, .int .i64 x.r1, .int .i64 x.c2, .int .i64 x.r2] 34 (0, 0))] ww from hS); obtain ⟨_⟩ := hc; exact nE (fT (off := 0) rfl ((bs 3 rfl).trans (s.g 3)) d9 (by kernel_rfl) (ow.box 0 rfl) rfl (Nat.le_of_ble_eq_true rfl)) trivial ⟨[], trivial, ow.put 0 rfl 0 [.int .i64 x.c2, .int .i64 x.r2]⟩
    | t + 2, ht => exact absurd ht (by simp)
  obtain ⟨gs, hc, ow⟩ := (show ∃ gs : List Nat, (True) ∧ Own w [Th.obj gb3 (.cells #[.int .i64 x.c2, .int .i64 x.r2] 44 (0, 0)), Th.obj gb2 (.cells #[.int .i64 x.c1, .int .i64 x.r1] 44 (0, 0)), Th.obj gb1 (.cells #[.int .i64 x.c1, .int .i64 x.r1, .int .i64 x.c2, .int .i64 x.r2] 34 (0, 0))] fw1 from hS); obtain ⟨_⟩ := hc; have zfa1 : fa1.tmps.size = 14 := bs.size.trans s.z; have dffa1 : fa1.defers = [] := bs.defers.trans s.q; have s2_fa1 : fa1.eval (.tmp 2) = .pointer (some ⟨gb2, 0, none⟩) := (bs.same 2 (by kernel_rfl)).trans (s.g 2); have s3_fa1 : fa1.eval (.tmp 3) = .pointer (some ⟨gb3, 0, none⟩) := (bs.same 3 (by kernel_rfl)).trans (s.g 3); refine oy (fun fr u => Sg 14 w [Th.obj gb3 (.cells #[.int .i64 x.c2, .int .i64 x.r2] 44 (0, 0)), Th.obj gb2 (.cells #[.int .i64 x.c1, .int .i64 x.r1] 44 (0, 0)), Th.obj gb1 (.cells #[.int .i64 x.c1, .int .i64 x.r1, .int .i64 x.c2, .int .i64 x.r2] 34 (0, 0))] [(2, .pointer (some ⟨gb2, 0, none⟩)), (3, .pointer (some ⟨gb3, 0, none⟩))] fr u) (((ix zfa1 dffa1 ow).i (t := 2) (v := .pointer (some ⟨gb2, 0, none⟩)) s2_fa1).i (t := 3) (v := .pointer (some ⟨gb3, 0, none⟩)) s3_fa1).c ?_; rintro fa fw s; refine tn hK1 ?_; refine wp_ret ?_; refine ac (v := .tuple #[.agg #[.int .i64 x.c1, .int .i64 x.r1], .agg #[.int .i64 x.c2, .int .i64 x.r2]]) rfl (.cons (rC s 2 1) (.cons (rC s 2 0) .nil)) rfl s.q ?_; exact ⟨rfl, s.o.kept⟩
theorem yM (x : Rc) (w : World) :
    Calls Tryz.prog 79 #[aR x] w fun e w' => e = .returned (.agg #[.int .i64 x.c1, .int .i64 x.r1]) ∧ Kept w w' := by
  go_enter Tryz.func79, Tryz.ntmps79; refine z00 8 [(0, aR x)] ?_; intro _ s; refine zr s 2 (zV (zB Z0 (.cells #[.int .i64 x.c1, .int .i64 x.r1, .int .i64 x.c2, .int .i64 x.r2] 34 (0, 0))) (.cells #[.int .i64 0, .int .i64 0] 44 (0, 0))) ?_; intro gb1 gb2 _ fw s; refine zt_ s 5 (zO (zL (zF (zL (zF Z0 0) 1) 1) 1) (v := .agg #[.int .i64 x.c1, .int .i64 x.r1]) fun cc => xb2 rfl cc.e cc.e (by kernel_rfl)) ?_; intro _ fw s K1 hK1; refine zS s 0 ?_; intro fw s; refine wt hK1 ?_; refine wp_ret ?_; refine ac (v := .agg #[.int .i64 x.c1, .int .i64 x.r1]) rfl (.cons (rC s 2 0) .nil) rfl s.q ?_; exact ⟨rfl, s.o.kept⟩
theorem Ew (x : Rc) (w : World) :
    Calls Tryz.prog 80 #[aR x] w fun e w' => e = .returned (.agg #[.int .i64 x.c2, .int .i64 x.r2]) ∧ Kept w w' := by
  go_enter Tryz.func80, Tryz.ntmps80; refine z00 8 [(0, aR x)] ?_; intro _ s; refine zr s 2 (zV (zB Z0 (.cells #[.int .i64 x.c1, .int .i64 x.r1, .int .i64 x.c2, .int .i64 x.r2] 34 (0, 0))) (.cells #[.int .i64 0, .int .i64 0] 44 (0, 0))) ?_; intro gb1 gb2 _ fw s; refine zt_ s 5 (zO (zL (zF (zL (zF Z0 2) 1) 3) 1) (v := .agg #[.int .i64 x.c2, .int .i64 x.r2]) fun cc => xb2 rfl cc.e cc.e (by kernel_rfl)) ?_; intro _ fw s K1 hK1; refine zS s 0 ?_; intro fw s; refine wt hK1 ?_; refine wp_ret ?_; refine ac (v := .agg #[.int .i64 x.c2, .int .i64 x.r2]) rfl (.cons (rC s 2 0) .nil) rfl s.q ?_; exact ⟨rfl, s.o.kept⟩
theorem nM (x : Rc) (w : World) :
    Calls Tryz.prog 46 #[aR x] w fun e w' => e = .returned (.int .i64 (iy x)) ∧ Kept w w' := by
  go_enter Tryz.func46, Tryz.ntmps46; refine z00 32 [(0, aR x)] ?_; intro _ s; refine zr s 2 (zP (zB Z0 (.cells #[.int .i64 x.c1, .int .i64 x.r1, .int .i64 x.c2, .int .i64 x.r2] 34 (0, 0)))) ?_; intro gb1 _ fw s; refine zt_ s 7 (zV (zV (zP (zP (zP (zC (zA Z0 (aR x) 4 0) fun cc => sH x _)))) (.cells #[.int .i64 0, .int .i64 0] 44 (0, 0))) (.cells #[.int .i64 0, .int .i64 0] 44 (0, 0))) ?_; intro gb2 gb3 _ fw s K1 hK1; refine zS s 1 ?_; intro fw s; refine zS s 0 ?_; intro fw s; refine wt hK1 ?_; refine sq fun hK2 => ?_; refine zr s 22 (zO (zPi (zLi (zFi (zLi (zFi (zP (zO (zPi (zLi (zFi (zLi (zFi (zP (zO (zPi (zCI (zAi (zP (zP (zC (zA Z0 (.agg #[.int .i64 x.c1, .int .i64 x.r1]) 2 1) fun cc => nL x.c1 x.r1 _))) (.agg #[.int .i64 x.c2, .int .i64 x.r2]) 2 0) fun cc => nL x.c2 x.r2 _)) fun cc => gA rfl cc.e rfl (fun hb => cc.f hb))) 0) 2) 2) 2)) fun cc => gA rfl cc.e rfl (fun hb => cc.f hb))) 1) 2) 3) 2)) fun cc => gA rfl cc.e rfl (fun hb => cc.f hb)) ?_; intro _ fw s; refine zb s (bor (bor (bor (jc (Iff.rfl)) (jc (Iff.rfl))) (decide_eq_true_iff)) (decide_eq_true_iff)) ?_ ?_
  ·intro hc1
   refine zr s 1 (zP Z0) ?_; intro _ fw s; refine wp_ret ?_; refine ag ?_; refine z1 s ?_; exact ⟨(congrArg (fun n => Ending.returned (.int .i64 n)) (show _ = iy x by exact (yI hc1).symm)), s.o.kept⟩
  intro hc1; refine wp_skip ?_; refine tn hK2 ?_; refine zr s 1 (zP Z0) ?_; intro _ fw s; refine wp_ret ?_; refine z1 s ?_; exact ⟨(congrArg (fun n => Ending.returned (.int .i64 n)) (show _ = iy x by exact (yJ hc1).symm)), s.o.kept⟩
theorem mi (x : Rc) (w : World) :
    Calls Tryz.prog 40 #[aR x] w fun e w' => e = .returned (.int .i64 (iy x)) ∧ Kept w w' := by
  go_enter Tryz.func40, Tryz.ntmps40; refine z00 27 [(0, aR x)] ?_; intro _ s; refine zr s 2 (zP (zB Z0 (.cells #[.int .i64 x.c1, .int .i64 x.r1, .int .i64 x.c2, .int .i64 x.r2] 34 (0, 0)))) ?_; intro gb1 _ fw s; refine sq fun hK1 => ?_; refine zr s 24 (zO (zPi (zLi (zFi (zLi (zFi (zP (zO (zPi (zLi (zFi (zLi (zFi (zP (zO (zPi (zCI (zCI (zAi (zP (zP (zC (zC (zA Z0 (aR x) 4 0) fun cc => yM x _) fun cc => mh x.c1 x.r1 _))) (aR x) 4 0) fun cc => Ew x _) fun cc => mh x.c2 x.r2 _)) fun cc => gA rfl cc.e rfl (fun hb => cc.f hb))) 0) 0) 2) 0)) fun cc => gA rfl cc.e rfl (fun hb => cc.f hb))) 1) 0) 3) 0)) fun cc => gA rfl cc.e rfl (fun hb => cc.f hb)) ?_; intro _ fw s; refine zb s (bor (bor (bor (jc (Iff.rfl)) (jc (Iff.rfl))) (decide_eq_true_iff)) (decide_eq_true_iff)) ?_ ?_
  ·intro hc1
   refine zr s 1 (zP Z0) ?_; intro _ fw s; refine wp_ret ?_; refine ag ?_; refine z1 s ?_; exact ⟨(congrArg (fun n => Ending.returned (.int .i64 n)) (show _ = iy x by exact (yI hc1).symm)), s.o.kept⟩
  intro hc1; refine wp_skip ?_; refine tn hK1 ?_; refine zr s 1 (zP Z0) ?_; intro _ fw s; refine wp_ret ?_; refine z1 s ?_; exact ⟨(congrArg (fun n => Ending.returned (.int .i64 n)) (show _ = iy x by exact (yJ hc1).symm)), s.o.kept⟩
theorem BP (x : Rc) (c r : Int) (w : World) :
    Calls Tryz.prog 61 #[aR x, .agg #[.int .i64 c, .int .i64 r]] w fun e w' => e = .returned (.bool (jL x c r)) ∧ Kept w w' := by
  go_enter Tryz.func61, Tryz.ntmps61; refine z00 31 [(0, aR x), (1, .agg #[.int .i64 c, .int .i64 r])] ?_; intro _ s; refine zr s 3 (zP (zB (zB Z0 (.cells #[.int .i64 x.c1, .int .i64 x.r1, .int .i64 x.c2, .int .i64 x.r2] 34 (0, 0))) (.cells #[.int .i64 c, .int .i64 r] 44 (0, 0)))) ?_; intro gb1 gb2 _ fw s; refine zr s 27 (zP (zO (zPi (zLi (zFi (zLi (zFi (zP (zO (zPi (zLi (zFi (zLi (zFi (zP (zO (zPi (zLi (zFi (zLi (zFi (zP (zP (zL (zF (zL (zF Z0 0) 0) 0) 1))) 0) 0) 2) 1)) fun cc => gm rfl cc.e (fun hb => cc.f hb) rfl)) 1) 0) 1) 1)) fun cc => gm rfl cc.e (fun hb => cc.f hb) rfl)) 1) 0) 3) 1)) fun cc => gm rfl cc.e (fun hb => cc.f hb) rfl)) ?_; intro _ fw s; refine wp_ret ?_; refine z1 s ?_; exact ⟨(congrArg (fun b => Ending.returned (.bool b)) (show _ = jL x c r by unfold jL; rw [Bool.eq_iff_iff]; simp only [Bool.or_eq_true, Bool.and_eq_true, decide_eq_true_eq]; omega)), s.o.kept⟩
theorem qv (x : Rc) (c r : Int) (w : World) :
    Calls Tryz.prog 41 #[aR x, .agg #[.int .i64 c, .int .i64 r]] w fun e w' => e = .returned (.bool (jL x c r)) ∧ Kept w w' := by
  go_enter Tryz.func41, Tryz.ntmps41; refine z00 31 [(0, aR x), (1, .agg #[.int .i64 c, .int .i64 r])] ?_; intro _ s; refine zr s 3 (zP (zB (zB Z0 (.cells #[.int .i64 x.c1, .int .i64 x.r1, .int .i64 x.c2, .int .i64 x.r2] 34 (0, 0))) (.cells #[.int .i64 c, .int .i64 r] 44 (0, 0)))) ?_; intro gb1 gb2 _ fw s; refine zr s 27 (zP (zO (zPi (zLi (zFi (zLi (zFi (zP (zO (zPi (zLi (zFi (zLi (zFi (zP (zO (zPi (zLi (zFi (zLi (zFi (zP (zP (zL (zF (zL (zF Z0 0) 1) 0) 0))) 0) 0) 2) 1)) fun cc => gm rfl cc.e (fun hb => cc.f hb) rfl)) 1) 1) 1) 0)) fun cc => gm rfl cc.e (fun hb => cc.f hb) rfl)) 1) 0) 3) 1)) fun cc => gm rfl cc.e (fun hb => cc.f hb) rfl)) ?_; intro _ fw s; refine wp_ret ?_; refine z1 s ?_; exact ⟨(congrArg (fun b => Ending.returned (.bool b)) (show _ = jL x c r by unfold jL; rw [Bool.eq_iff_iff]; simp only [Bool.or_eq_true, Bool.and_eq_true, decide_eq_true_eq]; omega)), s.o.kept⟩
theorem yN (x : Rc) (w : World) :
    Calls Tryz.prog 16 #[aR x] w fun e w' => e = .returned (.tuple #[.int .i64 (aJ x), .int .i64 (iy x)]) ∧ Kept w w' := by
  go_enter Tryz.func16, Tryz.ntmps16; refine z00 23 [(0, aR x)] ?_; intro _ s; refine zr s 3 (zP (zP (zB Z0 (.cells #[.int .i64 x.c1, .int .i64 x.r1, .int .i64 x.c2, .int .i64 x.r2] 34 (0, 0))))) ?_; intro gb1 _ fw s; refine sq fun hK1 => ?_; refine zr s 3 (zP (zC (zA Z0 (aR x) 4 0) fun cc => nM x _)) ?_; intro _ fw s; refine zr s 2 (zP (zP Z0)) ?_; intro _ fw s; refine zi_ s ?_ ?_
  ·intro hc1
   have hno : okR x = false := oK hc1; refine zr s 3 (zP (zP (zP Z0))) ?_; intro _ fw s; refine wp_ret ?_; refine ag ?_; refine ac (v := .tuple #[.int .i64 0, .int .i64 (iy x)]) rfl (.cons (rT s) (.cons (rT s) .nil)) rfl s.q ?_; exact ⟨(by show Ending.returned (.tuple #[.int .i64 _, .int .i64 _]) = .returned (.tuple #[.int .i64 (aJ x), .int .i64 (iy x)]); rw [show aJ x = _ from yK hno, show iy x = _ from rfl]), s.o.kept⟩
  intro hc1; have hok : okR x = true := lA hc1; obtain ⟨⟨o1, o2, o3⟩, o4, o5, o6⟩ := eD.1 hok; have hp := vZ o2 o5 (Int.le_trans (Int.sub_le_sub o3 o1) (by decide)) (Int.le_trans (Int.sub_le_sub o6 o4) (by decide)); refine wp_skip ?_; refine tn hK1 ?_; refine zr s 15 (zP (zP (zO (zAd (zSb (zL (zF (zL (zF (zAd (zSb (zL (zF (zL (zF Z0 2) 0) 0) 0))) 3) 0) 1) 0))) fun cc => vR (Or.inl rfl) rfl cc.e cc.e hp.1 hp.2))) ?_; intro _ fw s; refine wp_ret ?_; refine ac (v := .tuple #[.int .i64 (((x.c2 - x.c1) + 1) * ((x.r2 - x.r1) + 1)), .int .i64 0]) rfl (.cons (rT s) (.cons (rT s) .nil)) rfl s.q ?_; exact ⟨(by show Ending.returned (.tuple #[.int .i64 _, .int .i64 _]) = .returned (.tuple #[.int .i64 (aJ x), .int .i64 (iy x)]); rw [show aJ x = _ from um hok, show iy x = _ from ui hok]), s.o.kept⟩
theorem kr (x : Rc) (w : World) :
    Calls Tryz.prog 72 #[aR x] w fun e w' => e = .returned (.tuple #[.int .i64 (aJ x), .int .i64 (iy x)]) ∧ Kept w w' := by
  go_enter Tryz.func72, Tryz.ntmps72; refine z00 20 [(0, aR x)] ?_; intro _ s; refine zr s 3 (zP (zP (zB Z0 (.cells #[.int .i64 x.c1, .int .i64 x.r1, .int .i64 x.c2, .int .i64 x.r2] 34 (0, 0))))) ?_; intro gb1 _ fw s; refine sq fun hK1 => ?_; refine zr s 3 (zP (zC (zA Z0 (aR x) 4 0) fun cc => mi x _)) ?_; intro _ fw s; refine zi_ s ?_ ?_
  ·intro hc1
   have hno : okR x = false := oK hc1; refine zr s 2 (zP (zP Z0)) ?_; intro _ fw s; refine wp_ret ?_; refine ag ?_; refine ac (v := .tuple #[.int .i64 0, .int .i64 3]) rfl (.cons (rT s) (.cons (rT s) .nil)) rfl s.q ?_; exact ⟨(by show Ending.returned (.tuple #[.int .i64 _, .int .i64 _]) = .returned (.tuple #[.int .i64 (aJ x), .int .i64 (iy x)]); rw [show aJ x = _ from yK hno, show iy x = _ from DB hno]), s.o.kept⟩
  intro hc1; have hok : okR x = true := lA hc1; obtain ⟨⟨o1, o2, o3⟩, o4, o5, o6⟩ := eD.1 hok; have hp := vZ o2 o5 (Int.le_trans (Int.sub_le_sub o3 o1) (by decide)) (Int.le_trans (Int.sub_le_sub o6 o4) (by decide)); refine wp_skip ?_; refine tn hK1 ?_; refine zr s 15 (zP (zP (zO (zAd (zSb (zL (zF (zL (zF (zAd (zSb (zL (zF (zL (zF Z0 2) 0) 0) 0))) 3) 0) 1) 0))) fun cc => vR (Or.inl rfl) rfl cc.e cc.e hp.1 hp.2))) ?_; intro _ fw s; refine wp_ret ?_; refine ac (v := .tuple #[.int .i64 (((x.c2 - x.c1) + 1) * ((x.r2 - x.r1) + 1)), .int .i64 0]) rfl (.cons (rT s) (.cons (rT s) .nil)) rfl s.q ?_; exact ⟨(by show Ending.returned (.tuple #[.int .i64 _, .int .i64 _]) = .returned (.tuple #[.int .i64 (aJ x), .int .i64 (iy x)]); rw [show aJ x = _ from um hok, show iy x = _ from ui hok]), s.o.kept⟩
theorem mj (x : Rc) (A : Option Addr) (n cap : Nat) (w : World) :
    Calls Tryz.prog 105 #[.agg #[.int .i64 x.c1, .int .i64 x.r1, .int .i64 x.c2, .int .i64 x.r2, .slice A n cap]] w fun e w' => e = .returned (.int .i64 (aJ x)) ∧ Kept w w' := by
  go_enter Tryz.func105, Tryz.ntmps105; refine z00 12 [(0, .agg #[.int .i64 x.c1, .int .i64 x.r1, .int .i64 x.c2, .int .i64 x.r2, .slice A n cap])] ?_; intro _ s; refine zr s 2 (zP (zB Z0 (.cells #[.int .i64 x.c1, .int .i64 x.r1, .int .i64 x.c2, .int .i64 x.r2, .slice A n cap] 37 (0, 0)))) ?_; intro gb1 _ fw s; refine zr s 8 (zP (zP (zP (zP (zP (zC (zA (zF Z0 0) (aR x) 4 0) fun cc => yN x _)))))) ?_; intro _ fw s; refine zr s 2 (zP (zP Z0)) ?_; intro _ fw s; refine wp_ret ?_; refine z1 s ?_; exact ⟨rfl, s.o.kept⟩
theorem ks (x : Rc) (A : Option Addr) (n cap : Nat) (c r : Int) (w : World) (ho : okR x = true) (hh : jL x c r = true) :
    Calls Tryz.prog 62 #[.agg #[.int .i64 x.c1, .int .i64 x.r1, .int .i64 x.c2, .int .i64 x.r2, .slice A n cap], .agg #[.int .i64 c, .int .i64 r]] w fun e w' => e = .returned (.int .i64 (bN x c r)) ∧ Kept w w' := by
  obtain ⟨⟨o1, o2, o3⟩, o4, o5, o6⟩ := eD.1 ho; have i1 := me hh; have i2 := DC hh; have i3 := iz (a := r - x.r1) (b := x.c2 - x.c1 + 1) (by omega) (by omega) (by omega) (by omega); go_enter Tryz.func62, Tryz.ntmps62; refine z00 27 [(0, .agg #[.int .i64 x.c1, .int .i64 x.r1, .int .i64 x.c2, .int .i64 x.r2, .slice A n cap]), (1, .agg #[.int .i64 c, .int .i64 r])] ?_; intro _ s; refine zr s 3 (zP (zB (zB Z0 (.cells #[.int .i64 x.c1, .int .i64 x.r1, .int .i64 x.c2, .int .i64 x.r2, .slice A n cap] 37 (0, 0))) (.cells #[.int .i64 c, .int .i64 r] 44 (0, 0)))) ?_; intro gb1 gb2 _ fw s; refine zr s 23 (zP (zSb (zL (zF (zF (zAd (zL (zF (zO (zAd (zSb (zL (zF (zF (zL (zF (zF (zSb (zL (zF (zF (zL (zF Z0 1) 0) 0) 1) 1)) 0) 2) 1) 0) 0) 1))) fun cc => vR (Or.inl rfl) rfl cc.e cc.e (by omega) (by omega)) 0) 0)) 0) 0) 1))) ?_; intro _ fw s; refine wp_ret ?_; refine z1 s ?_; exact ⟨(congrArg (fun n => Ending.returned (.int .i64 n)) (show _ = bN x c r by rfl)), s.o.kept⟩
theorem qw (c1 c2 : Cl) (w : World) :
    Calls Tryz.prog 42 #[.agg #[.int .i64 c1.c, .int .i64 c1.r], .agg #[.int .i64 c2.c, .int .i64 c2.r]] w fun e w' => e = .returned (.bool (dA c1 c2)) ∧ Kept w w' := by
  go_enter Tryz.func42, Tryz.ntmps42; refine z00 24 [(0, .agg #[.int .i64 c1.c, .int .i64 c1.r]), (1, .agg #[.int .i64 c2.c, .int .i64 c2.r])] ?_; intro _ s; refine zr s 3 (zP (zB (zB Z0 (.cells #[.int .i64 c1.c, .int .i64 c1.r] 44 (0, 0))) (.cells #[.int .i64 c2.c, .int .i64 c2.r] 44 (0, 0)))) ?_; intro gb1 gb2 _ fw s; refine zr s 20 (zP (zO (zI (zPi (zLi (zFi (zLi (zFi (zPi (zPi (zLi (zFi (zLi (zFi (zP (zP (zL (zF (zL (zF Z0 1) 1) 1) 0))) 1) 1) 1) 0))) 0) 1) 0) 0)) (v := .bool ((decide ((c1.r : Int) = (c2.r : Int))) && (decide ((c1.c : Int) < (c2.c : Int))))) (run := by exact fun cc hz => gm rfl (cc.f hz) (fun hb => cc.f (And.intro hz hb)) rfl)) fun cc => gA rfl cc.e rfl (fun hb => cc.f hb))) ?_; intro _ fw s; refine wp_ret ?_; refine z1 s ?_; exact ⟨(congrArg (fun b => Ending.returned (.bool b)) (show _ = dA c1 c2 by rfl)), s.o.kept⟩
theorem mm (x : Rc) (c r : Int) (w : World) (ho : okR x = true) (hh : jL x c r = true) :
    Calls Tryz.prog 109 #[aR x, .agg #[.int .i64 c, .int .i64 r]] w fun e w' => e = .returned (.int .i64 (bN x c r + 1)) ∧ Kept w w' := by
  obtain ⟨⟨o1, o2, o3⟩, o4, o5, o6⟩ := eD.1 ho; have i1 := me hh; have i2 := DC hh; have i3 := iz (a := r - x.r1) (b := x.c2 - x.c1 + 1) (by omega) (by omega) (by omega) (by omega); go_enter Tryz.func109, Tryz.ntmps109; refine z00 24 [(0, aR x), (1, .agg #[.int .i64 c, .int .i64 r])] ?_; intro _ s; refine zr s 3 (zP (zB (zB Z0 (.cells #[.int .i64 x.c1, .int .i64 x.r1, .int .i64 x.c2, .int .i64 x.r2] 34 (0, 0))) (.cells #[.int .i64 c, .int .i64 r] 44 (0, 0)))) ?_; intro gb1 gb2 _ fw s; refine zr s 20 (zP (zAd (zSb (zL (zF (zAd (zL (zF (zO (zAd (zSb (zL (zF (zL (zF (zSb (zL (zF (zL (zF Z0 1) 0) 1) 1)) 2) 1) 0) 1))) fun cc => vR (Or.inl rfl) rfl cc.e cc.e (by omega) (by omega)) 0) 0)) 0) 1)))) ?_; intro _ fw s; refine wp_ret ?_; refine z1 s ?_; exact ⟨(congrArg (fun n => Ending.returned (.int .i64 n)) (show _ = bN x c r + 1 by rfl)), s.o.kept⟩
theorem yO (x : Rc) (i : Int) (w : World) (ho : okR x = true) (h0 : 0 ≤ i) (h1 : i < bh x * cd x) :
    Calls Tryz.prog 112 #[aR x, .int .i64 i] w fun e w' => e = .returned (.agg #[.int .i64 (x.c1 + i % bh x), .int .i64 (x.r1 + i / bh x)]) ∧ Kept w w' := by
  obtain ⟨⟨o1, o2, o3⟩, o4, o5, o6⟩ := eD.1 ho; obtain ⟨i1, i2, i3, i4⟩ := uo o2 o5 h0 h1; have i7 := iz (a := bh x) (b := cd x) (by omega) (by omega) (by omega) (by omega); have i5 : Int.tmod i (x.c2 - x.c1 + 1) = i % bh x := Int.tmod_eq_emod_of_nonneg h0; have i6 : Int.tdiv i (x.c2 - x.c1 + 1) = i / bh x := Int.tdiv_eq_ediv_of_nonneg h0; go_enter Tryz.func112, Tryz.ntmps112; refine z00 25 [(0, aR x), (1, .int .i64 i)] ?_; intro _ s; refine zr s 2 (zV (zB Z0 (.cells #[.int .i64 x.c1, .int .i64 x.r1, .int .i64 x.c2, .int .i64 x.r2] 34 (0, 0))) (.cells #[.int .i64 0, .int .i64 0] 44 (0, 0))) ?_; intro gb1 gb2 _ fw s; refine zr s 7 (zP (zAd (zSb (zL (zF (zL (zF Z0 2) 1) 0) 1)))) ?_; intro _ fw s; refine zt_ s 13 (zO (zAd (zO (zP (zP (zL (zF (zAd (zO (zP (zP (zL (zF Z0 0) 1))) fun cc => Gp (Or.inl rfl) rfl (n := i) (m := (x.c2 - x.c1) + 1) cc.e cc.e (by omega) (by omega) (by omega))) 1) 1))) fun cc => Bb (Or.inl rfl) rfl cc.e cc.e (by omega) (by omega) (by omega))) (v := .agg #[.int .i64 (x.c1 + (Int.tmod i ((x.c2 - x.c1) + 1))), .int .i64 (x.r1 + (Int.tdiv i ((x.c2 - x.c1) + 1)))]) fun cc => xb2 rfl cc.e cc.e (by kernel_rfl)) ?_; intro _ fw s K1 hK1; refine zS s 0 ?_; intro fw s; refine wt hK1 ?_; refine wp_ret ?_; refine ac (v := .agg #[.int .i64 (x.c1 + (Int.tmod i ((x.c2 - x.c1) + 1))), .int .i64 (x.r1 + (Int.tdiv i ((x.c2 - x.c1) + 1)))]) rfl (.cons (rC s 2 0) .nil) rfl s.q ?_
  exact ⟨(yL h0), s.o.kept⟩
