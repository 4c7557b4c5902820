/- Layer 15: is, of, awake (printed by wip/mkawake15.py). -/
import Derived.Test.YtipkjpcedfokhaaDoorGLogic8
import Derived.Test.YtipkjpcedfokhaaDoorRTyped2
namespace Go.Proofs.YtipkjpcedfokhaaDoor
set_option linter.unusedVariables false
set_option linter.unusedSimpArgs false
open Go.RowKit Lv

theorem of15_any (fn : Nat) (A : Option Addr) (cap : Nat) (l : List Vl) (w : World) (mx : Int) (hm : Mx w mx) (hr : RowV w A l) (hs : ∀ v ∈ l, Small v) (hl : l.length ≤ 1000000) (hc : l.length ≤ cap) :
    Calls Tryd.prog 50 #[.int .u8 fn, .slice A l.length cap] w fun e w' => e = .returned (aggV (vCall fn l).1) ∧ Kept w w' := by
  have C := Lib.hid (fun w hm hr => call15_any fn A cap l w mx hm hr hs hl hc)
  have HR := Lib.hid hr
  have HM := Lib.hid hm
  have B0 : Hid (Box (w.alloc (.cells #[.int .u8 0, .int .i64 0, .string ⟨#[]⟩] 35)) w.heap.size 35 (cellsV blankV)) := Lib.hid (Box.new w _ _)
  generalize vCall fn l = p at *
  obtain ⟨x, er⟩ := p
  obtain ⟨n, hn⟩ : ∃ n, n = l.length := ⟨_, rfl⟩
  rw [← hn] at C ⊢
  clear hm hr hs hl hc hn
  go_enter Tryd.func50, Tryd.ntmps50
  go_wp2_with fail
  refine (C.out _ (HM.out.kept (by repeat (first | with_reducible exact Kept.refl _ | with_reducible apply Kept.drew | with_reducible apply Kept.drewN | with_reducible apply Kept.alloc | (with_reducible refine Kept.setCellX ?_ ?_ _; focus (first | (simp; done) | (simp; omega))) | (with_reducible refine Kept.trans ?_ (by assumption))))) (HR.out.kept (by repeat (first | with_reducible exact Kept.refl _ | with_reducible apply Kept.drew | with_reducible apply Kept.drewN | with_reducible apply Kept.alloc | (with_reducible refine Kept.setCellX ?_ ?_ _; focus (first | (simp; done) | (simp; omega))) | (with_reducible refine Kept.trans ?_ (by assumption)))))).mono ?_
  rintro e w1 ⟨rfl, k1⟩
  have C0 := Lib.hid (B0.out.kept k1)
  have KK : Hid (Kept w w1) := Lib.hid (Kept.trans (by repeat (first | with_reducible exact Kept.refl _ | with_reducible apply Kept.drew | with_reducible apply Kept.drewN | with_reducible apply Kept.alloc | (with_reducible refine Kept.setCellX ?_ ?_ _; focus (first | (simp; done) | (simp; omega))) | (with_reducible refine Kept.trans ?_ (by assumption)))) k1)
  obtain ⟨i0, p0, p1, p2, f0, f1, f2⟩ := C0.out.three
  clear k1
  go_wp2_with fail
  refine ret_world (fun wf => Box wf w.heap.size 35 (cellsV x) ∧ Kept w wf) ⟨(Box.set3 C0.out).alloc _, (KK.out.set3 (Nat.le_refl _)).alloc _⟩ ?_
  rintro wf ⟨z0, kf⟩
  obtain ⟨e0, e1, e2⟩ := z0.cells3
  exact bodyPost_ret (v := aggV x) (by simp [results, Tryd.results50, go_sem, e0, e1, e2]) rfl ⟨rfl, kf⟩
theorem is15_any (x : Vl) (fn : Nat) (A : Option Addr) (cap : Nat) (l : List Vl) (w : World) (mx : Int) (hm : Mx w mx) (hr : RowV w A l) (hs : ∀ v ∈ l, Small v) (hl : l.length ≤ 1000000) (hc : l.length ≤ cap) (hx : vCall fn l = (x, 0)) :
    Calls Tryd.prog 94 #[aggV x, .int .u8 fn, .slice A l.length cap] w fun e w' => e = .returned (.bool true) ∧ Kept w w' := by
  have C := Lib.hid (fun w hm hr => call15_any fn A cap l w mx hm hr hs hl hc)
  have HR := Lib.hid hr
  have HM := Lib.hid hm
  have B0 : Hid (Box (w.alloc (.cells (cellsV x) 35)) w.heap.size 35 (cellsV x)) := Lib.hid (Box.new w _ _)
  rw [hx] at C
  obtain ⟨n, hn⟩ : ∃ n, n = l.length := ⟨_, rfl⟩
  rw [← hn] at C ⊢
  clear hm hr hs hl hc hn hx
  go_enter Tryd.func94, Tryd.ntmps94
  go_wp2_with fail
  refine (C.out _ (HM.out.kept (by repeat (first | with_reducible exact Kept.refl _ | with_reducible apply Kept.drew | with_reducible apply Kept.drewN | with_reducible apply Kept.alloc | (with_reducible refine Kept.setCellX ?_ ?_ _; focus (first | (simp; done) | (simp; omega))) | (with_reducible refine Kept.trans ?_ (by assumption))))) (HR.out.kept (by repeat (first | with_reducible exact Kept.refl _ | with_reducible apply Kept.drew | with_reducible apply Kept.drewN | with_reducible apply Kept.alloc | (with_reducible refine Kept.setCellX ?_ ?_ _; focus (first | (simp; done) | (simp; omega))) | (with_reducible refine Kept.trans ?_ (by assumption)))))).mono ?_
  rintro e w1 ⟨rfl, k1⟩
  obtain ⟨i0, p0, p1, p2, f0, f1, f2⟩ := (B0.out.kept k1).three
  have KK : Hid (Kept w w1) := Lib.hid (Kept.trans (by repeat (first | with_reducible exact Kept.refl _ | with_reducible apply Kept.drew | with_reducible apply Kept.drewN | with_reducible apply Kept.alloc | (with_reducible refine Kept.setCellX ?_ ?_ _; focus (first | (simp; done) | (simp; omega))) | (with_reducible refine Kept.trans ?_ (by assumption)))) k1)
  clear k1
  go_wp2_with fail
  go_ret
  exact ⟨rfl, KK.out.alloc _⟩
theorem smalls {l : List Vl} (h : (l.all fun v => decide (-9223372036854775808 ≤ v.n ∧ v.n ≤ 9223372036854775807 ∧ v.t.length ≤ 2000)) = true) : ∀ v ∈ l, Small v := fun v hv => by
  have := List.all_eq_true.1 h v hv
  rw [decide_eq_true_eq] at this
  exact ⟨⟨this.1, this.2.1⟩, this.2.2⟩

/-- the values that awake keeps -/
structure Aw15 (w : World) (p : Nat) : Prop where
  B0 : Box w (p) 35 #[.int .u8 1, .int .i64 10000, .string ⟨#[]⟩]
  B1 : Box w (p + 1) 35 #[.int .u8 1, .int .i64 29000, .string ⟨#[]⟩]
  B2 : Box w (p + 1 + 1) 35 #[.int .u8 3, .int .i64 0, .string ⟨#[120]⟩]
  B3 : Box w (p + 1 + 1 + 1) 35 #[.int .u8 4, .int .i64 4, .string ⟨#[]⟩]
  B4 : Box w (p + 1 + 1 + 1 + 1) 35 #[.int .u8 4, .int .i64 2, .string ⟨#[]⟩]
theorem Aw15.kept {w w' : World} {p : Nat} (h : Aw15 w p) (k : Kept w w') : Aw15 w' p := ⟨h.B0.kept k, h.B1.kept k, h.B2.kept k, h.B3.kept k, h.B4.kept k⟩
theorem Aw15.made (w : World) : Aw15 (((((w.alloc (.cells #[.int .u8 1, .int .i64 10000, .string ⟨#[]⟩] 35)).alloc (.cells #[.int .u8 1, .int .i64 29000, .string ⟨#[]⟩] 35)).alloc (.cells #[.int .u8 3, .int .i64 0, .string ⟨#[120]⟩] 35)).alloc (.cells #[.int .u8 4, .int .i64 4, .string ⟨#[]⟩] 35)).alloc (.cells #[.int .u8 4, .int .i64 2, .string ⟨#[]⟩] 35)) w.heap.size := ⟨(((((Box.new w _ _).alloc _).alloc _).alloc _).alloc _), ((((Box.newAt (by simp) _ _).alloc _).alloc _).alloc _), (((Box.newAt (by simp) _ _).alloc _).alloc _), ((Box.newAt (by simp) _ _).alloc _), (Box.newAt (by simp) _ _)⟩
theorem Aw15.cells {w : World} {p : Nat} (h : Aw15 w p) : w.cell? ⟨p, 0, none⟩ = some (.int .u8 1) ∧ w.cell? ⟨p, 1, none⟩ = some (.int .i64 10000) ∧ w.cell? ⟨p, 2, none⟩ = some (.string ⟨#[]⟩) ∧ w.cell? ⟨p + 1, 0, none⟩ = some (.int .u8 1) ∧ w.cell? ⟨p + 1, 1, none⟩ = some (.int .i64 29000) ∧ w.cell? ⟨p + 1, 2, none⟩ = some (.string ⟨#[]⟩) ∧ w.cell? ⟨p + 1 + 1, 0, none⟩ = some (.int .u8 3) ∧ w.cell? ⟨p + 1 + 1, 1, none⟩ = some (.int .i64 0) ∧ w.cell? ⟨p + 1 + 1, 2, none⟩ = some (.string ⟨#[120]⟩) ∧ w.cell? ⟨p + 1 + 1 + 1, 0, none⟩ = some (.int .u8 4) ∧ w.cell? ⟨p + 1 + 1 + 1, 1, none⟩ = some (.int .i64 4) ∧ w.cell? ⟨p + 1 + 1 + 1, 2, none⟩ = some (.string ⟨#[]⟩) ∧ w.cell? ⟨p + 1 + 1 + 1 + 1, 0, none⟩ = some (.int .u8 4) ∧ w.cell? ⟨p + 1 + 1 + 1 + 1, 1, none⟩ = some (.int .i64 2) ∧ w.cell? ⟨p + 1 + 1 + 1 + 1, 2, none⟩ = some (.string ⟨#[]⟩) :=
  ⟨h.B0.cell 0, h.B0.cell 1, h.B0.cell 2, h.B1.cell 0, h.B1.cell 1, h.B1.cell 2, h.B2.cell 0, h.B2.cell 1, h.B2.cell 2, h.B3.cell 0, h.B3.cell 1, h.B3.cell 2, h.B4.cell 0, h.B4.cell 1, h.B4.cell 2⟩
theorem enter_truth (args : Array Value) (w : World) : (callFunc 52 args).run Tryd.prog w = .ok (.enter 52 args) w := by go_simp
theorem enter_is (args : Array Value) (w : World) : (callFunc 94 args).run Tryd.prog w = .ok (.enter 94 args) w := by go_simp
/-- what each operation of awake's return yields -/
def V15 : Nat → Value → World → Prop
  | 0, v, w => v = .agg #[.int .u8 1, .int .i64 10000, .string ⟨#[]⟩]
  | 1, v, w => v = .agg #[.int .u8 2, .int .i64 1, .string ⟨#[]⟩]
  | 2, v, w => v = .agg #[.int .u8 1, .int .i64 10000, .string ⟨#[]⟩]
  | 3, v, w => v = .agg #[.int .u8 1, .int .i64 29000, .string ⟨#[]⟩]
  | 4, v, w => RowIs [⟨2, 1, []⟩, ⟨1, 10000, []⟩, ⟨1, 29000, []⟩] v w
  | 5, v, w => v = .bool true
  | 6, v, w => v = .bool true
  | 7, v, w => v = .agg #[.int .u8 2, .int .i64 0, .string ⟨#[]⟩]
  | 8, v, w => v = .agg #[.int .u8 2, .int .i64 0, .string ⟨#[]⟩]
  | 9, v, w => v = .agg #[.int .u8 1, .int .i64 10000, .string ⟨#[]⟩]
  | 10, v, w => RowIs [⟨2, 0, []⟩, ⟨1, 10000, []⟩] v w
  | 11, v, w => v = .bool true
  | 12, v, w => v = .bool true
  | 13, v, w => v = .bool true
  | 14, v, w => v = .agg #[.int .u8 4, .int .i64 4, .string ⟨#[]⟩]
  | 15, v, w => v = .agg #[.int .u8 2, .int .i64 1, .string ⟨#[]⟩]
  | 16, v, w => v = .agg #[.int .u8 1, .int .i64 10000, .string ⟨#[]⟩]
  | 17, v, w => v = .agg #[.int .u8 4, .int .i64 4, .string ⟨#[]⟩]
  | 18, v, w => RowIs [⟨2, 1, []⟩, ⟨1, 10000, []⟩, ⟨4, 4, []⟩] v w
  | 19, v, w => v = .bool true
  | 20, v, w => v = .bool true
  | 21, v, w => v = .bool true
  | 22, v, w => v = .agg #[.int .u8 4, .int .i64 2, .string ⟨#[]⟩]
  | 23, v, w => v = .agg #[.int .u8 3, .int .i64 0, .string ⟨#[120]⟩]
  | 24, v, w => v = .agg #[.int .u8 1, .int .i64 10000, .string ⟨#[]⟩]
  | 25, v, w => v = .agg #[.int .u8 1, .int .i64 29000, .string ⟨#[]⟩]
  | 26, v, w => RowIs [⟨3, 0, [120]⟩, ⟨1, 10000, []⟩, ⟨1, 29000, []⟩] v w
  | 27, v, w => v = .bool true
  | 28, v, w => v = .bool true
  | 29, v, w => v = .bool true
  | 30, v, w => v = .agg #[.int .u8 2, .int .i64 1, .string ⟨#[]⟩]
  | 31, v, w => v = .agg #[.int .u8 2, .int .i64 1, .string ⟨#[]⟩]
  | 32, v, w => v = .agg #[.int .u8 1, .int .i64 10000, .string ⟨#[]⟩]
  | 33, v, w => v = .agg #[.int .u8 3, .int .i64 0, .string ⟨#[116, 114, 117, 101]⟩]
  | 34, v, w => RowIs [⟨2, 1, []⟩, ⟨1, 10000, []⟩, ⟨3, 0, [116, 114, 117, 101]⟩] v w
  | 35, v, w => v = .bool true
  | 36, v, w => v = .bool true
  | 37, v, w => v = .bool true
  | 38, v, w => v = .agg #[.int .u8 2, .int .i64 1, .string ⟨#[]⟩]
  | 39, v, w => v = .agg #[.int .u8 1, .int .i64 10000, .string ⟨#[]⟩]
  | 40, v, w => v = .agg #[.int .u8 1, .int .i64 10000, .string ⟨#[]⟩]
  | 41, v, w => v = .agg #[.int .u8 1, .int .i64 10000, .string ⟨#[]⟩]
  | 42, v, w => RowIs [⟨1, 10000, []⟩, ⟨1, 10000, []⟩, ⟨1, 10000, []⟩] v w
  | 43, v, w => v = .bool true
  | 44, v, w => v = .bool true
  | 45, v, w => v = .bool true
  | 46, v, w => v = .agg #[.int .u8 4, .int .i64 4, .string ⟨#[]⟩]
  | 47, v, w => v = .agg #[.int .u8 2, .int .i64 0, .string ⟨#[]⟩]
  | 48, v, w => v = .agg #[.int .u8 4, .int .i64 4, .string ⟨#[]⟩]
  | 49, v, w => RowIs [⟨2, 0, []⟩, ⟨4, 4, []⟩] v w
  | 50, v, w => v = .bool true
  | 51, v, w => v = .bool true
  | 52, v, w => v = .bool true
  | 53, v, w => v = .agg #[.int .u8 1, .int .i64 10000, .string ⟨#[]⟩]
  | 54, v, w => v = .agg #[.int .u8 4, .int .i64 4, .string ⟨#[]⟩]
  | 55, v, w => v = .agg #[.int .u8 1, .int .i64 10000, .string ⟨#[]⟩]
  | 56, v, w => RowIs [⟨4, 4, []⟩, ⟨1, 10000, []⟩] v w
  | 57, v, w => v = .bool true
  | 58, v, w => v = .bool true
  | 59, v, w => v = .bool true
  | 60, v, w => v = .agg #[.int .u8 1, .int .i64 10000, .string ⟨#[]⟩]
  | 61, v, w => v = .agg #[.int .u8 1, .int .i64 10000, .string ⟨#[]⟩]
  | 62, v, w => v = .agg #[.int .u8 4, .int .i64 4, .string ⟨#[]⟩]
  | 63, v, w => RowIs [⟨1, 10000, []⟩, ⟨4, 4, []⟩] v w
  | 64, v, w => v = .bool true
  | 65, v, w => v = .bool true
  | 66, v, w => v = .bool true
  | 67, v, w => v = .agg #[.int .u8 2, .int .i64 1, .string ⟨#[]⟩]
  | 68, v, w => v = .agg #[.int .u8 4, .int .i64 4, .string ⟨#[]⟩]
  | 69, v, w => RowIs [⟨4, 4, []⟩] v w
  | 70, v, w => v = .bool true
  | 71, v, w => v = .bool true
  | 72, v, w => v = .bool true
  | 73, v, w => v = .agg #[.int .u8 4, .int .i64 4, .string ⟨#[]⟩]
  | 74, v, w => v = .agg #[.int .u8 4, .int .i64 4, .string ⟨#[]⟩]
  | 75, v, w => RowIs [⟨4, 4, []⟩] v w
  | 76, v, w => v = .bool true
  | 77, v, w => v = .bool true
  | 78, v, w => v = .bool true
  | 79, v, w => v = .agg #[.int .u8 3, .int .i64 0, .string ⟨#[120]⟩]
  | 80, v, w => v = .agg #[.int .u8 1, .int .i64 29000, .string ⟨#[]⟩]
  | 81, v, w => v = .agg #[.int .u8 1, .int .i64 10000, .string ⟨#[]⟩]
  | 82, v, w => v = .agg #[.int .u8 3, .int .i64 0, .string ⟨#[120]⟩]
  | 83, v, w => RowIs [⟨1, 29000, []⟩, ⟨1, 10000, []⟩, ⟨3, 0, [120]⟩] v w
  | 84, v, w => v = .bool true
  | 85, v, w => v = .bool true
  | 86, v, w => v = .bool true
  | 87, v, w => v = .agg #[.int .u8 4, .int .i64 2, .string ⟨#[]⟩]
  | 88, v, w => v = .agg #[.int .u8 1, .int .i64 30000, .string ⟨#[]⟩]
  | 89, v, w => v = .agg #[.int .u8 1, .int .i64 10000, .string ⟨#[]⟩]
  | 90, v, w => v = .agg #[.int .u8 3, .int .i64 0, .string ⟨#[120]⟩]
  | 91, v, w => RowIs [⟨1, 30000, []⟩, ⟨1, 10000, []⟩, ⟨3, 0, [120]⟩] v w
  | 92, v, w => v = .bool true
  | 93, v, w => v = .bool true
  | 94, v, w => v = .bool true
  | 95, v, w => v = .agg #[.int .u8 4, .int .i64 4, .string ⟨#[]⟩]
  | 96, v, w => v = .agg #[.int .u8 1, .int .i64 10000, .string ⟨#[]⟩]
  | 97, v, w => v = .agg #[.int .u8 3, .int .i64 0, .string ⟨#[120]⟩]
  | 98, v, w => v = .agg #[.int .u8 4, .int .i64 4, .string ⟨#[]⟩]
  | 99, v, w => RowIs [⟨1, 10000, []⟩, ⟨3, 0, [120]⟩, ⟨4, 4, []⟩] v w
  | 100, v, w => v = .bool true
  | 101, v, w => v = .bool true
  | 102, v, w => v = .bool true
  | _, _, _ => True
theorem V15_kept : ∀ (j : Nat) (v : Value) (w w' : World), V15 j v w → Kept w w' → V15 j v w' := by
  intro j v w w' h k
  match j, h with
  | 0, h => exact h
  | 1, h => exact h
  | 2, h => exact h
  | 3, h => exact h
  | 4, h => exact RowIs.kept h k
  | 5, h => exact h
  | 6, h => exact h
  | 7, h => exact h
  | 8, h => exact h
  | 9, h => exact h
  | 10, h => exact RowIs.kept h k
  | 11, h => exact h
  | 12, h => exact h
  | 13, h => exact h
  | 14, h => exact h
  | 15, h => exact h
  | 16, h => exact h
  | 17, h => exact h
  | 18, h => exact RowIs.kept h k
  | 19, h => exact h
  | 20, h => exact h
  | 21, h => exact h
  | 22, h => exact h
  | 23, h => exact h
  | 24, h => exact h
  | 25, h => exact h
  | 26, h => exact RowIs.kept h k
  | 27, h => exact h
  | 28, h => exact h
  | 29, h => exact h
  | 30, h => exact h
  | 31, h => exact h
  | 32, h => exact h
  | 33, h => exact h
  | 34, h => exact RowIs.kept h k
  | 35, h => exact h
  | 36, h => exact h
  | 37, h => exact h
  | 38, h => exact h
  | 39, h => exact h
  | 40, h => exact h
  | 41, h => exact h
  | 42, h => exact RowIs.kept h k
  | 43, h => exact h
  | 44, h => exact h
  | 45, h => exact h
  | 46, h => exact h
  | 47, h => exact h
  | 48, h => exact h
  | 49, h => exact RowIs.kept h k
  | 50, h => exact h
  | 51, h => exact h
  | 52, h => exact h
  | 53, h => exact h
  | 54, h => exact h
  | 55, h => exact h
  | 56, h => exact RowIs.kept h k
  | 57, h => exact h
  | 58, h => exact h
  | 59, h => exact h
  | 60, h => exact h
  | 61, h => exact h
  | 62, h => exact h
  | 63, h => exact RowIs.kept h k
  | 64, h => exact h
  | 65, h => exact h
  | 66, h => exact h
  | 67, h => exact h
  | 68, h => exact h
  | 69, h => exact RowIs.kept h k
  | 70, h => exact h
  | 71, h => exact h
  | 72, h => exact h
  | 73, h => exact h
  | 74, h => exact h
  | 75, h => exact RowIs.kept h k
  | 76, h => exact h
  | 77, h => exact h
  | 78, h => exact h
  | 79, h => exact h
  | 80, h => exact h
  | 81, h => exact h
  | 82, h => exact h
  | 83, h => exact RowIs.kept h k
  | 84, h => exact h
  | 85, h => exact h
  | 86, h => exact h
  | 87, h => exact h
  | 88, h => exact h
  | 89, h => exact h
  | 90, h => exact h
  | 91, h => exact RowIs.kept h k
  | 92, h => exact h
  | 93, h => exact h
  | 94, h => exact h
  | 95, h => exact h
  | 96, h => exact h
  | 97, h => exact h
  | 98, h => exact h
  | 99, h => exact RowIs.kept h k
  | 100, h => exact h
  | 101, h => exact h
  | 102, h => exact h
  | j + 103, h => trivial

set_option maxHeartbeats 8000000 in
set_option maxRecDepth 100000 in
theorem awake15_any (w : World) (mx : Int) (hm : Mx w mx) : Calls Tryd.prog 47 #[] w fun e w' => e = .returned (.bool true) ∧ Kept w w' := by
  have HM := Lib.hid hm
  have AW := Lib.hid (Aw15.made w)
  have KK : Hid (Kept w (((((w.alloc (.cells #[.int .u8 1, .int .i64 10000, .string ⟨#[]⟩] 35)).alloc (.cells #[.int .u8 1, .int .i64 29000, .string ⟨#[]⟩] 35)).alloc (.cells #[.int .u8 3, .int .i64 0, .string ⟨#[120]⟩] 35)).alloc (.cells #[.int .u8 4, .int .i64 4, .string ⟨#[]⟩] 35)).alloc (.cells #[.int .u8 4, .int .i64 2, .string ⟨#[]⟩] 35))) := Lib.hid (by repeat (first | with_reducible exact Kept.refl _ | with_reducible apply Kept.drew | with_reducible apply Kept.drewN | with_reducible apply Kept.alloc | (with_reducible refine Kept.setCellX ?_ ?_ _; focus (first | (simp; done) | (simp; omega))) | (with_reducible refine Kept.trans ?_ (by assumption))))
  clear hm
  go_enter Tryd.func47, Tryd.ntmps47
  go_wp2_with fail
  refine wp_world (fun wf => Aw15 wf w.heap.size ∧ Mx wf mx ∧ Kept w wf) ⟨AW.out, HM.out.kept KK.out, KK.out⟩ ?_
  rintro w5 ⟨hb, hm, hk5⟩
  clear AW KK HM
  generalize w.heap.size = p at hb ⊢
  refine region_typed (V := V15) V15_kept (by kernel_rfl) (by kernel_rfl) (fun i o ho a w hk fr hd => ?_) (fun a w hk fr hv => ?_)
  · have f1 : a.eval (.tmp 1) = .pointer (some ⟨p, 0, none⟩) := fr.same 1 (by kernel_rfl)
    have f2 : a.eval (.tmp 2) = .pointer (some ⟨p + 1, 0, none⟩) := fr.same 2 (by kernel_rfl)
    have f3 : a.eval (.tmp 3) = .pointer (some ⟨p + 1 + 1, 0, none⟩) := fr.same 3 (by kernel_rfl)
    have f4 : a.eval (.tmp 4) = .pointer (some ⟨p + 1 + 1 + 1, 0, none⟩) := fr.same 4 (by kernel_rfl)
    have f5 : a.eval (.tmp 5) = .pointer (some ⟨p + 1 + 1 + 1 + 1, 0, none⟩) := fr.same 5 (by kernel_rfl)
    match i, ho with
    | 0, ho =>
      cases ho
      exact stepT_value (wants_none rfl) (run_load3 (a := a) rfl rfl f1 (hb.B0.kept hk)) rfl (Kept.refl w)
    | 1, ho =>
      cases ho
      exact stepT_enter (wants_none rfl) (run_call rfl (args := #[.bool true]) (by simp [Act.eval]) (enter_truth _ _)) ((truth15_any true w).mono fun _ _ ⟨he, hk⟩ => ⟨_, he, rfl, hk⟩)
    | 2, ho =>
      cases ho
      exact stepT_value (wants_none rfl) (run_load3 (a := a) rfl rfl f1 (hb.B0.kept hk)) rfl (Kept.refl w)
    | 3, ho =>
      cases ho
      exact stepT_value (wants_none rfl) (run_load3 (a := a) rfl rfl f2 (hb.B1.kept hk)) rfl (Kept.refl w)
    | 4, ho =>
      cases ho
      have d1 := dep (W := fun j => V15 j (At _ a j) w) hd 1 rfl
      have d2 := dep (W := fun j => V15 j (At _ a j) w) hd 2 rfl
      have d3 := dep (W := fun j => V15 j (At _ a j) w) hd 3 rfl
      exact stepT_value (wants_none rfl) (run_row3 rfl rfl (show a.eval (.tmp 12) = aggV ⟨2, 1, []⟩ from d1) (show a.eval (.tmp 13) = aggV ⟨1, 10000, []⟩ from d2) (show a.eval (.tmp 14) = aggV ⟨1, 29000, []⟩ from d3)) (RowIs.made [⟨2, 1, []⟩, ⟨1, 10000, []⟩, ⟨1, 29000, []⟩] w) (Kept.alloc (Kept.refl w) _)
    | 5, ho =>
      cases ho
      have d0 := dep (W := fun j => V15 j (At _ a j) w) hd 0 rfl
      have d4 := dep (W := fun j => V15 j (At _ a j) w) hd 4 rfl
      obtain ⟨g, e, rw⟩ := d4
      exact stepT_enter (wants_none rfl) (run_call rfl (args := #[aggV ⟨1, 10000, []⟩, .int .u8 20, .slice (some ⟨g, 0, none⟩) 3 3]) (by simp only [List.map_toArray, List.map_cons, List.map_nil]; rw [show a.eval (.tmp 11) = _ from d0, show a.eval (.tmp 15) = _ from e]; rfl) (enter_is _ _)) ((is15_any ⟨1, 10000, []⟩ 20 (some ⟨g, 0, none⟩) 3 [⟨2, 1, []⟩, ⟨1, 10000, []⟩, ⟨1, 29000, []⟩] w mx (hm.kept hk) rw (smalls (by decide)) (by simp) (by simp) (by rfl)).mono fun _ _ ⟨he, hk⟩ => ⟨_, he, rfl, hk⟩)
    | 6, ho =>
      cases ho
      have d5 := dep (W := fun j => V15 j (At _ a j) w) hd 5 rfl
      exact stepT_value (wants_none rfl) (run_move (by first | exact Or.inl rfl | exact Or.inr rfl)) (show a.eval (.tmp 16) = .bool true from d5) (Kept.refl w)
    | 7, ho =>
      cases ho
      have d6 := dep (W := fun j => V15 j (At _ a j) w) hd 6 rfl
      exact stepT_enter (wants_some (j := 6) (b := true) rfl d6) (run_call rfl (args := #[.bool false]) (by simp [Act.eval]) (enter_truth _ _)) ((truth15_any false w).mono fun _ _ ⟨he, hk⟩ => ⟨_, he, rfl, hk⟩)
    | 8, ho =>
      cases ho
      have d6 := dep (W := fun j => V15 j (At _ a j) w) hd 6 rfl
      exact stepT_enter (wants_some (j := 6) (b := true) rfl d6) (run_call rfl (args := #[.bool false]) (by simp [Act.eval]) (enter_truth _ _)) ((truth15_any false w).mono fun _ _ ⟨he, hk⟩ => ⟨_, he, rfl, hk⟩)
    | 9, ho =>
      cases ho
      have d6 := dep (W := fun j => V15 j (At _ a j) w) hd 6 rfl
      exact stepT_value (wants_some (j := 6) (b := true) rfl d6) (run_load3 (a := a) rfl rfl f1 (hb.B0.kept hk)) rfl (Kept.refl w)
    | 10, ho =>
      cases ho
      have d6 := dep (W := fun j => V15 j (At _ a j) w) hd 6 rfl
      have d8 := dep (W := fun j => V15 j (At _ a j) w) hd 8 rfl
      have d9 := dep (W := fun j => V15 j (At _ a j) w) hd 9 rfl
      exact stepT_value (wants_some (j := 6) (b := true) rfl d6) (run_row2 rfl rfl (show a.eval (.tmp 19) = aggV ⟨2, 0, []⟩ from d8) (show a.eval (.tmp 20) = aggV ⟨1, 10000, []⟩ from d9)) (RowIs.made [⟨2, 0, []⟩, ⟨1, 10000, []⟩] w) (Kept.alloc (Kept.refl w) _)
    | 11, ho =>
      cases ho
      have d6 := dep (W := fun j => V15 j (At _ a j) w) hd 6 rfl
      have d7 := dep (W := fun j => V15 j (At _ a j) w) hd 7 rfl
      have d10 := dep (W := fun j => V15 j (At _ a j) w) hd 10 rfl
      obtain ⟨g, e, rw⟩ := d10
      exact stepT_enter (wants_some (j := 6) (b := true) rfl d6) (run_call rfl (args := #[aggV ⟨2, 0, []⟩, .int .u8 20, .slice (some ⟨g, 0, none⟩) 2 2]) (by simp only [List.map_toArray, List.map_cons, List.map_nil]; rw [show a.eval (.tmp 18) = _ from d7, show a.eval (.tmp 21) = _ from e]; rfl) (enter_is _ _)) ((is15_any ⟨2, 0, []⟩ 20 (some ⟨g, 0, none⟩) 2 [⟨2, 0, []⟩, ⟨1, 10000, []⟩] w mx (hm.kept hk) rw (smalls (by decide)) (by simp) (by simp) (by rfl)).mono fun _ _ ⟨he, hk⟩ => ⟨_, he, rfl, hk⟩)
    | 12, ho =>
      cases ho
      have d6 := dep (W := fun j => V15 j (At _ a j) w) hd 6 rfl
      have d11 := dep (W := fun j => V15 j (At _ a j) w) hd 11 rfl
      exact stepT_value (wants_none rfl) (run_pickT (x := .tmp 22) rfl (show a.eval (.tmp 17) = .bool true from d6)) (show a.eval (.tmp 22) = .bool true from d11) (Kept.refl w)
    | 13, ho =>
      cases ho
      have d12 := dep (W := fun j => V15 j (At _ a j) w) hd 12 rfl
      exact stepT_value (wants_none rfl) (run_move (by first | exact Or.inl rfl | exact Or.inr rfl)) (show a.eval (.tmp 23) = .bool true from d12) (Kept.refl w)
    | 14, ho =>
      cases ho
      have d13 := dep (W := fun j => V15 j (At _ a j) w) hd 13 rfl
      exact stepT_value (wants_some (j := 13) (b := true) rfl d13) (run_load3 (a := a) rfl rfl f4 (hb.B3.kept hk)) rfl (Kept.refl w)
    | 15, ho =>
      cases ho
      have d13 := dep (W := fun j => V15 j (At _ a j) w) hd 13 rfl
      exact stepT_enter (wants_some (j := 13) (b := true) rfl d13) (run_call rfl (args := #[.bool true]) (by simp [Act.eval]) (enter_truth _ _)) ((truth15_any true w).mono fun _ _ ⟨he, hk⟩ => ⟨_, he, rfl, hk⟩)
    | 16, ho =>
      cases ho
      have d13 := dep (W := fun j => V15 j (At _ a j) w) hd 13 rfl
      exact stepT_value (wants_some (j := 13) (b := true) rfl d13) (run_load3 (a := a) rfl rfl f1 (hb.B0.kept hk)) rfl (Kept.refl w)
    | 17, ho =>
      cases ho
      have d13 := dep (W := fun j => V15 j (At _ a j) w) hd 13 rfl
      exact stepT_value (wants_some (j := 13) (b := true) rfl d13) (run_load3 (a := a) rfl rfl f4 (hb.B3.kept hk)) rfl (Kept.refl w)
    | 18, ho =>
      cases ho
      have d13 := dep (W := fun j => V15 j (At _ a j) w) hd 13 rfl
      have d15 := dep (W := fun j => V15 j (At _ a j) w) hd 15 rfl
      have d16 := dep (W := fun j => V15 j (At _ a j) w) hd 16 rfl
      have d17 := dep (W := fun j => V15 j (At _ a j) w) hd 17 rfl
      exact stepT_value (wants_some (j := 13) (b := true) rfl d13) (run_row3 rfl rfl (show a.eval (.tmp 26) = aggV ⟨2, 1, []⟩ from d15) (show a.eval (.tmp 27) = aggV ⟨1, 10000, []⟩ from d16) (show a.eval (.tmp 28) = aggV ⟨4, 4, []⟩ from d17)) (RowIs.made [⟨2, 1, []⟩, ⟨1, 10000, []⟩, ⟨4, 4, []⟩] w) (Kept.alloc (Kept.refl w) _)
    | 19, ho =>
      cases ho
      have d13 := dep (W := fun j => V15 j (At _ a j) w) hd 13 rfl
      have d14 := dep (W := fun j => V15 j (At _ a j) w) hd 14 rfl
      have d18 := dep (W := fun j => V15 j (At _ a j) w) hd 18 rfl
      obtain ⟨g, e, rw⟩ := d18
      exact stepT_enter (wants_some (j := 13) (b := true) rfl d13) (run_call rfl (args := #[aggV ⟨4, 4, []⟩, .int .u8 20, .slice (some ⟨g, 0, none⟩) 3 3]) (by simp only [List.map_toArray, List.map_cons, List.map_nil]; rw [show a.eval (.tmp 25) = _ from d14, show a.eval (.tmp 29) = _ from e]; rfl) (enter_is _ _)) ((is15_any ⟨4, 4, []⟩ 20 (some ⟨g, 0, none⟩) 3 [⟨2, 1, []⟩, ⟨1, 10000, []⟩, ⟨4, 4, []⟩] w mx (hm.kept hk) rw (smalls (by decide)) (by simp) (by simp) (by rfl)).mono fun _ _ ⟨he, hk⟩ => ⟨_, he, rfl, hk⟩)
    | 20, ho =>
      cases ho
      have d13 := dep (W := fun j => V15 j (At _ a j) w) hd 13 rfl
      have d19 := dep (W := fun j => V15 j (At _ a j) w) hd 19 rfl
      exact stepT_value (wants_none rfl) (run_pickT (x := .tmp 30) rfl (show a.eval (.tmp 24) = .bool true from d13)) (show a.eval (.tmp 30) = .bool true from d19) (Kept.refl w)
    | 21, ho =>
      cases ho
      have d20 := dep (W := fun j => V15 j (At _ a j) w) hd 20 rfl
      exact stepT_value (wants_none rfl) (run_move (by first | exact Or.inl rfl | exact Or.inr rfl)) (show a.eval (.tmp 31) = .bool true from d20) (Kept.refl w)
    | 22, ho =>
      cases ho
      have d21 := dep (W := fun j => V15 j (At _ a j) w) hd 21 rfl
      exact stepT_value (wants_some (j := 21) (b := true) rfl d21) (run_load3 (a := a) rfl rfl f5 (hb.B4.kept hk)) rfl (Kept.refl w)
    | 23, ho =>
      cases ho
      have d21 := dep (W := fun j => V15 j (At _ a j) w) hd 21 rfl
      exact stepT_value (wants_some (j := 21) (b := true) rfl d21) (run_load3 (a := a) rfl rfl f3 (hb.B2.kept hk)) rfl (Kept.refl w)
    | 24, ho =>
      cases ho
      have d21 := dep (W := fun j => V15 j (At _ a j) w) hd 21 rfl
      exact stepT_value (wants_some (j := 21) (b := true) rfl d21) (run_load3 (a := a) rfl rfl f1 (hb.B0.kept hk)) rfl (Kept.refl w)
    | 25, ho =>
      cases ho
      have d21 := dep (W := fun j => V15 j (At _ a j) w) hd 21 rfl
      exact stepT_value (wants_some (j := 21) (b := true) rfl d21) (run_load3 (a := a) rfl rfl f2 (hb.B1.kept hk)) rfl (Kept.refl w)
    | 26, ho =>
      cases ho
      have d21 := dep (W := fun j => V15 j (At _ a j) w) hd 21 rfl
      have d23 := dep (W := fun j => V15 j (At _ a j) w) hd 23 rfl
      have d24 := dep (W := fun j => V15 j (At _ a j) w) hd 24 rfl
      have d25 := dep (W := fun j => V15 j (At _ a j) w) hd 25 rfl
      exact stepT_value (wants_some (j := 21) (b := true) rfl d21) (run_row3 rfl rfl (show a.eval (.tmp 34) = aggV ⟨3, 0, [120]⟩ from d23) (show a.eval (.tmp 35) = aggV ⟨1, 10000, []⟩ from d24) (show a.eval (.tmp 36) = aggV ⟨1, 29000, []⟩ from d25)) (RowIs.made [⟨3, 0, [120]⟩, ⟨1, 10000, []⟩, ⟨1, 29000, []⟩] w) (Kept.alloc (Kept.refl w) _)
    | 27, ho =>
      cases ho
      have d21 := dep (W := fun j => V15 j (At _ a j) w) hd 21 rfl
      have d22 := dep (W := fun j => V15 j (At _ a j) w) hd 22 rfl
      have d26 := dep (W := fun j => V15 j (At _ a j) w) hd 26 rfl
      obtain ⟨g, e, rw⟩ := d26
      exact stepT_enter (wants_some (j := 21) (b := true) rfl d21) (run_call rfl (args := #[aggV ⟨4, 2, []⟩, .int .u8 20, .slice (some ⟨g, 0, none⟩) 3 3]) (by simp only [List.map_toArray, List.map_cons, List.map_nil]; rw [show a.eval (.tmp 33) = _ from d22, show a.eval (.tmp 37) = _ from e]; rfl) (enter_is _ _)) ((is15_any ⟨4, 2, []⟩ 20 (some ⟨g, 0, none⟩) 3 [⟨3, 0, [120]⟩, ⟨1, 10000, []⟩, ⟨1, 29000, []⟩] w mx (hm.kept hk) rw (smalls (by decide)) (by simp) (by simp) (by rfl)).mono fun _ _ ⟨he, hk⟩ => ⟨_, he, rfl, hk⟩)
    | 28, ho =>
      cases ho
      have d21 := dep (W := fun j => V15 j (At _ a j) w) hd 21 rfl
      have d27 := dep (W := fun j => V15 j (At _ a j) w) hd 27 rfl
      exact stepT_value (wants_none rfl) (run_pickT (x := .tmp 38) rfl (show a.eval (.tmp 32) = .bool true from d21)) (show a.eval (.tmp 38) = .bool true from d27) (Kept.refl w)
    | 29, ho =>
      cases ho
      have d28 := dep (W := fun j => V15 j (At _ a j) w) hd 28 rfl
      exact stepT_value (wants_none rfl) (run_move (by first | exact Or.inl rfl | exact Or.inr rfl)) (show a.eval (.tmp 39) = .bool true from d28) (Kept.refl w)
    | 30, ho =>
      cases ho
      have d29 := dep (W := fun j => V15 j (At _ a j) w) hd 29 rfl
      exact stepT_enter (wants_some (j := 29) (b := true) rfl d29) (run_call rfl (args := #[.bool true]) (by simp [Act.eval]) (enter_truth _ _)) ((truth15_any true w).mono fun _ _ ⟨he, hk⟩ => ⟨_, he, rfl, hk⟩)
    | 31, ho =>
      cases ho
      have d29 := dep (W := fun j => V15 j (At _ a j) w) hd 29 rfl
      exact stepT_enter (wants_some (j := 29) (b := true) rfl d29) (run_call rfl (args := #[.bool true]) (by simp [Act.eval]) (enter_truth _ _)) ((truth15_any true w).mono fun _ _ ⟨he, hk⟩ => ⟨_, he, rfl, hk⟩)
    | 32, ho =>
      cases ho
      have d29 := dep (W := fun j => V15 j (At _ a j) w) hd 29 rfl
      exact stepT_value (wants_some (j := 29) (b := true) rfl d29) (run_load3 (a := a) rfl rfl f1 (hb.B0.kept hk)) rfl (Kept.refl w)
    | 33, ho =>
      cases ho
      have d29 := dep (W := fun j => V15 j (At _ a j) w) hd 29 rfl
      exact stepT_value (wants_some (j := 29) (b := true) rfl d29) (v := .agg #[.int .u8 3, .int .i64 0, .string ⟨#[116, 114, 117, 101]⟩]) (by unfold execOp; go_simp) rfl (Kept.refl w)
    | 34, ho =>
      cases ho
      have d29 := dep (W := fun j => V15 j (At _ a j) w) hd 29 rfl
      have d31 := dep (W := fun j => V15 j (At _ a j) w) hd 31 rfl
      have d32 := dep (W := fun j => V15 j (At _ a j) w) hd 32 rfl
      have d33 := dep (W := fun j => V15 j (At _ a j) w) hd 33 rfl
      exact stepT_value (wants_some (j := 29) (b := true) rfl d29) (run_row3 rfl rfl (show a.eval (.tmp 42) = aggV ⟨2, 1, []⟩ from d31) (show a.eval (.tmp 43) = aggV ⟨1, 10000, []⟩ from d32) (show a.eval (.tmp 44) = aggV ⟨3, 0, [116, 114, 117, 101]⟩ from d33)) (RowIs.made [⟨2, 1, []⟩, ⟨1, 10000, []⟩, ⟨3, 0, [116, 114, 117, 101]⟩] w) (Kept.alloc (Kept.refl w) _)
    | 35, ho =>
      cases ho
      have d29 := dep (W := fun j => V15 j (At _ a j) w) hd 29 rfl
      have d30 := dep (W := fun j => V15 j (At _ a j) w) hd 30 rfl
      have d34 := dep (W := fun j => V15 j (At _ a j) w) hd 34 rfl
      obtain ⟨g, e, rw⟩ := d34
      exact stepT_enter (wants_some (j := 29) (b := true) rfl d29) (run_call rfl (args := #[aggV ⟨2, 1, []⟩, .int .u8 21, .slice (some ⟨g, 0, none⟩) 3 3]) (by simp only [List.map_toArray, List.map_cons, List.map_nil]; rw [show a.eval (.tmp 41) = _ from d30, show a.eval (.tmp 45) = _ from e]; rfl) (enter_is _ _)) ((is15_any ⟨2, 1, []⟩ 21 (some ⟨g, 0, none⟩) 3 [⟨2, 1, []⟩, ⟨1, 10000, []⟩, ⟨3, 0, [116, 114, 117, 101]⟩] w mx (hm.kept hk) rw (smalls (by decide)) (by simp) (by simp) (by rfl)).mono fun _ _ ⟨he, hk⟩ => ⟨_, he, rfl, hk⟩)
    | 36, ho =>
      cases ho
      have d29 := dep (W := fun j => V15 j (At _ a j) w) hd 29 rfl
      have d35 := dep (W := fun j => V15 j (At _ a j) w) hd 35 rfl
      exact stepT_value (wants_none rfl) (run_pickT (x := .tmp 46) rfl (show a.eval (.tmp 40) = .bool true from d29)) (show a.eval (.tmp 46) = .bool true from d35) (Kept.refl w)
    | 37, ho =>
      cases ho
      have d36 := dep (W := fun j => V15 j (At _ a j) w) hd 36 rfl
      exact stepT_value (wants_none rfl) (run_move (by first | exact Or.inl rfl | exact Or.inr rfl)) (show a.eval (.tmp 47) = .bool true from d36) (Kept.refl w)
    | 38, ho =>
      cases ho
      have d37 := dep (W := fun j => V15 j (At _ a j) w) hd 37 rfl
      exact stepT_enter (wants_some (j := 37) (b := true) rfl d37) (run_call rfl (args := #[.bool true]) (by simp [Act.eval]) (enter_truth _ _)) ((truth15_any true w).mono fun _ _ ⟨he, hk⟩ => ⟨_, he, rfl, hk⟩)
    | 39, ho =>
      cases ho
      have d37 := dep (W := fun j => V15 j (At _ a j) w) hd 37 rfl
      exact stepT_value (wants_some (j := 37) (b := true) rfl d37) (run_load3 (a := a) rfl rfl f1 (hb.B0.kept hk)) rfl (Kept.refl w)
    | 40, ho =>
      cases ho
      have d37 := dep (W := fun j => V15 j (At _ a j) w) hd 37 rfl
      exact stepT_value (wants_some (j := 37) (b := true) rfl d37) (run_load3 (a := a) rfl rfl f1 (hb.B0.kept hk)) rfl (Kept.refl w)
    | 41, ho =>
      cases ho
      have d37 := dep (W := fun j => V15 j (At _ a j) w) hd 37 rfl
      exact stepT_value (wants_some (j := 37) (b := true) rfl d37) (run_load3 (a := a) rfl rfl f1 (hb.B0.kept hk)) rfl (Kept.refl w)
    | 42, ho =>
      cases ho
      have d37 := dep (W := fun j => V15 j (At _ a j) w) hd 37 rfl
      have d39 := dep (W := fun j => V15 j (At _ a j) w) hd 39 rfl
      have d40 := dep (W := fun j => V15 j (At _ a j) w) hd 40 rfl
      have d41 := dep (W := fun j => V15 j (At _ a j) w) hd 41 rfl
      exact stepT_value (wants_some (j := 37) (b := true) rfl d37) (run_row3 rfl rfl (show a.eval (.tmp 50) = aggV ⟨1, 10000, []⟩ from d39) (show a.eval (.tmp 51) = aggV ⟨1, 10000, []⟩ from d40) (show a.eval (.tmp 52) = aggV ⟨1, 10000, []⟩ from d41)) (RowIs.made [⟨1, 10000, []⟩, ⟨1, 10000, []⟩, ⟨1, 10000, []⟩] w) (Kept.alloc (Kept.refl w) _)
    | 43, ho =>
      cases ho
      have d37 := dep (W := fun j => V15 j (At _ a j) w) hd 37 rfl
      have d38 := dep (W := fun j => V15 j (At _ a j) w) hd 38 rfl
      have d42 := dep (W := fun j => V15 j (At _ a j) w) hd 42 rfl
      obtain ⟨g, e, rw⟩ := d42
      exact stepT_enter (wants_some (j := 37) (b := true) rfl d37) (run_call rfl (args := #[aggV ⟨2, 1, []⟩, .int .u8 23, .slice (some ⟨g, 0, none⟩) 3 3]) (by simp only [List.map_toArray, List.map_cons, List.map_nil]; rw [show a.eval (.tmp 49) = _ from d38, show a.eval (.tmp 53) = _ from e]; rfl) (enter_is _ _)) ((is15_any ⟨2, 1, []⟩ 23 (some ⟨g, 0, none⟩) 3 [⟨1, 10000, []⟩, ⟨1, 10000, []⟩, ⟨1, 10000, []⟩] w mx (hm.kept hk) rw (smalls (by decide)) (by simp) (by simp) (by rfl)).mono fun _ _ ⟨he, hk⟩ => ⟨_, he, rfl, hk⟩)
    | 44, ho =>
      cases ho
      have d37 := dep (W := fun j => V15 j (At _ a j) w) hd 37 rfl
      have d43 := dep (W := fun j => V15 j (At _ a j) w) hd 43 rfl
      exact stepT_value (wants_none rfl) (run_pickT (x := .tmp 54) rfl (show a.eval (.tmp 48) = .bool true from d37)) (show a.eval (.tmp 54) = .bool true from d43) (Kept.refl w)
    | 45, ho =>
      cases ho
      have d44 := dep (W := fun j => V15 j (At _ a j) w) hd 44 rfl
      exact stepT_value (wants_none rfl) (run_move (by first | exact Or.inl rfl | exact Or.inr rfl)) (show a.eval (.tmp 55) = .bool true from d44) (Kept.refl w)
    | 46, ho =>
      cases ho
      have d45 := dep (W := fun j => V15 j (At _ a j) w) hd 45 rfl
      exact stepT_value (wants_some (j := 45) (b := true) rfl d45) (run_load3 (a := a) rfl rfl f4 (hb.B3.kept hk)) rfl (Kept.refl w)
    | 47, ho =>
      cases ho
      have d45 := dep (W := fun j => V15 j (At _ a j) w) hd 45 rfl
      exact stepT_enter (wants_some (j := 45) (b := true) rfl d45) (run_call rfl (args := #[.bool false]) (by simp [Act.eval]) (enter_truth _ _)) ((truth15_any false w).mono fun _ _ ⟨he, hk⟩ => ⟨_, he, rfl, hk⟩)
    | 48, ho =>
      cases ho
      have d45 := dep (W := fun j => V15 j (At _ a j) w) hd 45 rfl
      exact stepT_value (wants_some (j := 45) (b := true) rfl d45) (run_load3 (a := a) rfl rfl f4 (hb.B3.kept hk)) rfl (Kept.refl w)
    | 49, ho =>
      cases ho
      have d45 := dep (W := fun j => V15 j (At _ a j) w) hd 45 rfl
      have d47 := dep (W := fun j => V15 j (At _ a j) w) hd 47 rfl
      have d48 := dep (W := fun j => V15 j (At _ a j) w) hd 48 rfl
      exact stepT_value (wants_some (j := 45) (b := true) rfl d45) (run_row2 rfl rfl (show a.eval (.tmp 58) = aggV ⟨2, 0, []⟩ from d47) (show a.eval (.tmp 59) = aggV ⟨4, 4, []⟩ from d48)) (RowIs.made [⟨2, 0, []⟩, ⟨4, 4, []⟩] w) (Kept.alloc (Kept.refl w) _)
    | 50, ho =>
      cases ho
      have d45 := dep (W := fun j => V15 j (At _ a j) w) hd 45 rfl
      have d46 := dep (W := fun j => V15 j (At _ a j) w) hd 46 rfl
      have d49 := dep (W := fun j => V15 j (At _ a j) w) hd 49 rfl
      obtain ⟨g, e, rw⟩ := d49
      exact stepT_enter (wants_some (j := 45) (b := true) rfl d45) (run_call rfl (args := #[aggV ⟨4, 4, []⟩, .int .u8 21, .slice (some ⟨g, 0, none⟩) 2 2]) (by simp only [List.map_toArray, List.map_cons, List.map_nil]; rw [show a.eval (.tmp 57) = _ from d46, show a.eval (.tmp 60) = _ from e]; rfl) (enter_is _ _)) ((is15_any ⟨4, 4, []⟩ 21 (some ⟨g, 0, none⟩) 2 [⟨2, 0, []⟩, ⟨4, 4, []⟩] w mx (hm.kept hk) rw (smalls (by decide)) (by simp) (by simp) (by rfl)).mono fun _ _ ⟨he, hk⟩ => ⟨_, he, rfl, hk⟩)
    | 51, ho =>
      cases ho
      have d45 := dep (W := fun j => V15 j (At _ a j) w) hd 45 rfl
      have d50 := dep (W := fun j => V15 j (At _ a j) w) hd 50 rfl
      exact stepT_value (wants_none rfl) (run_pickT (x := .tmp 61) rfl (show a.eval (.tmp 56) = .bool true from d45)) (show a.eval (.tmp 61) = .bool true from d50) (Kept.refl w)
    | 52, ho =>
      cases ho
      have d51 := dep (W := fun j => V15 j (At _ a j) w) hd 51 rfl
      exact stepT_value (wants_none rfl) (run_move (by first | exact Or.inl rfl | exact Or.inr rfl)) (show a.eval (.tmp 62) = .bool true from d51) (Kept.refl w)
    | 53, ho =>
      cases ho
      have d52 := dep (W := fun j => V15 j (At _ a j) w) hd 52 rfl
      exact stepT_value (wants_some (j := 52) (b := true) rfl d52) (run_load3 (a := a) rfl rfl f1 (hb.B0.kept hk)) rfl (Kept.refl w)
    | 54, ho =>
      cases ho
      have d52 := dep (W := fun j => V15 j (At _ a j) w) hd 52 rfl
      exact stepT_value (wants_some (j := 52) (b := true) rfl d52) (run_load3 (a := a) rfl rfl f4 (hb.B3.kept hk)) rfl (Kept.refl w)
    | 55, ho =>
      cases ho
      have d52 := dep (W := fun j => V15 j (At _ a j) w) hd 52 rfl
      exact stepT_value (wants_some (j := 52) (b := true) rfl d52) (run_load3 (a := a) rfl rfl f1 (hb.B0.kept hk)) rfl (Kept.refl w)
    | 56, ho =>
      cases ho
      have d52 := dep (W := fun j => V15 j (At _ a j) w) hd 52 rfl
      have d54 := dep (W := fun j => V15 j (At _ a j) w) hd 54 rfl
      have d55 := dep (W := fun j => V15 j (At _ a j) w) hd 55 rfl
      exact stepT_value (wants_some (j := 52) (b := true) rfl d52) (run_row2 rfl rfl (show a.eval (.tmp 65) = aggV ⟨4, 4, []⟩ from d54) (show a.eval (.tmp 66) = aggV ⟨1, 10000, []⟩ from d55)) (RowIs.made [⟨4, 4, []⟩, ⟨1, 10000, []⟩] w) (Kept.alloc (Kept.refl w) _)
    | 57, ho =>
      cases ho
      have d52 := dep (W := fun j => V15 j (At _ a j) w) hd 52 rfl
      have d53 := dep (W := fun j => V15 j (At _ a j) w) hd 53 rfl
      have d56 := dep (W := fun j => V15 j (At _ a j) w) hd 56 rfl
      obtain ⟨g, e, rw⟩ := d56
      exact stepT_enter (wants_some (j := 52) (b := true) rfl d52) (run_call rfl (args := #[aggV ⟨1, 10000, []⟩, .int .u8 25, .slice (some ⟨g, 0, none⟩) 2 2]) (by simp only [List.map_toArray, List.map_cons, List.map_nil]; rw [show a.eval (.tmp 64) = _ from d53, show a.eval (.tmp 67) = _ from e]; rfl) (enter_is _ _)) ((is15_any ⟨1, 10000, []⟩ 25 (some ⟨g, 0, none⟩) 2 [⟨4, 4, []⟩, ⟨1, 10000, []⟩] w mx (hm.kept hk) rw (smalls (by decide)) (by simp) (by simp) (by rfl)).mono fun _ _ ⟨he, hk⟩ => ⟨_, he, rfl, hk⟩)
    | 58, ho =>
      cases ho
      have d52 := dep (W := fun j => V15 j (At _ a j) w) hd 52 rfl
      have d57 := dep (W := fun j => V15 j (At _ a j) w) hd 57 rfl
      exact stepT_value (wants_none rfl) (run_pickT (x := .tmp 68) rfl (show a.eval (.tmp 63) = .bool true from d52)) (show a.eval (.tmp 68) = .bool true from d57) (Kept.refl w)
    | 59, ho =>
      cases ho
      have d58 := dep (W := fun j => V15 j (At _ a j) w) hd 58 rfl
      exact stepT_value (wants_none rfl) (run_move (by first | exact Or.inl rfl | exact Or.inr rfl)) (show a.eval (.tmp 69) = .bool true from d58) (Kept.refl w)
    | 60, ho =>
      cases ho
      have d59 := dep (W := fun j => V15 j (At _ a j) w) hd 59 rfl
      exact stepT_value (wants_some (j := 59) (b := true) rfl d59) (run_load3 (a := a) rfl rfl f1 (hb.B0.kept hk)) rfl (Kept.refl w)
    | 61, ho =>
      cases ho
      have d59 := dep (W := fun j => V15 j (At _ a j) w) hd 59 rfl
      exact stepT_value (wants_some (j := 59) (b := true) rfl d59) (run_load3 (a := a) rfl rfl f1 (hb.B0.kept hk)) rfl (Kept.refl w)
    | 62, ho =>
      cases ho
      have d59 := dep (W := fun j => V15 j (At _ a j) w) hd 59 rfl
      exact stepT_value (wants_some (j := 59) (b := true) rfl d59) (run_load3 (a := a) rfl rfl f4 (hb.B3.kept hk)) rfl (Kept.refl w)
    | 63, ho =>
      cases ho
      have d59 := dep (W := fun j => V15 j (At _ a j) w) hd 59 rfl
      have d61 := dep (W := fun j => V15 j (At _ a j) w) hd 61 rfl
      have d62 := dep (W := fun j => V15 j (At _ a j) w) hd 62 rfl
      exact stepT_value (wants_some (j := 59) (b := true) rfl d59) (run_row2 rfl rfl (show a.eval (.tmp 72) = aggV ⟨1, 10000, []⟩ from d61) (show a.eval (.tmp 73) = aggV ⟨4, 4, []⟩ from d62)) (RowIs.made [⟨1, 10000, []⟩, ⟨4, 4, []⟩] w) (Kept.alloc (Kept.refl w) _)
    | 64, ho =>
      cases ho
      have d59 := dep (W := fun j => V15 j (At _ a j) w) hd 59 rfl
      have d60 := dep (W := fun j => V15 j (At _ a j) w) hd 60 rfl
      have d63 := dep (W := fun j => V15 j (At _ a j) w) hd 63 rfl
      obtain ⟨g, e, rw⟩ := d63
      exact stepT_enter (wants_some (j := 59) (b := true) rfl d59) (run_call rfl (args := #[aggV ⟨1, 10000, []⟩, .int .u8 25, .slice (some ⟨g, 0, none⟩) 2 2]) (by simp only [List.map_toArray, List.map_cons, List.map_nil]; rw [show a.eval (.tmp 71) = _ from d60, show a.eval (.tmp 74) = _ from e]; rfl) (enter_is _ _)) ((is15_any ⟨1, 10000, []⟩ 25 (some ⟨g, 0, none⟩) 2 [⟨1, 10000, []⟩, ⟨4, 4, []⟩] w mx (hm.kept hk) rw (smalls (by decide)) (by simp) (by simp) (by rfl)).mono fun _ _ ⟨he, hk⟩ => ⟨_, he, rfl, hk⟩)
    | 65, ho =>
      cases ho
      have d59 := dep (W := fun j => V15 j (At _ a j) w) hd 59 rfl
      have d64 := dep (W := fun j => V15 j (At _ a j) w) hd 64 rfl
      exact stepT_value (wants_none rfl) (run_pickT (x := .tmp 75) rfl (show a.eval (.tmp 70) = .bool true from d59)) (show a.eval (.tmp 75) = .bool true from d64) (Kept.refl w)
    | 66, ho =>
      cases ho
      have d65 := dep (W := fun j => V15 j (At _ a j) w) hd 65 rfl
      exact stepT_value (wants_none rfl) (run_move (by first | exact Or.inl rfl | exact Or.inr rfl)) (show a.eval (.tmp 76) = .bool true from d65) (Kept.refl w)
    | 67, ho =>
      cases ho
      have d66 := dep (W := fun j => V15 j (At _ a j) w) hd 66 rfl
      exact stepT_enter (wants_some (j := 66) (b := true) rfl d66) (run_call rfl (args := #[.bool true]) (by simp [Act.eval]) (enter_truth _ _)) ((truth15_any true w).mono fun _ _ ⟨he, hk⟩ => ⟨_, he, rfl, hk⟩)
    | 68, ho =>
      cases ho
      have d66 := dep (W := fun j => V15 j (At _ a j) w) hd 66 rfl
      exact stepT_value (wants_some (j := 66) (b := true) rfl d66) (run_load3 (a := a) rfl rfl f4 (hb.B3.kept hk)) rfl (Kept.refl w)
    | 69, ho =>
      cases ho
      have d66 := dep (W := fun j => V15 j (At _ a j) w) hd 66 rfl
      have d68 := dep (W := fun j => V15 j (At _ a j) w) hd 68 rfl
      exact stepT_value (wants_some (j := 66) (b := true) rfl d66) (run_row1 rfl rfl (show a.eval (.tmp 79) = aggV ⟨4, 4, []⟩ from d68)) (RowIs.made [⟨4, 4, []⟩] w) (Kept.alloc (Kept.refl w) _)
    | 70, ho =>
      cases ho
      have d66 := dep (W := fun j => V15 j (At _ a j) w) hd 66 rfl
      have d67 := dep (W := fun j => V15 j (At _ a j) w) hd 67 rfl
      have d69 := dep (W := fun j => V15 j (At _ a j) w) hd 69 rfl
      obtain ⟨g, e, rw⟩ := d69
      exact stepT_enter (wants_some (j := 66) (b := true) rfl d66) (run_call rfl (args := #[aggV ⟨2, 1, []⟩, .int .u8 26, .slice (some ⟨g, 0, none⟩) 1 1]) (by simp only [List.map_toArray, List.map_cons, List.map_nil]; rw [show a.eval (.tmp 78) = _ from d67, show a.eval (.tmp 80) = _ from e]; rfl) (enter_is _ _)) ((is15_any ⟨2, 1, []⟩ 26 (some ⟨g, 0, none⟩) 1 [⟨4, 4, []⟩] w mx (hm.kept hk) rw (smalls (by decide)) (by simp) (by simp) (by rfl)).mono fun _ _ ⟨he, hk⟩ => ⟨_, he, rfl, hk⟩)
    | 71, ho =>
      cases ho
      have d66 := dep (W := fun j => V15 j (At _ a j) w) hd 66 rfl
      have d70 := dep (W := fun j => V15 j (At _ a j) w) hd 70 rfl
      exact stepT_value (wants_none rfl) (run_pickT (x := .tmp 81) rfl (show a.eval (.tmp 77) = .bool true from d66)) (show a.eval (.tmp 81) = .bool true from d70) (Kept.refl w)
    | 72, ho =>
      cases ho
      have d71 := dep (W := fun j => V15 j (At _ a j) w) hd 71 rfl
      exact stepT_value (wants_none rfl) (run_move (by first | exact Or.inl rfl | exact Or.inr rfl)) (show a.eval (.tmp 82) = .bool true from d71) (Kept.refl w)
    | 73, ho =>
      cases ho
      have d72 := dep (W := fun j => V15 j (At _ a j) w) hd 72 rfl
      exact stepT_value (wants_some (j := 72) (b := true) rfl d72) (run_load3 (a := a) rfl rfl f4 (hb.B3.kept hk)) rfl (Kept.refl w)
    | 74, ho =>
      cases ho
      have d72 := dep (W := fun j => V15 j (At _ a j) w) hd 72 rfl
      exact stepT_value (wants_some (j := 72) (b := true) rfl d72) (run_load3 (a := a) rfl rfl f4 (hb.B3.kept hk)) rfl (Kept.refl w)
    | 75, ho =>
      cases ho
      have d72 := dep (W := fun j => V15 j (At _ a j) w) hd 72 rfl
      have d74 := dep (W := fun j => V15 j (At _ a j) w) hd 74 rfl
      exact stepT_value (wants_some (j := 72) (b := true) rfl d72) (run_row1 rfl rfl (show a.eval (.tmp 85) = aggV ⟨4, 4, []⟩ from d74)) (RowIs.made [⟨4, 4, []⟩] w) (Kept.alloc (Kept.refl w) _)
    | 76, ho =>
      cases ho
      have d72 := dep (W := fun j => V15 j (At _ a j) w) hd 72 rfl
      have d73 := dep (W := fun j => V15 j (At _ a j) w) hd 73 rfl
      have d75 := dep (W := fun j => V15 j (At _ a j) w) hd 75 rfl
      obtain ⟨g, e, rw⟩ := d75
      exact stepT_enter (wants_some (j := 72) (b := true) rfl d72) (run_call rfl (args := #[aggV ⟨4, 4, []⟩, .int .u8 27, .slice (some ⟨g, 0, none⟩) 1 1]) (by simp only [List.map_toArray, List.map_cons, List.map_nil]; rw [show a.eval (.tmp 84) = _ from d73, show a.eval (.tmp 86) = _ from e]; rfl) (enter_is _ _)) ((is15_any ⟨4, 4, []⟩ 27 (some ⟨g, 0, none⟩) 1 [⟨4, 4, []⟩] w mx (hm.kept hk) rw (smalls (by decide)) (by simp) (by simp) (by rfl)).mono fun _ _ ⟨he, hk⟩ => ⟨_, he, rfl, hk⟩)
    | 77, ho =>
      cases ho
      have d72 := dep (W := fun j => V15 j (At _ a j) w) hd 72 rfl
      have d76 := dep (W := fun j => V15 j (At _ a j) w) hd 76 rfl
      exact stepT_value (wants_none rfl) (run_pickT (x := .tmp 87) rfl (show a.eval (.tmp 83) = .bool true from d72)) (show a.eval (.tmp 87) = .bool true from d76) (Kept.refl w)
    | 78, ho =>
      cases ho
      have d77 := dep (W := fun j => V15 j (At _ a j) w) hd 77 rfl
      exact stepT_value (wants_none rfl) (run_move (by first | exact Or.inl rfl | exact Or.inr rfl)) (show a.eval (.tmp 88) = .bool true from d77) (Kept.refl w)
    | 79, ho =>
      cases ho
      have d78 := dep (W := fun j => V15 j (At _ a j) w) hd 78 rfl
      exact stepT_value (wants_some (j := 78) (b := true) rfl d78) (run_load3 (a := a) rfl rfl f3 (hb.B2.kept hk)) rfl (Kept.refl w)
    | 80, ho =>
      cases ho
      have d78 := dep (W := fun j => V15 j (At _ a j) w) hd 78 rfl
      exact stepT_value (wants_some (j := 78) (b := true) rfl d78) (run_load3 (a := a) rfl rfl f2 (hb.B1.kept hk)) rfl (Kept.refl w)
    | 81, ho =>
      cases ho
      have d78 := dep (W := fun j => V15 j (At _ a j) w) hd 78 rfl
      exact stepT_value (wants_some (j := 78) (b := true) rfl d78) (run_load3 (a := a) rfl rfl f1 (hb.B0.kept hk)) rfl (Kept.refl w)
    | 82, ho =>
      cases ho
      have d78 := dep (W := fun j => V15 j (At _ a j) w) hd 78 rfl
      exact stepT_value (wants_some (j := 78) (b := true) rfl d78) (run_load3 (a := a) rfl rfl f3 (hb.B2.kept hk)) rfl (Kept.refl w)
    | 83, ho =>
      cases ho
      have d78 := dep (W := fun j => V15 j (At _ a j) w) hd 78 rfl
      have d80 := dep (W := fun j => V15 j (At _ a j) w) hd 80 rfl
      have d81 := dep (W := fun j => V15 j (At _ a j) w) hd 81 rfl
      have d82 := dep (W := fun j => V15 j (At _ a j) w) hd 82 rfl
      exact stepT_value (wants_some (j := 78) (b := true) rfl d78) (run_row3 rfl rfl (show a.eval (.tmp 91) = aggV ⟨1, 29000, []⟩ from d80) (show a.eval (.tmp 92) = aggV ⟨1, 10000, []⟩ from d81) (show a.eval (.tmp 93) = aggV ⟨3, 0, [120]⟩ from d82)) (RowIs.made [⟨1, 29000, []⟩, ⟨1, 10000, []⟩, ⟨3, 0, [120]⟩] w) (Kept.alloc (Kept.refl w) _)
    | 84, ho =>
      cases ho
      have d78 := dep (W := fun j => V15 j (At _ a j) w) hd 78 rfl
      have d79 := dep (W := fun j => V15 j (At _ a j) w) hd 79 rfl
      have d83 := dep (W := fun j => V15 j (At _ a j) w) hd 83 rfl
      obtain ⟨g, e, rw⟩ := d83
      exact stepT_enter (wants_some (j := 78) (b := true) rfl d78) (run_call rfl (args := #[aggV ⟨3, 0, [120]⟩, .int .u8 30, .slice (some ⟨g, 0, none⟩) 3 3]) (by simp only [List.map_toArray, List.map_cons, List.map_nil]; rw [show a.eval (.tmp 90) = _ from d79, show a.eval (.tmp 94) = _ from e]; rfl) (enter_is _ _)) ((is15_any ⟨3, 0, [120]⟩ 30 (some ⟨g, 0, none⟩) 3 [⟨1, 29000, []⟩, ⟨1, 10000, []⟩, ⟨3, 0, [120]⟩] w mx (hm.kept hk) rw (smalls (by decide)) (by simp) (by simp) (by rfl)).mono fun _ _ ⟨he, hk⟩ => ⟨_, he, rfl, hk⟩)
    | 85, ho =>
      cases ho
      have d78 := dep (W := fun j => V15 j (At _ a j) w) hd 78 rfl
      have d84 := dep (W := fun j => V15 j (At _ a j) w) hd 84 rfl
      exact stepT_value (wants_none rfl) (run_pickT (x := .tmp 95) rfl (show a.eval (.tmp 89) = .bool true from d78)) (show a.eval (.tmp 95) = .bool true from d84) (Kept.refl w)
    | 86, ho =>
      cases ho
      have d85 := dep (W := fun j => V15 j (At _ a j) w) hd 85 rfl
      exact stepT_value (wants_none rfl) (run_move (by first | exact Or.inl rfl | exact Or.inr rfl)) (show a.eval (.tmp 96) = .bool true from d85) (Kept.refl w)
    | 87, ho =>
      cases ho
      have d86 := dep (W := fun j => V15 j (At _ a j) w) hd 86 rfl
      exact stepT_value (wants_some (j := 86) (b := true) rfl d86) (run_load3 (a := a) rfl rfl f5 (hb.B4.kept hk)) rfl (Kept.refl w)
    | 88, ho =>
      cases ho
      have d86 := dep (W := fun j => V15 j (At _ a j) w) hd 86 rfl
      exact stepT_value (wants_some (j := 86) (b := true) rfl d86) (v := .agg #[.int .u8 1, .int .i64 30000, .string ⟨#[]⟩]) (by unfold execOp; go_simp) rfl (Kept.refl w)
    | 89, ho =>
      cases ho
      have d86 := dep (W := fun j => V15 j (At _ a j) w) hd 86 rfl
      exact stepT_value (wants_some (j := 86) (b := true) rfl d86) (run_load3 (a := a) rfl rfl f1 (hb.B0.kept hk)) rfl (Kept.refl w)
    | 90, ho =>
      cases ho
      have d86 := dep (W := fun j => V15 j (At _ a j) w) hd 86 rfl
      exact stepT_value (wants_some (j := 86) (b := true) rfl d86) (run_load3 (a := a) rfl rfl f3 (hb.B2.kept hk)) rfl (Kept.refl w)
    | 91, ho =>
      cases ho
      have d86 := dep (W := fun j => V15 j (At _ a j) w) hd 86 rfl
      have d88 := dep (W := fun j => V15 j (At _ a j) w) hd 88 rfl
      have d89 := dep (W := fun j => V15 j (At _ a j) w) hd 89 rfl
      have d90 := dep (W := fun j => V15 j (At _ a j) w) hd 90 rfl
      exact stepT_value (wants_some (j := 86) (b := true) rfl d86) (run_row3 rfl rfl (show a.eval (.tmp 99) = aggV ⟨1, 30000, []⟩ from d88) (show a.eval (.tmp 100) = aggV ⟨1, 10000, []⟩ from d89) (show a.eval (.tmp 101) = aggV ⟨3, 0, [120]⟩ from d90)) (RowIs.made [⟨1, 30000, []⟩, ⟨1, 10000, []⟩, ⟨3, 0, [120]⟩] w) (Kept.alloc (Kept.refl w) _)
    | 92, ho =>
      cases ho
      have d86 := dep (W := fun j => V15 j (At _ a j) w) hd 86 rfl
      have d87 := dep (W := fun j => V15 j (At _ a j) w) hd 87 rfl
      have d91 := dep (W := fun j => V15 j (At _ a j) w) hd 91 rfl
      obtain ⟨g, e, rw⟩ := d91
      exact stepT_enter (wants_some (j := 86) (b := true) rfl d86) (run_call rfl (args := #[aggV ⟨4, 2, []⟩, .int .u8 30, .slice (some ⟨g, 0, none⟩) 3 3]) (by simp only [List.map_toArray, List.map_cons, List.map_nil]; rw [show a.eval (.tmp 98) = _ from d87, show a.eval (.tmp 102) = _ from e]; rfl) (enter_is _ _)) ((is15_any ⟨4, 2, []⟩ 30 (some ⟨g, 0, none⟩) 3 [⟨1, 30000, []⟩, ⟨1, 10000, []⟩, ⟨3, 0, [120]⟩] w mx (hm.kept hk) rw (smalls (by decide)) (by simp) (by simp) (by rfl)).mono fun _ _ ⟨he, hk⟩ => ⟨_, he, rfl, hk⟩)
    | 93, ho =>
      cases ho
      have d86 := dep (W := fun j => V15 j (At _ a j) w) hd 86 rfl
      have d92 := dep (W := fun j => V15 j (At _ a j) w) hd 92 rfl
      exact stepT_value (wants_none rfl) (run_pickT (x := .tmp 103) rfl (show a.eval (.tmp 97) = .bool true from d86)) (show a.eval (.tmp 103) = .bool true from d92) (Kept.refl w)
    | 94, ho =>
      cases ho
      have d93 := dep (W := fun j => V15 j (At _ a j) w) hd 93 rfl
      exact stepT_value (wants_none rfl) (run_move (by first | exact Or.inl rfl | exact Or.inr rfl)) (show a.eval (.tmp 104) = .bool true from d93) (Kept.refl w)
    | 95, ho =>
      cases ho
      have d94 := dep (W := fun j => V15 j (At _ a j) w) hd 94 rfl
      exact stepT_value (wants_some (j := 94) (b := true) rfl d94) (run_load3 (a := a) rfl rfl f4 (hb.B3.kept hk)) rfl (Kept.refl w)
    | 96, ho =>
      cases ho
      have d94 := dep (W := fun j => V15 j (At _ a j) w) hd 94 rfl
      exact stepT_value (wants_some (j := 94) (b := true) rfl d94) (run_load3 (a := a) rfl rfl f1 (hb.B0.kept hk)) rfl (Kept.refl w)
    | 97, ho =>
      cases ho
      have d94 := dep (W := fun j => V15 j (At _ a j) w) hd 94 rfl
      exact stepT_value (wants_some (j := 94) (b := true) rfl d94) (run_load3 (a := a) rfl rfl f3 (hb.B2.kept hk)) rfl (Kept.refl w)
    | 98, ho =>
      cases ho
      have d94 := dep (W := fun j => V15 j (At _ a j) w) hd 94 rfl
      exact stepT_value (wants_some (j := 94) (b := true) rfl d94) (run_load3 (a := a) rfl rfl f4 (hb.B3.kept hk)) rfl (Kept.refl w)
    | 99, ho =>
      cases ho
      have d94 := dep (W := fun j => V15 j (At _ a j) w) hd 94 rfl
      have d96 := dep (W := fun j => V15 j (At _ a j) w) hd 96 rfl
      have d97 := dep (W := fun j => V15 j (At _ a j) w) hd 97 rfl
      have d98 := dep (W := fun j => V15 j (At _ a j) w) hd 98 rfl
      exact stepT_value (wants_some (j := 94) (b := true) rfl d94) (run_row3 rfl rfl (show a.eval (.tmp 107) = aggV ⟨1, 10000, []⟩ from d96) (show a.eval (.tmp 108) = aggV ⟨3, 0, [120]⟩ from d97) (show a.eval (.tmp 109) = aggV ⟨4, 4, []⟩ from d98)) (RowIs.made [⟨1, 10000, []⟩, ⟨3, 0, [120]⟩, ⟨4, 4, []⟩] w) (Kept.alloc (Kept.refl w) _)
    | 100, ho =>
      cases ho
      have d94 := dep (W := fun j => V15 j (At _ a j) w) hd 94 rfl
      have d95 := dep (W := fun j => V15 j (At _ a j) w) hd 95 rfl
      have d99 := dep (W := fun j => V15 j (At _ a j) w) hd 99 rfl
      obtain ⟨g, e, rw⟩ := d99
      exact stepT_enter (wants_some (j := 94) (b := true) rfl d94) (run_call rfl (args := #[aggV ⟨4, 4, []⟩, .int .u8 30, .slice (some ⟨g, 0, none⟩) 3 3]) (by simp only [List.map_toArray, List.map_cons, List.map_nil]; rw [show a.eval (.tmp 106) = _ from d95, show a.eval (.tmp 110) = _ from e]; rfl) (enter_is _ _)) ((is15_any ⟨4, 4, []⟩ 30 (some ⟨g, 0, none⟩) 3 [⟨1, 10000, []⟩, ⟨3, 0, [120]⟩, ⟨4, 4, []⟩] w mx (hm.kept hk) rw (smalls (by decide)) (by simp) (by simp) (by rfl)).mono fun _ _ ⟨he, hk⟩ => ⟨_, he, rfl, hk⟩)
    | 101, ho =>
      cases ho
      have d94 := dep (W := fun j => V15 j (At _ a j) w) hd 94 rfl
      have d100 := dep (W := fun j => V15 j (At _ a j) w) hd 100 rfl
      exact stepT_value (wants_none rfl) (run_pickT (x := .tmp 111) rfl (show a.eval (.tmp 105) = .bool true from d94)) (show a.eval (.tmp 111) = .bool true from d100) (Kept.refl w)
    | 102, ho =>
      cases ho
      have d101 := dep (W := fun j => V15 j (At _ a j) w) hd 101 rfl
      exact stepT_value (wants_none rfl) (run_move (by first | exact Or.inl rfl | exact Or.inr rfl)) (show a.eval (.tmp 112) = .bool true from d101) (Kept.refl w)
    | i + 103, ho => exact absurd (Array.getElem?_eq_some_iff.1 ho).1 (by show ¬ (i + 103 < 103); omega)
  · have h0 := hv 102 (by show 102 < 103; omega)
    go_wp2_with fail
    have e0 : a.tmps[0]?.getD undef = .bool true := by rw [← Array.getD_eq_getD_getElem?]; exact h0
    exact bodyPost_ret (v := .bool true) (by simp [results, Tryd.results47, go_sem, e0]) fr.defers ⟨rfl, hk5.trans hk⟩
end Go.Proofs.YtipkjpcedfokhaaDoor
