/- Small texts together: MLogic2, MGood, GFew, MFlogic, GLogic2, GLogic3, GLogic5, GLogic6, GGood, MNumLaw, MNumLaw2. -/
import Derived.Test.YtbpkfnoenkoabaaGreatDoorFfMixAL
import Derived.Test.YtbpkfnoenkoabaaGreatDoorFfMixAN
set_option linter.unusedVariables false
set_option linter.unusedSimpArgs false
namespace Go.Proofs.YtbpkfnoenkoabaaGreatDoor.Lv
open Go
end Go.Proofs.YtbpkfnoenkoabaaGreatDoor.Lv

namespace Go.Proofs.YtbpkfnoenkoabaaGreatDoor.Lv
open Go
def cut300 (v : Vl) : Vl := { v with t := v.t.take 300 }
def vGood (v : Vl) : Vl :=
  if vOk (cut300 v) = true then cut300 v
  else if v.k % 5 = 2 then vTruth (decide (Int.tmod v.n 2 ≠ 0))
  else if v.k % 5 = 3 then ⟨3, 0, [120]⟩
  else if v.k % 5 = 4 then vFail (1 + Int.tmod (Int.tmod v.n 5 + 5) 5)
  else if v.k % 5 = 0 then ⟨0, 0, []⟩
  else vMake (max v.n (-9223372036854775807))
theorem good_ok (v : Vl) : vOk (vGood v) = true := by
  unfold vGood
  split
  · assumption
  · split
    · exact truth_ok _
    · split
      · decide
      · split
        · refine fail_ok _ ?_
          have h1 := Int.tmod_lt_of_pos (Int.tmod v.n 5 + 5) (b := 5) (by omega)
          omega
        · split
          · rfl
          · exact make_ok _
theorem ok_short {v : Vl} (h : vOk v = true) : v.t.length ≤ 256 := by
  rcases ok_cases h with rfl | ⟨n, hn, rfl⟩ | rfl | rfl | ⟨t, ht, rfl⟩ | ⟨c, h1, h2, rfl⟩
  · simp
  · simp
  · simp [vTruth]
  · simp [vTruth]
  · unfold okT at ht; simp at ht; exact ht.1
  · simp
end Go.Proofs.YtbpkfnoenkoabaaGreatDoor.Lv

namespace Go.Proofs.YtbpkfnoenkoabaaGreatDoor
open Go.RowKit Lv
theorem OwnV.at_ {w : World} {base n cap : Nat} {A : Option Addr} {l : List Vl} (h : OwnV w base (.slice A n cap) l) {i : Nat} (hi : i < l.length) :
    ∃ g, A = some ⟨g, 0, none⟩ ∧ base ≤ g ∧ g < w.heap.size ∧ n = l.length ∧ n ≤ cap ∧ w.cell? ⟨g, i * 3, none⟩ = some (.int .u8 (l.getD i blankV).k) ∧ w.cell? ⟨g, i * 3 + 1, none⟩ = some (.int .i64 (l.getD i blankV).n) ∧ w.cell? ⟨g, i * 3 + 2, none⟩ = some (.string ⟨(l.getD i blankV).t.toArray⟩) ∧ ∀ o, w.frozen? ⟨g, o, none⟩ = false := by
  rcases h.2 with ⟨_, h0⟩ | ⟨g, cap', cur, e, hg, hh, h4, h5, h6, h7⟩
  · omega
  · cases e
    have hr := RowV.box (t := 25) (cs := cur) hh h7 i hi; obtain ⟨b, off, e, _, c0, c1, c2⟩ := hr
    cases e
    rw [Nat.zero_add] at c0 c1 c2; exact ⟨g, rfl, hg, (Array.getElem?_eq_some_iff.1 hh).1, rfl, h4, c0, c1, c2, fun o => Box.loose (t := 25) (cs := cur) hh o⟩
end Go.Proofs.YtbpkfnoenkoabaaGreatDoor

namespace Go.Proofs.YtbpkfnoenkoabaaGreatDoor.Lv
open Go
end Go.Proofs.YtbpkfnoenkoabaaGreatDoor.Lv

namespace Go.Proofs.YtbpkfnoenkoabaaGreatDoor
open Go.RowKit Lv
theorem Box.three {w : World} {p : Nat} {a : Vl} (h : Box w p 25 (cellsV a)) : p < w.heap.size ∧ w.cell? ⟨p, 0, none⟩ = some (.int .u8 a.k) ∧ w.cell? ⟨p, 1, none⟩ = some (.int .i64 a.n) ∧ w.cell? ⟨p, 2, none⟩ = some (.string ⟨a.t.toArray⟩) ∧ w.frozen? ⟨p, 0, none⟩ = false ∧ w.frozen? ⟨p, 1, none⟩ = false ∧ w.frozen? ⟨p, 2, none⟩ = false :=
  ⟨h.inside, h.cell 0, h.cell 1, h.cell 2, h.loose 0, h.loose 1, h.loose 2⟩
theorem Box.cells3 {w : World} {p : Nat} {T : TypeId} {a b c : Value} (h : Box w p T #[a, b, c]) : w.cell? ⟨p, 0, none⟩ = some a ∧ w.cell? ⟨p, 1, none⟩ = some b ∧ w.cell? ⟨p, 2, none⟩ = some c := ⟨h.cell 0, h.cell 1, h.cell 2⟩
end Go.Proofs.YtbpkfnoenkoabaaGreatDoor

namespace Go.Proofs.YtbpkfnoenkoabaaGreatDoor
open Go.RowKit Lv
theorem ret_world {P : Program} {f : Func} {R : Ending → World → Prop} {x : Exit} {a : Act} {W : World} (F : World → Prop) (hF : F W) (h : ∀ wf, F wf → bodyPost P f R x a wf) : bodyPost P f R x a W := h W hF
structure Tri (w : World) (p : Nat) (a b c : Vl) : Prop where
  A : Box w p 25 (cellsV a)
  B : Box w (p + 1) 25 (cellsV b)
  C : Box w (p + 1 + 1) 25 (cellsV c)
theorem Tri.kept {w w' : World} {p : Nat} {a b c : Vl} (h : Tri w p a b c) (k : Kept w w') : Tri w' p a b c := ⟨h.A.kept k, h.B.kept k, h.C.kept k⟩
theorem Tri.made (w : World) (a b c : Vl) : Tri (((w.alloc (.cells (cellsV a) 25)).alloc (.cells (cellsV b) 25)).alloc (.cells (cellsV c) 25)) w.heap.size a b c :=
  ⟨((Box.new w _ _).alloc _).alloc _, (Box.newAt (by simp) _ _).alloc _, Box.newAt (by simp) _ _⟩
theorem Tri.far {w : World} {p g : Nat} {a b c : Vl} (h : Tri w p a b c) (hg : p + 1 + 1 < g) (x y z : Value) : Tri (((w.setCell ⟨g, 0, none⟩ x).setCell ⟨g, 1, none⟩ y).setCell ⟨g, 2, none⟩ z) p a b c := ⟨Box.far3 h.A (by omega), Box.far3 h.B (by omega), Box.far3 h.C (by omega)⟩
theorem Tri.inside {w : World} {p : Nat} {a b c : Vl} (h : Tri w p a b c) : p + 1 + 1 < w.heap.size := h.C.inside
end Go.Proofs.YtbpkfnoenkoabaaGreatDoor

namespace Go.Proofs.YtbpkfnoenkoabaaGreatDoor
open Go.RowKit Lv
end Go.Proofs.YtbpkfnoenkoabaaGreatDoor

namespace Go.Proofs.YtbpkfnoenkoabaaGreatDoor
open Go.RowKit Lv
theorem RowV.head {w : World} {b off : Nat} {a : Vl} {r : List Vl} (h : RowV w (some ⟨b, off, none⟩) (a :: r)) : b < w.heap.size ∧ w.cell? ⟨b, off, none⟩ = some (.int .u8 a.k) ∧ w.cell? ⟨b, off + 1, none⟩ = some (.int .i64 a.n) ∧ w.cell? ⟨b, off + 2, none⟩ = some (.string ⟨a.t.toArray⟩) := by
  obtain ⟨b', off', e, hb, x0, x1, x2⟩ := h 0 (by simp)
  cases e
  simp only [Nat.zero_mul, Nat.add_zero, List.getD_cons_zero] at x0 x1 x2
  exact ⟨hb, x0, x1, x2⟩
theorem RowV.second {w : World} {b off : Nat} {a c : Vl} {r : List Vl} (h : RowV w (some ⟨b, off, none⟩) (a :: c :: r)) : w.cell? ⟨b, off + 3, none⟩ = some (.int .u8 c.k) ∧ w.cell? ⟨b, off + 3 + 1, none⟩ = some (.int .i64 c.n) ∧ w.cell? ⟨b, off + 3 + 2, none⟩ = some (.string ⟨c.t.toArray⟩) := by
  obtain ⟨b', off', e, hb, x0, x1, x2⟩ := h 1 (by simp)
  cases e
  exact ⟨x0, x1, x2⟩
end Go.Proofs.YtbpkfnoenkoabaaGreatDoor

namespace Go.Proofs.YtbpkfnoenkoabaaGreatDoor
open Go.RowKit Lv
theorem cut_text (t : List UInt8) {j : Nat} (hj : min (t.length : Int) 300 = (j : Int)) : (ByteArray.mk t.toArray).extract 0 j = ⟨(t.take 300).toArray⟩ := by
  rw [ba_extract, List.drop_zero]
  congr 2
  by_cases c : t.length ≤ 300
  · rw [List.take_of_length_le (by omega), List.take_of_length_le (by omega)]
  · rw [show j = 300 by omega]
theorem tmod_five (n : Int) : -5 < Int.tmod n 5 ∧ Int.tmod n 5 < 5 := by
  have h1 := Int.tmod_lt_of_pos n (b := 5) (by omega); have h2 := Int.tmod_lt_of_pos (-n) (b := 5) (by omega); rw [Int.neg_tmod] at h2
  omega
set_option maxHeartbeats 4000000 in
set_option maxRecDepth 100000 in
theorem good_any (v : Vl) (w : World) (hw : Wide v) : Calls Tryz.prog 36 #[aggV v] w fun e w' => e = .returned (aggV (vGood v)) ∧ Kept w w' := by
  obtain ⟨k, n, t⟩ := v; obtain ⟨hk, ⟨n1, n2⟩, ht⟩ := hw
  simp only at hk n1 n2 ht
  have ml : maxLen ≤ 9223372036854775807 := by decide
  have tl : t.length ≤ 9223372036854775807 := Nat.le_trans ht ml; obtain ⟨j, hj⟩ : ∃ j : Nat, min (t.length : Int) 300 = (j : Int) := ⟨min t.length 300, by omega⟩; have jl : j ≤ t.length := by omega
  have hx := cut_text t hj; have CK := Lib.hid (fun w => rcheck5_any ⟨k, n, t.take 300⟩ w ⟨n1, n2⟩ (by simp; omega)); have lu : (t.take 300).length ≤ 300 := by rw [List.length_take]; omega
  have Z := ba_size; have B1 : Hid (Box ((w.alloc (.cells (cellsV ⟨k, n, t.take 300⟩) 25)).alloc (.cells #[.int .u8 0, .int .i64 0, .string ⟨#[]⟩] 25)) (w.heap.size + 1) 25 (cellsV blankV)) := Lib.hid (Box.newAt (by simp) _ _); have B0 : Hid (Box ((w.alloc (.cells (cellsV ⟨k, n, t.take 300⟩) 25)).alloc (.cells #[.int .u8 0, .int .i64 0, .string ⟨#[]⟩] 25)) w.heap.size 25 (cellsV ⟨k, n, t.take 300⟩)) := Lib.hid ((Box.new w _ _).alloc _); clear ht ml; have cut : cut300 ⟨k, n, t⟩ = ⟨k, n, t.take 300⟩ := rfl
  cases ok : vOk ⟨k, n, t.take 300⟩ with
  | true =>
    rw [chk_yes ok] at CK
    have EF : Hid (vGood ⟨k, n, t⟩ = ⟨k, n, t.take 300⟩) := by
      show _ = _; exact (by unfold vGood; rw [cut, if_pos ok] : vGood ⟨k, n, t⟩ = ⟨k, n, t.take 300⟩)
    clear ok cut; go_enter Tryz.func36, Tryz.ntmps36; go_wp2_with fail; refine (CK.out _).mono ?_; rintro e w1 ⟨rfl, k1⟩; obtain ⟨i0, p0, p1, p2, _⟩ := (B0.out.kept k1).three; have C1 := Lib.hid (B1.out.kept k1); obtain ⟨j0, q0, q1, q2, g0, g1, g2⟩ := C1.out.three; have KK : Hid (Kept w w1) := Lib.hid (Kept.trans kpt k1); clear k1; go_wp2_with fail; refine ret_world (fun wf => Box wf (w.heap.size + 1) 25 (cellsV ⟨k, n, t.take 300⟩) ∧ Kept w wf) ⟨Box.set3 C1.out, KK.out.set3 (by omega)⟩ ?_; rintro wf ⟨z0, kf⟩; obtain ⟨e0, e1, e2⟩ := z0.cells3; exact bodyPost_ret (v := aggV ⟨k, n, t.take 300⟩) (by simp [results, Tryz.results36, go_sem, e0, e1, e2]) rfl ⟨congrArg (fun z => Ending.returned (aggV z)) EF.out.symm, kf⟩
  | false =>
    rw [chk_no ok] at CK
    have EG : Hid (vGood ⟨k, n, t⟩ = if k % 5 = 2 then vTruth (decide (Int.tmod n 2 ≠ 0)) else if k % 5 = 3 then ⟨3, 0, [120]⟩ else if k % 5 = 4 then vFail (1 + Int.tmod (Int.tmod n 5 + 5) 5) else if k % 5 = 0 then ⟨0, 0, []⟩ else vMake (max n (-9223372036854775807))) := by
      show _ = _; unfold vGood; rw [cut, if_neg (by rw [ok]; exact Bool.false_ne_true)]
    clear ok cut; obtain ⟨q, hq⟩ : ∃ q : Nat, q = k % 5 := ⟨_, rfl⟩; have q5 : q < 5 := by omega
    have km : (k : Int) % 5 = (q : Int) := by omega
    rw [← hq] at EG; clear hq
    match q, q5 with
    | 0, _ =>
      have EF : Hid (vGood ⟨k, n, t⟩ = ⟨0, 0, []⟩) := EG; have km : (k : Int) % 5 = 0 := km; clear EG; go_enter Tryz.func36, Tryz.ntmps36; go_wp2_with fail; refine (CK.out _).mono ?_; rintro e w1 ⟨rfl, k1⟩; obtain ⟨i0, p0, p1, p2, _⟩ := (B0.out.kept k1).three; have C1 := Lib.hid (B1.out.kept k1); obtain ⟨j0, q0, q1, q2, g0, g1, g2⟩ := C1.out.three; have KK : Hid (Kept w w1) := Lib.hid (Kept.trans kpt k1); clear k1; go_wp2_with fail; refine ret_world (fun wf => Box wf (w.heap.size + 1) 25 (cellsV (⟨0, 0, []⟩ : Vl)) ∧ Kept w wf) ⟨Box.set3 C1.out, KK.out.set3 (by omega)⟩ ?_; rintro wf ⟨z0, kf⟩; obtain ⟨e0, e1, e2⟩ := z0.cells3; exact bodyPost_ret (v := aggV (⟨0, 0, []⟩ : Vl)) (by simp [results, Tryz.results36, go_sem, e0, e1, e2]) rfl ⟨congrArg (fun z => Ending.returned (aggV z)) EF.out.symm, kf⟩
    | 1, _ =>
      have EF : Hid (vGood ⟨k, n, t⟩ = vMake (max n (-9223372036854775807))) := EG; have km : (k : Int) % 5 = 1 := km; obtain ⟨z, hz⟩ : ∃ z, max n (-9223372036854775807) = z := ⟨_, rfl⟩; rw [hz] at EF; have z1 : -9223372036854775808 ≤ z := by omega
      have z2 : z ≤ 9223372036854775807 := by omega
      have T := Lib.hid (fun w => rmake_any z w z1 z2); generalize vMake z = y at *; clear EG; go_enter Tryz.func36, Tryz.ntmps36; go_wp2_with fail; refine (CK.out _).mono ?_; rintro e w1 ⟨rfl, k1⟩; obtain ⟨i0, p0, p1, p2, _⟩ := (B0.out.kept k1).three; have C1 := Lib.hid (B1.out.kept k1); obtain ⟨j0, q0, q1, q2, g0, g1, g2⟩ := C1.out.three; have KK : Hid (Kept w w1) := Lib.hid (Kept.trans kpt k1); clear k1; go_wp2_with fail; refine (T.out _).mono ?_; rintro e w2 ⟨rfl, k2⟩; have C1 := Lib.hid (C1.out.kept k2); have KK := Lib.hid (KK.out.trans k2); obtain ⟨j0, q0, q1, q2, g0, g1, g2⟩ := C1.out.three; clear k2; go_wp2_with fail; refine ret_world (fun wf => Box wf (w.heap.size + 1) 25 (cellsV y) ∧ Kept w wf) ⟨Box.set3 C1.out, KK.out.set3 (by omega)⟩ ?_; rintro wf ⟨z0, kf⟩; obtain ⟨e0, e1, e2⟩ := z0.cells3; exact bodyPost_ret (v := aggV y) (by simp [results, Tryz.results36, go_sem, e0, e1, e2]) rfl ⟨congrArg (fun z => Ending.returned (aggV z)) EF.out.symm, kf⟩
    | 2, _ =>
      have km : (k : Int) % 5 = 2 := km; obtain ⟨bb, hb⟩ : ∃ bb, (Int.tmod n 2 != 0) = bb := ⟨_, rfl⟩
      have EF : Hid (vGood ⟨k, n, t⟩ = vTruth bb) := by
        show _ = _; rw [EG.out, if_pos rfl, ← hb]
        congr 1
        by_cases c : Int.tmod n 2 = 0
        · rw [c]; rfl
        · rw [decide_eq_true c]; symm; rw [bne_iff_ne]; exact c
      have T := Lib.hid (fun w => rtruth_any bb w); clear EG; go_enter Tryz.func36, Tryz.ntmps36; go_wp2_with fail; refine (CK.out _).mono ?_; rintro e w1 ⟨rfl, k1⟩; obtain ⟨i0, p0, p1, p2, _⟩ := (B0.out.kept k1).three; have C1 := Lib.hid (B1.out.kept k1); obtain ⟨j0, q0, q1, q2, g0, g1, g2⟩ := C1.out.three; have KK : Hid (Kept w w1) := Lib.hid (Kept.trans kpt k1); clear k1; go_wp2_with fail; refine (T.out _).mono ?_; rintro e w2 ⟨rfl, k2⟩; have C1 := Lib.hid (C1.out.kept k2); have KK := Lib.hid (KK.out.trans k2); obtain ⟨j0, q0, q1, q2, g0, g1, g2⟩ := C1.out.three; clear k2; go_wp2_with fail; refine ret_world (fun wf => Box wf (w.heap.size + 1) 25 (cellsV (vTruth bb)) ∧ Kept w wf) ⟨Box.set3 C1.out, KK.out.set3 (by omega)⟩ ?_; rintro wf ⟨z0, kf⟩; obtain ⟨e0, e1, e2⟩ := z0.cells3; exact bodyPost_ret (v := aggV (vTruth bb)) (by simp [results, Tryz.results36, go_sem, e0, e1, e2]) rfl ⟨congrArg (fun z => Ending.returned (aggV z)) EF.out.symm, kf⟩
    | 3, _ =>
      have EF : Hid (vGood ⟨k, n, t⟩ = ⟨3, 0, [120]⟩) := EG; have km : (k : Int) % 5 = 3 := km; clear EG; go_enter Tryz.func36, Tryz.ntmps36; go_wp2_with fail; refine (CK.out _).mono ?_; rintro e w1 ⟨rfl, k1⟩; obtain ⟨i0, p0, p1, p2, _⟩ := (B0.out.kept k1).three; have C1 := Lib.hid (B1.out.kept k1); obtain ⟨j0, q0, q1, q2, g0, g1, g2⟩ := C1.out.three; have KK : Hid (Kept w w1) := Lib.hid (Kept.trans kpt k1); clear k1; go_wp2_with fail; refine ret_world (fun wf => Box wf (w.heap.size + 1) 25 (cellsV (⟨3, 0, [120]⟩ : Vl)) ∧ Kept w wf) ⟨Box.set3 C1.out, KK.out.set3 (by omega)⟩ ?_; rintro wf ⟨z0, kf⟩; obtain ⟨e0, e1, e2⟩ := z0.cells3; exact bodyPost_ret (v := aggV (⟨3, 0, [120]⟩ : Vl)) (by simp [results, Tryz.results36, go_sem, e0, e1, e2]) rfl ⟨congrArg (fun z => Ending.returned (aggV z)) EF.out.symm, kf⟩
    | 4, _ =>
      have EF : Hid (vGood ⟨k, n, t⟩ = vFail (1 + Int.tmod (Int.tmod n 5 + 5) 5)) := EG; have km : (k : Int) % 5 = 4 := km; have t5 := tmod_five n; obtain ⟨t51, t52⟩ := t5; obtain ⟨z, hz⟩ : ∃ z, Int.tmod n 5 = z := ⟨_, rfl⟩; rw [hz] at EF t51 t52; have u5 := tmod_five (z + 5); obtain ⟨u51, u52⟩ := u5; obtain ⟨y, hy⟩ : ∃ y, Int.tmod (z + 5) 5 = y := ⟨_, rfl⟩; rw [hy] at EF u51 u52; have T := Lib.hid (fun w => rfail_any (1 + y) w); generalize vFail (1 + y) = f at *; clear EG; go_enter Tryz.func36, Tryz.ntmps36; go_wp2_with fail; refine (CK.out _).mono ?_; rintro e w1 ⟨rfl, k1⟩; obtain ⟨i0, p0, p1, p2, _⟩ := (B0.out.kept k1).three; have C1 := Lib.hid (B1.out.kept k1); obtain ⟨j0, q0, q1, q2, g0, g1, g2⟩ := C1.out.three; have KK : Hid (Kept w w1) := Lib.hid (Kept.trans kpt k1); clear k1; go_wp2_with fail; refine (T.out _).mono ?_; rintro e w2 ⟨rfl, k2⟩; have C1 := Lib.hid (C1.out.kept k2); have KK := Lib.hid (KK.out.trans k2); obtain ⟨j0, q0, q1, q2, g0, g1, g2⟩ := C1.out.three; clear k2; go_wp2_with fail; refine ret_world (fun wf => Box wf (w.heap.size + 1) 25 (cellsV f) ∧ Kept w wf) ⟨Box.set3 C1.out, KK.out.set3 (by omega)⟩ ?_; rintro wf ⟨z0, kf⟩; obtain ⟨e0, e1, e2⟩ := z0.cells3; exact bodyPost_ret (v := aggV f) (by simp [results, Tryz.results36, go_sem, e0, e1, e2]) rfl ⟨congrArg (fun z => Ending.returned (aggV z)) EF.out.symm, kf⟩
    | q + 5, h => exact absurd h (by omega)
end Go.Proofs.YtbpkfnoenkoabaaGreatDoor

namespace Go.Proofs.YtbpkfnoenkoabaaGreatDoor.Lv
open Go
theorem good_small {v : Vl} (h : i64 v.n) : Small (vGood v) := by
  refine ⟨?_, Nat.le_trans (ok_short (good_ok v)) (by decide)⟩; have ok := good_ok v; unfold vGood
  split
  · exact h
  · split
    · unfold vTruth; split <;> exact ⟨by decide, by decide⟩
    · split
      · exact ⟨by decide, by decide⟩
      · split
        · unfold vFail; split
          · rename_i c; exact ⟨by show -9223372036854775808 ≤ (1 + Int.tmod (Int.tmod v.n 5 + 5) 5 : Int); omega, by show (1 + Int.tmod (Int.tmod v.n 5 + 5) 5 : Int) ≤ 9223372036854775807; omega⟩
          · exact ⟨by decide, by decide⟩
        · split
          · exact ⟨by decide, by decide⟩
          · unfold vMake
            split
            · exact ⟨by decide, by decide⟩
            · obtain ⟨h1, h2⟩ := h
              exact ⟨by show -9223372036854775808 ≤ max v.n _; omega, by show max v.n _ ≤ (9223372036854775807 : Int); omega⟩
section
variable {a b : Vl} (ha : vOk a = true) (hb : vOk b = true) (ka : a.k ≠ 4) (kb : b.k ≠ 4)
include ha hb ka kb
end
end Go.Proofs.YtbpkfnoenkoabaaGreatDoor.Lv

namespace Go.Proofs.YtbpkfnoenkoabaaGreatDoor.Lv
open Go
/-! what comes out is valid -/
theorem res_ok (p : Int × Bool) : vOk (vRes p) = true := by
  unfold vRes
  split
  · exact make_ok _
  · rfl
theorem pow_ok (x n : Int) : vOk (pow13 x n) = true := by
  unfold pow13
  split
  · rfl
  · split
    · rfl
    · exact res_ok _
theorem arith_ok (op x y : Int) : vOk (arith13 op x y) = true := by
  unfold arith13
  (repeat' split) <;> first | exact res_ok _ | exact pow_ok _ _ | rfl
theorem val13_ok (fn : Nat) (x y : Int) : vOk (val13 fn x y) = true := by
  unfold val13
  (repeat' split) <;> first | exact res_ok _ | exact pow_ok _ _ | exact make_ok _ | rfl
theorem txt_plain {v : Vl} (h : vOk v = true) (k : v.k = 3) : plain v.t = true := by
  rcases ok_cases h with rfl | ⟨n, hn, rfl⟩ | rfl | rfl | ⟨t, ht, rfl⟩ | ⟨c, h1, h2, rfl⟩
  · rfl
  · rfl
  · rfl
  · rfl
  · unfold okT at ht; rw [Bool.and_eq_true] at ht; exact ht.2
  · rfl
theorem err_txt {v : Vl} (h : vOk v = true) (he : isE (vTxt v) = true) : v.k = 4 := by
  rcases ok_cases h with rfl | ⟨n, hn, rfl⟩ | rfl | rfl | ⟨t, ht, rfl⟩ | ⟨c, h1, h2, rfl⟩
  · cases he
  · unfold vTxt at he; rw [h] at he; cases he
  · cases he
  · cases he
  · unfold vTxt at he; rw [h] at he; cases he
  · rfl
theorem cat_ok {a b : Vl} (ha : i64 a.n) (hb : i64 b.n) : vOk (cat13 a b) = true := by
  have ta := txt_kinds a (by obtain ⟨h1, h2⟩ := ha; omega); have tb := txt_kinds b (by obtain ⟨h1, h2⟩ := hb; omega); unfold cat13
  split
  · exact ta.1
  · rename_i ea
    split
    · exact tb.1
    · rename_i eb
      have ka : (vTxt a).k = 3 := by
        rcases ta.2 with h | h
        · exact h
        · exact absurd (by unfold isE; rw [h]; rfl) ea
      have kb : (vTxt b).k = 3 := by
        rcases tb.2 with h | h
        · exact h
        · exact absurd (by unfold isE; rw [h]; rfl) eb
      unfold vText
      split
      · rfl
      · rename_i hl
        have pa := txt_plain ta.1 ka; have pb := txt_plain tb.1 kb; rw [ok3]; unfold okT; rw [decide_eq_true (show ((vTxt a).t ++ (vTxt b).t).length ≤ 256 by omega)]; unfold plain at pa pb ⊢; rw [List.all_append, pa, pb]; rfl
theorem firstE_ok {l : List Vl} {x : Vl} (h : firstE l = some x) (ha : ∀ v ∈ l, vOk v = true) : vOk x = true := ha x (List.mem_of_find?_eq_some h)
theorem bin_valid {op : Int} {a b : Vl} (h1 : 1 ≤ op) (h2 : op ≤ 12) (ha : vOk a = true) (hb : vOk b = true) (ia : i64 a.n) (ib : i64 b.n) : vOk (vBin13 op a b).1 = true ∧ (vBin13 op a b).2 = 0 := by
  unfold vBin13; rw [if_neg (by simp only [List.any_cons, ha, hb]; simp; omega)]
  split
  · exact ⟨cat_ok ia ib, rfl⟩
  · split
    · refine ⟨?_, rfl⟩
      show vOk (cmp13 op a b) = true; unfold cmp13
      split
      · exact ha
      · split
        · exact hb
        · exact truth_ok _
    · split
      · rename_i e he
        exact ⟨firstE_ok he (fun v hv => by
          simp only [List.mem_cons, List.not_mem_nil, or_false] at hv
          rcases hv with rfl | rfl
          · exact (num_kinds a).1
          · exact (num_kinds b).1), rfl⟩
      · exact ⟨arith_ok _ _ _, rfl⟩
theorem bin_first {op : Int} {a b f : Vl} (h1 : 1 ≤ op) (h2 : op ≤ 12) (ha : vOk a = true) (hb : vOk b = true) (hf : f = if 6 ≤ op then vTxt a else vNum a) (he : isE f = true) : (vBin13 op a b).1 = f := by
  unfold vBin13; rw [if_neg (by simp only [List.any_cons, ha, hb]; simp; omega)]; subst hf
  split
  · rename_i e; subst e
    rw [if_pos (by decide)] at he ⊢; show cat13 a b = _; unfold cat13; rw [if_pos he]
  · split
    · rename_i n6 g6
      rw [if_pos (by omega)] at he ⊢; have ka := err_txt ha he; show cmp13 op a b = _; unfold cmp13; rw [if_pos (by unfold isE; rw [ka]; rfl), txt_stay ha (Or.inr ka)]
    · rename_i n6 g6
      rw [if_neg (by omega)] at he ⊢; rw [first_hit he]
theorem bin_second {op : Int} {a b f : Vl} (h1 : 1 ≤ op) (h2 : op ≤ 12) (ha : vOk a = true) (hb : vOk b = true) (hf : f = if 6 ≤ op then vTxt a else vNum a) (he : isE f = false) (hk : b.k = 4) : (vBin13 op a b).1 = b := by
  have tb : vTxt b = b := txt_stay hb (Or.inr hk); have nb : vNum b = b := num_stay hb (Or.inr hk); have eb : isE b = true := by unfold isE; rw [hk]; rfl
  unfold vBin13; rw [if_neg (by simp only [List.any_cons, ha, hb]; simp; omega)]; subst hf
  split
  · rename_i e; subst e
    rw [if_pos (by decide)] at he; show cat13 a b = _; unfold cat13; rw [if_neg (by rw [he]; decide), if_pos (by rw [tb]; exact eb), tb]
  · split
    · rename_i n6 g6
      rw [if_pos (by omega)] at he
      have ka : isE a = false := by
        cases h : isE a with
        | false => rfl
        | true =>
          have k : a.k = 4 := by unfold isE at h; simpa using h
          rw [txt_stay ha (Or.inr k), h] at he; cases he
      show cmp13 op a b = _; unfold cmp13; rw [if_neg (by rw [ka]; decide), if_pos eb]
    · rename_i n6 g6
      rw [if_neg (by omega)] at he; rw [first_miss he, nb, first_hit eb]
theorem neg_valid (a : Vl) : vOk (vNeg13 a) = true := by
  unfold vNeg13
  split
  · exact (num_kinds a).1
  · exact res_ok _
theorem pct_valid (a : Vl) : vOk (vPct13 a) = true := by
  unfold vPct13
  split
  · exact (num_kinds a).1
  · exact res_ok _
theorem call_valid {fn : Nat} {l : List Vl} (h1 : ¬ (fn < 1 ∨ 8 < fn)) (hv : l.all vOk = true) : vOk (vCall13 fn l).1 = true ∧ ((vCall13 fn l).2 = 0 ↔ l.length = (if two13 fn then 2 else 1)) := by
  by_cases h : l.length = (if two13 fn then 2 else 1)
  · cases he : firstE (l.map vNum) with
    | none => rw [v13_val h1 h hv he]; exact ⟨val13_ok _ _ _, fun _ => h, fun _ => rfl⟩
    | some x =>
      rw [v13_err h1 h hv he]
      exact ⟨firstE_ok he (fun v hv => by
        obtain ⟨u, _, rfl⟩ := List.mem_map.1 hv; exact (num_kinds u).1), fun _ => h, fun _ => rfl⟩
  · rw [v13_count h1 h]
    exact ⟨rfl, fun c => by simp at c, fun c => absurd c h⟩
theorem call_one_err {fn : Nat} {a : Vl} (h1 : ¬ (fn < 1 ∨ 8 < fn)) (ha : vOk a = true) (h2 : two13 fn = false) (he : isE (vNum a) = true) : (vCall13 fn [a]).1 = vNum a := by
  rw [v13_err (l := [a]) (x := vNum a) h1 (by rw [h2]; rfl) (by simp [ha]) (first_hit he)]
theorem call_two_err {fn : Nat} {a b : Vl} (h1 : ¬ (fn < 1 ∨ 8 < fn)) (ha : vOk a = true) (hb : vOk b = true) (h2 : two13 fn = true) (he : isE (vNum a) = true) : (vCall13 fn [a, b]).1 = vNum a := by
  rw [v13_err (l := [a, b]) (x := vNum a) h1 (by rw [h2]; rfl) (by simp [ha, hb]) (first_hit he)]
theorem call_two_snd {fn : Nat} {a b : Vl} (h1 : ¬ (fn < 1 ∨ 8 < fn)) (ha : vOk a = true) (hb : vOk b = true) (h2 : two13 fn = true) (he : isE (vNum a) = false) (hk : b.k = 4) : (vCall13 fn [a, b]).1 = b := by
  have nb : vNum b = b := num_stay hb (Or.inr hk); have eb : isE b = true := by unfold isE; rw [hk]; rfl
  rw [v13_err (l := [a, b]) (x := b) h1 (by rw [h2]; rfl) (by simp [ha, hb]) (show firstE [vNum a, vNum b] = some b by rw [first_miss he, nb, first_hit eb])]
/-! .. and small -/
theorem num_in {v : Vl} (hn : i64 v.n) : i64 (vNum v).n := by
  by_cases ok : vOk v = true
  · rcases ok_cases ok with rfl | ⟨n, _, rfl⟩ | rfl | rfl | ⟨t, ht, rfl⟩ | ⟨c, c1, c2, rfl⟩
    · exact ⟨by decide, by decide⟩
    · unfold vNum; rw [ok]; exact hn
    · exact ⟨by decide, by decide⟩
    · exact ⟨by decide, by decide⟩
    · unfold vNum; rw [ok]; exact (small_read t).1
    · unfold vNum; rw [ok]; exact hn
  · unfold vNum; rw [if_pos (by simpa using ok)]; exact ⟨by decide, by decide⟩
theorem small_ok {v : Vl} (h : vOk v = true) (hn : i64 v.n) : Small v := ⟨hn, Nat.le_trans (ok_short h) (by decide)⟩
theorem txt_sm {v : Vl} (h : vOk v = true) (hn : i64 v.n) : Small (vTxt v) := by
  refine small_ok (txt_kinds v (by obtain ⟨h1, h2⟩ := hn; omega)).1 ?_; rcases ok_cases h with rfl | ⟨n, _, rfl⟩ | rfl | rfl | ⟨t, ht, rfl⟩ | ⟨c, c1, c2, rfl⟩
  · exact ⟨by decide, by decide⟩
  · unfold vTxt; rw [h]; exact (show i64 0 from ⟨by decide, by decide⟩)
  · exact ⟨by decide, by decide⟩
  · exact ⟨by decide, by decide⟩
  · unfold vTxt; rw [h]; exact (show i64 0 from ⟨by decide, by decide⟩)
  · unfold vTxt; rw [h]; exact hn
theorem make_in {n : Int} (h : i64 n) : i64 (vMake n).n := by
  unfold vMake
  split
  · exact ⟨by decide, by decide⟩
  · exact h
theorem res_in {p : Int × Bool} (h : i64 p.1) : i64 (vRes p).n := by
  unfold vRes
  split
  · exact make_in h
  · exact ⟨by decide, by decide⟩
theorem fail_in {c : Int} : i64 (vFail c).n := by
  unfold vFail
  split
  · rename_i h; exact ⟨by show -9223372036854775808 ≤ c; omega, by show c ≤ 9223372036854775807; omega⟩
  · exact ⟨by decide, by decide⟩
theorem pow_in (x n : Int) : i64 (pow13 x n).n := by
  unfold pow13
  split
  · exact fail_in
  · split
    · exact fail_in
    · exact res_in (dPow_i64 _ _)
theorem arith_in (op x y : Int) : i64 (arith13 op x y).n := by
  unfold arith13
  (repeat' split) <;> first | exact res_in (fit_i64 _) | exact pow_in _ _ | exact fail_in | exact res_in (dMul_i64 _ _) | exact res_in (dQuo_i64 _ _)
theorem truth_in (b : Bool) : i64 (vTruth b).n := by cases b <;> exact ⟨by decide, by decide⟩
theorem bin_in {op : Int} {a b : Vl} (ha : vOk a = true) (hb : vOk b = true) (ia : i64 a.n) (ib : i64 b.n) (h1 : 1 ≤ op) (h2 : op ≤ 12) : i64 (vBin13 op a b).1.n := by
  unfold vBin13; rw [if_neg (by simp only [List.any_cons, ha, hb]; simp; omega)]
  split
  · show i64 (cat13 a b).n
    unfold cat13
    split
    · exact (txt_sm ha ia).1
    · split
      · exact (txt_sm hb ib).1
      · unfold vText
        split
        · exact fail_in
        · exact (show i64 0 from ⟨by decide, by decide⟩)
  · split
    · show i64 (cmp13 op a b).n
      unfold cmp13
      split
      · exact ia
      · split
        · exact ib
        · exact truth_in _
    · split
      · rename_i e he
        have := List.mem_of_find?_eq_some he
        simp only [List.mem_cons, List.not_mem_nil, or_false] at this
        rcases this with rfl | rfl
        · exact num_in ia
        · exact num_in ib
      · exact arith_in _ _ _
theorem neg_in {a : Vl} (ia : i64 a.n) : i64 (vNeg13 a).n := by
  unfold vNeg13
  split
  · exact num_in ia
  · exact res_in (fit_i64 _)
theorem pct_in {a : Vl} (ia : i64 a.n) : i64 (vPct13 a).n := by
  unfold vPct13
  split
  · exact num_in ia
  · exact res_in (dQuo_i64 _ _)
theorem sqrt_in' {x : Int} (h : i64 x) : i64 (dSqrt x).1 := by
  unfold dSqrt
  split
  · exact ⟨by decide, by decide⟩
  · have := root_le h (by omega)
    exact ⟨by show (-9223372036854775808 : Int) ≤ (root x : Int); omega, by show (root x : Int) ≤ 9223372036854775807; omega⟩
theorem val13_in {fn : Nat} {x y : Int} (hx : -9223372036854775807 ≤ x ∧ x ≤ 9223372036854775807) (hy : -9223372036854775807 ≤ y ∧ y ≤ 9223372036854775807) : i64 (val13 fn x y).n := by
  have ix : i64 x := ⟨by omega, by omega⟩; have s := sgn13_in x; unfold val13
  split
  · exact make_in ⟨by omega, by omega⟩
  · split
    · exact make_in ⟨by omega, by omega⟩
    · split
      · exact res_in (dFloor_i64 ix)
      · split
        · exact make_in (dTrunc_in ix)
        · split
          · exact res_in dRound_i64
          · split
            · split
              · exact fail_in
              · exact make_in (mod13_in hx hy)
            · split
              · exact pow_in _ _
              · split
                · exact fail_in
                · exact res_in (sqrt_in' ix)
theorem call_in {fn : Nat} {l : List Vl} (hl : ∀ v ∈ l, i64 v.n) (h1 : ¬ (fn < 1 ∨ 8 < fn)) (hv : l.all vOk = true) : i64 (vCall13 fn l).1.n := by
  by_cases h : l.length = (if two13 fn then 2 else 1)
  · cases he : firstE (l.map vNum) with
    | some x =>
      rw [v13_err h1 h hv he]; obtain ⟨u, hu, rfl⟩ := List.mem_map.1 (List.mem_of_find?_eq_some he); exact num_in (hl u hu)
    | none =>
      rw [v13_val h1 h hv he]
      have key : ∀ i, i < l.length → -9223372036854775807 ≤ (vNum (l.getD i blankV)).n ∧ (vNum (l.getD i blankV)).n ≤ 9223372036854775807 := fun i hi => by
        have hm : l.getD i blankV ∈ l := by rw [show l.getD i blankV = l[i] by simp [List.getD, hi]]; exact List.getElem_mem hi
        refine num_range ?_ (hl _ hm); have := List.find?_eq_none.1 he (vNum (l.getD i blankV)) (List.mem_map.2 ⟨_, hm, rfl⟩)
        simpa using this
      refine val13_in (key 0 (by rw [h]; split <;> decide)) ?_
      cases ht : two13 fn with
      | true => rw [ht] at h; simp only [if_true] at h ⊢; exact key 1 (by omega)
      | false => simp
  · rw [v13_count h1 h]; exact ⟨by decide, by decide⟩
theorem tmod_rng (z m : Int) (h : 0 < m) : -m < Int.tmod z m ∧ Int.tmod z m < m ∧ (0 ≤ z → 0 ≤ Int.tmod z m) := ⟨by have := Int.lt_tmod_of_pos z h; omega, Int.tmod_lt_of_pos z h, fun h => Int.tmod_nonneg _ h⟩
end Go.Proofs.YtbpkfnoenkoabaaGreatDoor.Lv
