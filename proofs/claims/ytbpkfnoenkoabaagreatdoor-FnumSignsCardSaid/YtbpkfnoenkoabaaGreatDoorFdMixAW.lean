/- Small texts together: GFew, GLogic2, GLogic3, GLogic5, GLogic6, GGood. -/
import Derived.Test.YtbpkfnoenkoabaaGreatDoorFdMixAM
import Derived.Test.YtbpkfnoenkoabaaGreatDoorFdMixAT
import Derived.Test.YtbpkfnoenkoabaaGreatDoorFdMixAO
namespace Go.Proofs.YtbpkfnoenkoabaaGreatDoor
set_option linter.unusedVariables false
set_option linter.unusedSimpArgs false
open Go.RowKit Lv
def NewRow (w : World) (l : List Vl) (e : Ending) (w' : World) : Prop := ∃ v, e = .returned v ∧ OwnV w' w.heap.size v l ∧ Kept w w'
theorem cut_step {m : List Vl} {k : Nat} (hk : k < m.length) : ((m.take k).map cut300 ++ m.drop k).getD k blankV = m.getD k blankV ∧ ((m.take k).map cut300 ++ m.drop k).set k { m.getD k blankV with t := (m.getD k blankV).t.take 300 } = (m.take (k + 1)).map cut300 ++ m.drop (k + 1) := by
  have l1 : ((m.take k).map cut300).length = k := by rw [List.length_map, List.length_take]; omega
  have e0 : m.drop k = m[k] :: m.drop (k + 1) := List.drop_eq_getElem_cons hk
  have e1 : m.getD k blankV = m[k] := by simp [List.getD, hk]
  refine ⟨?_, ?_⟩
  · rw [e0, e1, List.getD, List.getElem?_append_right (by omega), l1, Nat.sub_self]; rfl
  · rw [e1, List.set_append_right _ _ (by omega), l1, Nat.sub_self, e0, List.set_cons_zero]
    have e2 : m.take (k + 1) = m.take k ++ [m[k]] := by rw [List.take_succ_eq_append_getElem hk]
    rw [e2, List.map_append, List.append_assoc]
    rfl
theorem OwnV.at_ {w : World} {base n cap : Nat} {A : Option Addr} {l : List Vl} (h : OwnV w base (.slice A n cap) l) {i : Nat} (hi : i < l.length) :
    ∃ g, A = some ⟨g, 0, none⟩ ∧ base ≤ g ∧ g < w.heap.size ∧ n = l.length ∧ n ≤ cap ∧ w.cell? ⟨g, i * 3, none⟩ = some (.int .u8 (l.getD i blankV).k) ∧ w.cell? ⟨g, i * 3 + 1, none⟩ = some (.int .i64 (l.getD i blankV).n) ∧ w.cell? ⟨g, i * 3 + 2, none⟩ = some (.string ⟨(l.getD i blankV).t.toArray⟩) ∧ ∀ o, w.frozen? ⟨g, o, none⟩ = false := by
  rcases h.2 with ⟨_, h0⟩ | ⟨g, cap', cur, e, hg, hh, h4, h5, h6, h7⟩
  · omega
  · cases e
    have hr := RowV.box (t := 25) (cs := cur) hh h7 i hi
    obtain ⟨b, off, e, _, c0, c1, c2⟩ := hr
    cases e
    rw [Nat.zero_add] at c0 c1 c2
    exact ⟨g, rfl, hg, (Array.getElem?_eq_some_iff.1 hh).1, rfl, h4, c0, c1, c2, fun o => Box.loose (t := 25) (cs := cur) hh o⟩
theorem OwnV.form {w : World} {base : Nat} {v : Value} {l : List Vl} (h : OwnV w base v l) : ∃ A cap, v = .slice A l.length cap := by
  obtain ⟨A, cap, e, _⟩ := h.row
  exact ⟨A, cap, e⟩
theorem copy_nil (w : World) : Calls Tryz.prog 58 #[.slice none 0 0] w (NewRow w []) := by
  have own := Lib.hid (OwnV.nil w w.heap.size)
  go_enter Tryz.func58, Tryz.ntmps58
  go_wp2_with (refine append_none rfl _ _ rfl w.heap.size _ _ rfl own.out rfl ?_)
  go_ret
  exact ⟨_, rfl, own.out, Kept.refl w⟩
theorem copy_row (ad : Addr) (cap : Nat) (l : List Vl) (w : World) (hr : RowV w (some ad) l) (hl : l.length ≤ 100000) : Calls Tryz.prog 58 #[.slice (some ad) l.length cap] w (NewRow w l) := by
  have own := Lib.hid (OwnV.nil w w.heap.size)
  have HR := Lib.hid hr
  clear hr
  go_enter Tryz.func58, Tryz.ntmps58
  go_wp2_with (refine append_vals rfl _ _ rfl w.heap.size _ _ l rfl own.out ad cap rfl HR.out (by simp; omega) (Nat.le_refl _) ?_; intro v1 w1 o1 gr)
  go_ret
  exact ⟨_, rfl, o1, own.out.grown (Nat.le_refl _) (Kept.refl w) gr⟩
set_option maxHeartbeats 1000000 in
set_option maxRecDepth 100000 in
theorem few_some (ad : Addr) (cap : Nat) (l : List Vl) (w : World) (hr : RowV w (some ad) l) (hl : l.length ≤ cap) (hc : cap ≤ 9223372036854775807) (ht : ∀ v ∈ l, v.t.length ≤ 9223372036854775807) : Calls Tryz.prog 20 #[.slice (some ad) l.length cap] w (NewRow w (few l)) := by
  obtain ⟨n, hn⟩ : ∃ n : Nat, n = min l.length 20 := ⟨_, rfl⟩
  have hmin : min (l.length : Int) 20 = (n : Int) := by omega
  obtain ⟨m, hm⟩ : ∃ m, m = l.take 20 := ⟨_, rfl⟩
  have lm : m.length = n := by rw [hm, List.length_take]; omega
  have fm : few l = m.map cut300 := by rw [hm]; rfl
  have C := Lib.hid (fun w (h : RowV w (some ad) m) => copy_row ad cap m w h (by omega))
  have tm : ∀ v ∈ m, v.t.length ≤ 9223372036854775807 := fun v hv => ht v (by rw [hm] at hv; exact List.mem_of_mem_take hv)
  rw [lm] at C
  rw [fm]
  have HR := Lib.hid (hr.take 20)
  rw [← hm] at HR
  have n20 : n ≤ 20 := by omega
  have nl : n ≤ l.length := by omega
  have LM := Lib.hid lm
  have TM := Lib.hid tm
  clear hr ht fm hn lm hm tm
  go_enter Tryz.func20, Tryz.ntmps20
  go_wp2_with fail
  refine (C.out _ HR.out).mono ?_
  rintro e w1 ⟨v, rfl, o1, k1⟩
  go_wp2_with fail
  obtain ⟨A, c1, rfl⟩ := o1.form
  have len1 := Lib.hid (show m.length = n from LM.out)
  have O1 := Lib.hid o1
  clear o1
  rw [LM.out] at O1 ⊢
  go_loopw [4] (fun i wr => ∃ k : Nat, k ≤ n ∧ i = .int .i64 k ∧ OwnV wr w.heap.size (.slice A n c1) ((m.take k).map cut300 ++ m.drop k) ∧ Kept w wr) (fun i _ => n - (intOf i).toNat)
  case atStart => exact ⟨0, by omega, rfl, by simpa using O1.out, k1⟩
  case round =>
    obtain ⟨k, hk, rfl, own, kw⟩ := hrel
    by_cases hlt : k < n
    · have st := cut_step (m := m) (k := k) (by rw [LM.out]; exact hlt)
      have ll : ((m.take k).map cut300 ++ m.drop k).length = n := by simp [LM.out]; omega
      obtain ⟨g, rfl, hg, gi, nc, _, c0, c1', c2, fr⟩ := own.at_ (i := k) (by omega)
      rw [st.1] at c0 c1' c2
      have tk : (m.getD k blankV).t.length ≤ 9223372036854775807 := by
        have hkm : k < m.length := by rw [LM.out]; exact hlt
        refine TM.out _ ?_
        rw [show m.getD k blankV = m[k] by simp [List.getD, hkm]]
        exact List.getElem_mem hkm
      have S1 := Lib.hid st.1
      have S2 := Lib.hid st.2
      have LL := Lib.hid ll
      have OW := Lib.hid own
      generalize m.getD k blankV = x at *
      obtain ⟨j, hj⟩ : ∃ j : Nat, min (x.t.length : Int) 300 = (j : Int) := ⟨min x.t.length 300, by omega⟩
      have J := Lib.hid hj
      have jl : j ≤ x.t.length := by omega
      have Z := ba_size
      have kw' := Lib.hid kw
      clear st ll own c0 c1' nc kw
      go_wp2_with fail
      have A2 := cell_regrown c2
      refine region_quiet_tail (C := fun w' => ∃ p : Regrown, w' = Go.Sort.grow (redrawn wr p.d) p.os) 17 (by kernel_rfl) (by kernel_rfl) ⟨⟨wr.drawn + 1, #[]⟩, by rw [Go.Sort.grow_empty]; rfl⟩ ?_
      simp only [List.take_succ_cons, List.take_zero, List.drop_succ_cons, List.drop_zero]
      repeat (quiet_step (fail))
      refine wpQuiet_nil ?_
      intro _ hw'; obtain ⟨⟨dq, osq⟩, hw''⟩ := hw'; subst hw''
      have kq : Kept wr (Go.Sort.grow (redrawn wr dq) osq) := below_regrown wr dq osq
      generalize Go.Sort.grow (redrawn wr dq) osq = wrq at *
      have bq := bcell kq
      have cq := (bq.1 g (k * 3 + 2) gi).trans c2
      have fq := (bq.2 g (k * 3 + 2) gi).trans (fr _)
      clear bq A2 c2 fr
      go_wp2_with fail
      go_roundw
      case rel =>
        refine ⟨k + 1, by omega, by go_num, ?_, (kw'.out.trans kq).setCell (p := ⟨g, _, none⟩) hg _⟩
        have os := (OW.out.kept kq).setText k (by have := LL.out; omega) (x.t.take 300)
        rw [S1.out, S2.out] at os
        rw [ba_extract, List.drop_zero, show x.t.take j = x.t.take 300 by
          have := J.out
          by_cases c : x.t.length ≤ 300
          · rw [List.take_of_length_le (by omega), List.take_of_length_le (by omega)]
          · rw [show j = 300 by omega]]
        exact os
      case measure => (simp [intOf]; try omega)
    · obtain rfl : k = n := by omega
      have e : (m.take k).map cut300 ++ m.drop k = m.map cut300 := by
        rw [List.take_of_length_le (by rw [LM.out]; omega), List.drop_of_length_le (by rw [LM.out]; omega), List.append_nil]
      rw [e] at own
      have OW := Lib.hid own
      have KW := Lib.hid kw
      clear own kw e
      go_wp2_with fail
      go_ret
      exact ⟨_, rfl, OW.out, KW.out⟩
set_option maxHeartbeats 1000000 in
set_option maxRecDepth 100000 in
theorem few_nil (w : World) : Calls Tryz.prog 20 #[.slice none 0 0] w (NewRow w []) := by
  have C := Lib.hid (fun w => copy_nil w)
  go_enter Tryz.func20, Tryz.ntmps20
  go_wp2_with fail
  refine (C.out _).mono ?_
  rintro e w1 ⟨v, rfl, o1, k1⟩
  obtain ⟨A, c1, rfl⟩ := o1.form
  have O1 := Lib.hid o1
  clear o1
  go_wp2_with fail
  go_loopw [4] (fun i wr => i = .int .i64 0 ∧ wr = w1) (fun i _ => 0)
  case atStart => exact ⟨rfl, rfl⟩
  case round =>
    obtain ⟨rfl, rfl⟩ := hrel
    go_wp2_with fail
    go_ret
    exact ⟨_, rfl, O1.out, k1⟩
theorem few_any (A : Option Addr) (len cap : Nat) (l : List Vl) (w : World) (h : ValsIn w A len cap l) : Calls Tryz.prog 20 #[.slice A len cap] w (NewRow w (few l)) := by
  have hm := h.max
  have ml : maxLen ≤ 9223372036854775807 := by decide
  have hl := h.len_eq
  subst hl
  cases A with
  | none =>
    obtain ⟨h0, rfl⟩ := h.nil rfl
    have : l = [] := List.eq_nil_of_length_eq_zero h0
    subst this
    exact few_nil w
  | some ad => exact few_some ad cap l w h.row h.le (by omega) (fun v hv => Nat.le_trans (h.wide v hv).2.2 ml)
end Go.Proofs.YtbpkfnoenkoabaaGreatDoor

namespace Go.Proofs.YtbpkfnoenkoabaaGreatDoor
set_option linter.unusedVariables false
set_option linter.unusedSimpArgs false
open Go.RowKit Lv
theorem Box.three {w : World} {p : Nat} {a : Vl} (h : Box w p 25 (cellsV a)) : p < w.heap.size ∧ w.cell? ⟨p, 0, none⟩ = some (.int .u8 a.k) ∧ w.cell? ⟨p, 1, none⟩ = some (.int .i64 a.n) ∧ w.cell? ⟨p, 2, none⟩ = some (.string ⟨a.t.toArray⟩) ∧ w.frozen? ⟨p, 0, none⟩ = false ∧ w.frozen? ⟨p, 1, none⟩ = false ∧ w.frozen? ⟨p, 2, none⟩ = false :=
  ⟨h.inside, h.cell 0, h.cell 1, h.cell 2, h.loose 0, h.loose 1, h.loose 2⟩
theorem Box.cells3 {w : World} {p : Nat} {T : TypeId} {a b c : Value} (h : Box w p T #[a, b, c]) : w.cell? ⟨p, 0, none⟩ = some a ∧ w.cell? ⟨p, 1, none⟩ = some b ∧ w.cell? ⟨p, 2, none⟩ = some c := ⟨h.cell 0, h.cell 1, h.cell 2⟩
end Go.Proofs.YtbpkfnoenkoabaaGreatDoor

namespace Go.Proofs.YtbpkfnoenkoabaaGreatDoor
set_option linter.unusedVariables false
set_option linter.unusedSimpArgs false
open Go.RowKit Lv
theorem ret_world {P : Program} {f : Func} {R : Ending → World → Prop} {x : Exit} {a : Act} {W : World} (F : World → Prop) (hF : F W) (h : ∀ wf, F wf → bodyPost P f R x a wf) : bodyPost P f R x a W := h W hF
structure Tri (w : World) (p : Nat) (a b c : Vl) : Prop where
  A : Box w p 25 (cellsV a)
  B : Box w (p + 1) 25 (cellsV b)
  C : Box w (p + 1 + 1) 25 (cellsV c)
theorem Tri.kept {w w' : World} {p : Nat} {a b c : Vl} (h : Tri w p a b c) (k : Kept w w') : Tri w' p a b c := ⟨h.A.kept k, h.B.kept k, h.C.kept k⟩
theorem Tri.made (w : World) (a b c : Vl) : Tri (((w.alloc (.cells (cellsV a) 25)).alloc (.cells (cellsV b) 25)).alloc (.cells (cellsV c) 25)) w.heap.size a b c :=
  ⟨((Box.new w _ _).alloc _).alloc _, (Box.newAt (by simp) _ _).alloc _, Box.newAt (by simp) _ _⟩
theorem Tri.far {w : World} {p g : Nat} {a b c : Vl} (h : Tri w p a b c) (hg : p + 1 + 1 < g) (x y z : Value) : Tri (((w.setCell ⟨g, 0, none⟩ x).setCell ⟨g, 1, none⟩ y).setCell ⟨g, 2, none⟩ z) p a b c := ⟨Box.far3 h.A (by omega), Box.far3 h.B (by omega), Box.far3 h.C (by omega)⟩
theorem Tri.inside {w : World} {p : Nat} {a b c : Vl} (h : Tri w p a b c) : p + 1 + 1 < w.heap.size := h.C.inside
end Go.Proofs.YtbpkfnoenkoabaaGreatDoor

namespace Go.Proofs.YtbpkfnoenkoabaaGreatDoor
set_option linter.unusedVariables false
set_option linter.unusedSimpArgs false
open Go.RowKit Lv
end Go.Proofs.YtbpkfnoenkoabaaGreatDoor

namespace Go.Proofs.YtbpkfnoenkoabaaGreatDoor
set_option linter.unusedVariables false
set_option linter.unusedSimpArgs false
open Go.RowKit Lv
theorem RowV.head {w : World} {b off : Nat} {a : Vl} {r : List Vl} (h : RowV w (some ⟨b, off, none⟩) (a :: r)) : b < w.heap.size ∧ w.cell? ⟨b, off, none⟩ = some (.int .u8 a.k) ∧ w.cell? ⟨b, off + 1, none⟩ = some (.int .i64 a.n) ∧ w.cell? ⟨b, off + 2, none⟩ = some (.string ⟨a.t.toArray⟩) := by
  obtain ⟨b', off', e, hb, x0, x1, x2⟩ := h 0 (by simp)
  cases e
  simp only [Nat.zero_mul, Nat.add_zero, List.getD_cons_zero] at x0 x1 x2
  exact ⟨hb, x0, x1, x2⟩
theorem RowV.second {w : World} {b off : Nat} {a c : Vl} {r : List Vl} (h : RowV w (some ⟨b, off, none⟩) (a :: c :: r)) : w.cell? ⟨b, off + 3, none⟩ = some (.int .u8 c.k) ∧ w.cell? ⟨b, off + 3 + 1, none⟩ = some (.int .i64 c.n) ∧ w.cell? ⟨b, off + 3 + 2, none⟩ = some (.string ⟨c.t.toArray⟩) := by
  obtain ⟨b', off', e, hb, x0, x1, x2⟩ := h 1 (by simp)
  cases e
  exact ⟨x0, x1, x2⟩
end Go.Proofs.YtbpkfnoenkoabaaGreatDoor

namespace Go.Proofs.YtbpkfnoenkoabaaGreatDoor
set_option linter.unusedVariables false
set_option linter.unusedSimpArgs false
open Go.RowKit Lv
theorem cut_text (t : List UInt8) {j : Nat} (hj : min (t.length : Int) 300 = (j : Int)) : (ByteArray.mk t.toArray).extract 0 j = ⟨(t.take 300).toArray⟩ := by
  rw [ba_extract, List.drop_zero]
  congr 2
  by_cases c : t.length ≤ 300
  · rw [List.take_of_length_le (by omega), List.take_of_length_le (by omega)]
  · rw [show j = 300 by omega]
theorem tmod_five (n : Int) : -5 < Int.tmod n 5 ∧ Int.tmod n 5 < 5 := by
  have h1 := Int.tmod_lt_of_pos n (b := 5) (by omega)
  have h2 := Int.tmod_lt_of_pos (-n) (b := 5) (by omega)
  rw [Int.neg_tmod] at h2
  omega
set_option maxHeartbeats 4000000 in
set_option maxRecDepth 100000 in
theorem good_any (v : Vl) (w : World) (hw : Wide v) : Calls Tryz.prog 36 #[aggV v] w fun e w' => e = .returned (aggV (vGood v)) ∧ Kept w w' := by
  obtain ⟨k, n, t⟩ := v
  obtain ⟨hk, ⟨n1, n2⟩, ht⟩ := hw
  simp only at hk n1 n2 ht
  have ml : maxLen ≤ 9223372036854775807 := by decide
  have tl : t.length ≤ 9223372036854775807 := Nat.le_trans ht ml
  obtain ⟨j, hj⟩ : ∃ j : Nat, min (t.length : Int) 300 = (j : Int) := ⟨min t.length 300, by omega⟩
  have jl : j ≤ t.length := by omega
  have hx := cut_text t hj
  have CK := Lib.hid (fun w => rcheck5_any ⟨k, n, t.take 300⟩ w ⟨n1, n2⟩ (by simp; omega))
  have lu : (t.take 300).length ≤ 300 := by rw [List.length_take]; omega
  have Z := ba_size
  have B1 : Hid (Box ((w.alloc (.cells (cellsV ⟨k, n, t.take 300⟩) 25)).alloc (.cells #[.int .u8 0, .int .i64 0, .string ⟨#[]⟩] 25)) (w.heap.size + 1) 25 (cellsV blankV)) := Lib.hid (Box.newAt (by simp) _ _)
  have B0 : Hid (Box ((w.alloc (.cells (cellsV ⟨k, n, t.take 300⟩) 25)).alloc (.cells #[.int .u8 0, .int .i64 0, .string ⟨#[]⟩] 25)) w.heap.size 25 (cellsV ⟨k, n, t.take 300⟩)) := Lib.hid ((Box.new w _ _).alloc _)
  clear ht ml
  have cut : cut300 ⟨k, n, t⟩ = ⟨k, n, t.take 300⟩ := rfl
  cases ok : vOk ⟨k, n, t.take 300⟩ with
  | true =>
    rw [chk_yes ok] at CK
    have EF : Hid (vGood ⟨k, n, t⟩ = ⟨k, n, t.take 300⟩) := by
      show _ = _
      exact (by unfold vGood; rw [cut, if_pos ok] : vGood ⟨k, n, t⟩ = ⟨k, n, t.take 300⟩)
    clear ok cut
    go_enter Tryz.func36, Tryz.ntmps36
    go_wp2_with fail
    refine (CK.out _).mono ?_
    rintro e w1 ⟨rfl, k1⟩
    obtain ⟨i0, p0, p1, p2, _⟩ := (B0.out.kept k1).three
    have C1 := Lib.hid (B1.out.kept k1)
    obtain ⟨j0, q0, q1, q2, g0, g1, g2⟩ := C1.out.three
    have KK : Hid (Kept w w1) := Lib.hid (Kept.trans (by repeat (first | with_reducible (first | exact Kept.refl _ | apply Kept.drew | apply Kept.drewN | apply Kept.alloc) | (with_reducible refine Kept.setCellX ?_ ?_ _; focus (first | (simp; done) | (simp; omega))) | with_reducible refine Kept.trans ?_ (by assumption))) k1)
    clear k1
    go_wp2_with fail
    refine ret_world (fun wf => Box wf (w.heap.size + 1) 25 (cellsV ⟨k, n, t.take 300⟩) ∧ Kept w wf) ⟨Box.set3 C1.out, KK.out.set3 (by omega)⟩ ?_
    rintro wf ⟨z0, kf⟩
    obtain ⟨e0, e1, e2⟩ := z0.cells3
    exact bodyPost_ret (v := aggV ⟨k, n, t.take 300⟩) (by simp [results, Tryz.results36, go_sem, e0, e1, e2]) rfl ⟨congrArg (fun z => Ending.returned (aggV z)) EF.out.symm, kf⟩
  | false =>
    rw [chk_no ok] at CK
    have EG : Hid (vGood ⟨k, n, t⟩ = if k % 5 = 2 then vTruth (decide (Int.tmod n 2 ≠ 0)) else if k % 5 = 3 then ⟨3, 0, [120]⟩ else if k % 5 = 4 then vFail (1 + Int.tmod (Int.tmod n 5 + 5) 5) else if k % 5 = 0 then ⟨0, 0, []⟩ else vMake (max n (-9223372036854775807))) := by
      show _ = _
      unfold vGood; rw [cut, if_neg (by rw [ok]; exact Bool.false_ne_true)]
    clear ok cut
    obtain ⟨q, hq⟩ : ∃ q : Nat, q = k % 5 := ⟨_, rfl⟩
    have q5 : q < 5 := by omega
    have km : (k : Int) % 5 = (q : Int) := by omega
    rw [← hq] at EG
    clear hq
    match q, q5 with
    | 0, _ =>
      have EF : Hid (vGood ⟨k, n, t⟩ = ⟨0, 0, []⟩) := EG
      have km : (k : Int) % 5 = 0 := km
      clear EG
      go_enter Tryz.func36, Tryz.ntmps36
      go_wp2_with fail
      refine (CK.out _).mono ?_
      rintro e w1 ⟨rfl, k1⟩
      obtain ⟨i0, p0, p1, p2, _⟩ := (B0.out.kept k1).three
      have C1 := Lib.hid (B1.out.kept k1)
      obtain ⟨j0, q0, q1, q2, g0, g1, g2⟩ := C1.out.three
      have KK : Hid (Kept w w1) := Lib.hid (Kept.trans (by repeat (first | with_reducible (first | exact Kept.refl _ | apply Kept.drew | apply Kept.drewN | apply Kept.alloc) | (with_reducible refine Kept.setCellX ?_ ?_ _; focus (first | (simp; done) | (simp; omega))) | with_reducible refine Kept.trans ?_ (by assumption))) k1)
      clear k1
      go_wp2_with fail
      refine ret_world (fun wf => Box wf (w.heap.size + 1) 25 (cellsV (⟨0, 0, []⟩ : Vl)) ∧ Kept w wf) ⟨Box.set3 C1.out, KK.out.set3 (by omega)⟩ ?_
      rintro wf ⟨z0, kf⟩
      obtain ⟨e0, e1, e2⟩ := z0.cells3
      exact bodyPost_ret (v := aggV (⟨0, 0, []⟩ : Vl)) (by simp [results, Tryz.results36, go_sem, e0, e1, e2]) rfl ⟨congrArg (fun z => Ending.returned (aggV z)) EF.out.symm, kf⟩
    | 1, _ =>
      have EF : Hid (vGood ⟨k, n, t⟩ = vMake (max n (-9223372036854775807))) := EG
      have km : (k : Int) % 5 = 1 := km
      obtain ⟨z, hz⟩ : ∃ z, max n (-9223372036854775807) = z := ⟨_, rfl⟩
      rw [hz] at EF
      have z1 : -9223372036854775808 ≤ z := by omega
      have z2 : z ≤ 9223372036854775807 := by omega
      have T := Lib.hid (fun w => rmake_any z w z1 z2)
      generalize vMake z = y at *
      clear EG
      go_enter Tryz.func36, Tryz.ntmps36
      go_wp2_with fail
      refine (CK.out _).mono ?_
      rintro e w1 ⟨rfl, k1⟩
      obtain ⟨i0, p0, p1, p2, _⟩ := (B0.out.kept k1).three
      have C1 := Lib.hid (B1.out.kept k1)
      obtain ⟨j0, q0, q1, q2, g0, g1, g2⟩ := C1.out.three
      have KK : Hid (Kept w w1) := Lib.hid (Kept.trans (by repeat (first | with_reducible (first | exact Kept.refl _ | apply Kept.drew | apply Kept.drewN | apply Kept.alloc) | (with_reducible refine Kept.setCellX ?_ ?_ _; focus (first | (simp; done) | (simp; omega))) | with_reducible refine Kept.trans ?_ (by assumption))) k1)
      clear k1
      go_wp2_with fail
      refine (T.out _).mono ?_
      rintro e w2 ⟨rfl, k2⟩
      have C1 := Lib.hid (C1.out.kept k2)
      have KK := Lib.hid (KK.out.trans k2)
      obtain ⟨j0, q0, q1, q2, g0, g1, g2⟩ := C1.out.three
      clear k2
      go_wp2_with fail
      refine ret_world (fun wf => Box wf (w.heap.size + 1) 25 (cellsV y) ∧ Kept w wf) ⟨Box.set3 C1.out, KK.out.set3 (by omega)⟩ ?_
      rintro wf ⟨z0, kf⟩
      obtain ⟨e0, e1, e2⟩ := z0.cells3
      exact bodyPost_ret (v := aggV y) (by simp [results, Tryz.results36, go_sem, e0, e1, e2]) rfl ⟨congrArg (fun z => Ending.returned (aggV z)) EF.out.symm, kf⟩
    | 2, _ =>
      have km : (k : Int) % 5 = 2 := km
      obtain ⟨bb, hb⟩ : ∃ bb, (Int.tmod n 2 != 0) = bb := ⟨_, rfl⟩
      have EF : Hid (vGood ⟨k, n, t⟩ = vTruth bb) := by
        show _ = _
        rw [EG.out, if_pos rfl, ← hb]
        congr 1
        by_cases c : Int.tmod n 2 = 0
        · rw [c]; rfl
        · rw [decide_eq_true c]; symm; rw [bne_iff_ne]; exact c
      have T := Lib.hid (fun w => rtruth_any bb w)
      clear EG
      go_enter Tryz.func36, Tryz.ntmps36
      go_wp2_with fail
      refine (CK.out _).mono ?_
      rintro e w1 ⟨rfl, k1⟩
      obtain ⟨i0, p0, p1, p2, _⟩ := (B0.out.kept k1).three
      have C1 := Lib.hid (B1.out.kept k1)
      obtain ⟨j0, q0, q1, q2, g0, g1, g2⟩ := C1.out.three
      have KK : Hid (Kept w w1) := Lib.hid (Kept.trans (by repeat (first | with_reducible (first | exact Kept.refl _ | apply Kept.drew | apply Kept.drewN | apply Kept.alloc) | (with_reducible refine Kept.setCellX ?_ ?_ _; focus (first | (simp; done) | (simp; omega))) | with_reducible refine Kept.trans ?_ (by assumption))) k1)
      clear k1
      go_wp2_with fail
      refine (T.out _).mono ?_
      rintro e w2 ⟨rfl, k2⟩
      have C1 := Lib.hid (C1.out.kept k2)
      have KK := Lib.hid (KK.out.trans k2)
      obtain ⟨j0, q0, q1, q2, g0, g1, g2⟩ := C1.out.three
      clear k2
      go_wp2_with fail
      refine ret_world (fun wf => Box wf (w.heap.size + 1) 25 (cellsV (vTruth bb)) ∧ Kept w wf) ⟨Box.set3 C1.out, KK.out.set3 (by omega)⟩ ?_
      rintro wf ⟨z0, kf⟩
      obtain ⟨e0, e1, e2⟩ := z0.cells3
      exact bodyPost_ret (v := aggV (vTruth bb)) (by simp [results, Tryz.results36, go_sem, e0, e1, e2]) rfl ⟨congrArg (fun z => Ending.returned (aggV z)) EF.out.symm, kf⟩
    | 3, _ =>
      have EF : Hid (vGood ⟨k, n, t⟩ = ⟨3, 0, [120]⟩) := EG
      have km : (k : Int) % 5 = 3 := km
      clear EG
      go_enter Tryz.func36, Tryz.ntmps36
      go_wp2_with fail
      refine (CK.out _).mono ?_
      rintro e w1 ⟨rfl, k1⟩
      obtain ⟨i0, p0, p1, p2, _⟩ := (B0.out.kept k1).three
      have C1 := Lib.hid (B1.out.kept k1)
      obtain ⟨j0, q0, q1, q2, g0, g1, g2⟩ := C1.out.three
      have KK : Hid (Kept w w1) := Lib.hid (Kept.trans (by repeat (first | with_reducible (first | exact Kept.refl _ | apply Kept.drew | apply Kept.drewN | apply Kept.alloc) | (with_reducible refine Kept.setCellX ?_ ?_ _; focus (first | (simp; done) | (simp; omega))) | with_reducible refine Kept.trans ?_ (by assumption))) k1)
      clear k1
      go_wp2_with fail
      refine ret_world (fun wf => Box wf (w.heap.size + 1) 25 (cellsV (⟨3, 0, [120]⟩ : Vl)) ∧ Kept w wf) ⟨Box.set3 C1.out, KK.out.set3 (by omega)⟩ ?_
      rintro wf ⟨z0, kf⟩
      obtain ⟨e0, e1, e2⟩ := z0.cells3
      exact bodyPost_ret (v := aggV (⟨3, 0, [120]⟩ : Vl)) (by simp [results, Tryz.results36, go_sem, e0, e1, e2]) rfl ⟨congrArg (fun z => Ending.returned (aggV z)) EF.out.symm, kf⟩
    | 4, _ =>
      have EF : Hid (vGood ⟨k, n, t⟩ = vFail (1 + Int.tmod (Int.tmod n 5 + 5) 5)) := EG
      have km : (k : Int) % 5 = 4 := km
      have t5 := tmod_five n
      obtain ⟨t51, t52⟩ := t5
      obtain ⟨z, hz⟩ : ∃ z, Int.tmod n 5 = z := ⟨_, rfl⟩
      rw [hz] at EF t51 t52
      have u5 := tmod_five (z + 5)
      obtain ⟨u51, u52⟩ := u5
      obtain ⟨y, hy⟩ : ∃ y, Int.tmod (z + 5) 5 = y := ⟨_, rfl⟩
      rw [hy] at EF u51 u52
      have T := Lib.hid (fun w => rfail_any (1 + y) w)
      generalize vFail (1 + y) = f at *
      clear EG
      go_enter Tryz.func36, Tryz.ntmps36
      go_wp2_with fail
      refine (CK.out _).mono ?_
      rintro e w1 ⟨rfl, k1⟩
      obtain ⟨i0, p0, p1, p2, _⟩ := (B0.out.kept k1).three
      have C1 := Lib.hid (B1.out.kept k1)
      obtain ⟨j0, q0, q1, q2, g0, g1, g2⟩ := C1.out.three
      have KK : Hid (Kept w w1) := Lib.hid (Kept.trans (by repeat (first | with_reducible (first | exact Kept.refl _ | apply Kept.drew | apply Kept.drewN | apply Kept.alloc) | (with_reducible refine Kept.setCellX ?_ ?_ _; focus (first | (simp; done) | (simp; omega))) | with_reducible refine Kept.trans ?_ (by assumption))) k1)
      clear k1
      go_wp2_with fail
      refine (T.out _).mono ?_
      rintro e w2 ⟨rfl, k2⟩
      have C1 := Lib.hid (C1.out.kept k2)
      have KK := Lib.hid (KK.out.trans k2)
      obtain ⟨j0, q0, q1, q2, g0, g1, g2⟩ := C1.out.three
      clear k2
      go_wp2_with fail
      refine ret_world (fun wf => Box wf (w.heap.size + 1) 25 (cellsV f) ∧ Kept w wf) ⟨Box.set3 C1.out, KK.out.set3 (by omega)⟩ ?_
      rintro wf ⟨z0, kf⟩
      obtain ⟨e0, e1, e2⟩ := z0.cells3
      exact bodyPost_ret (v := aggV f) (by simp [results, Tryz.results36, go_sem, e0, e1, e2]) rfl ⟨congrArg (fun z => Ending.returned (aggV z)) EF.out.symm, kf⟩
    | q + 5, h => exact absurd h (by omega)
end Go.Proofs.YtbpkfnoenkoabaaGreatDoor
