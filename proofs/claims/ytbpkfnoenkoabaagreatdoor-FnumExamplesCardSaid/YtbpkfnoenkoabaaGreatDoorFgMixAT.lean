/- Small texts together: MLogic2, MGood, GFew, MFlogic, GLogic2, GRef15. -/
import Derived.Test.YtbpkfnoenkoabaaGreatDoorFgMixAM
import Derived.Test.YtbpkfnoenkoabaaGreatDoorFgMixAO
set_option linter.unusedVariables false
set_option linter.unusedSimpArgs false
namespace Go.Proofs.YtbpkfnoenkoabaaGreatDoor.Lv
open Go
end Go.Proofs.YtbpkfnoenkoabaaGreatDoor.Lv

namespace Go.Proofs.YtbpkfnoenkoabaaGreatDoor.Lv
open Go
def cut300 (v : Vl) : Vl := { v with t := v.t.take 300 }
def few (l : List Vl) : List Vl := (l.take 20).map cut300
theorem few_length (l : List Vl) : (few l).length = min 20 l.length := by unfold few; simp
end Go.Proofs.YtbpkfnoenkoabaaGreatDoor.Lv

namespace Go.Proofs.YtbpkfnoenkoabaaGreatDoor
open Go.RowKit Lv
def NewRow (w : World) (l : List Vl) (e : Ending) (w' : World) : Prop := ∃ v, e = .returned v ∧ OwnV w' w.heap.size v l ∧ Kept w w'
theorem NewRow.open_ {w w' : World} {l : List Vl} {e : Ending} (h : NewRow w l e w') : ∃ A cap, e = .returned (.slice A l.length cap) ∧ RowV w' A l ∧ l.length ≤ cap ∧ (A = none → cap = 0) ∧ Kept w w' := by
  obtain ⟨v, rfl, hown, hk⟩ := h; rcases hown.2 with ⟨rfl, h0⟩ | ⟨g, cap, cur, rfl, hb, hh, h4, h5, h6, h7⟩
  · have : l = [] := List.eq_nil_of_length_eq_zero h0
    subst this; exact ⟨none, 0, rfl, RowV.nil _ _, Nat.le_refl _, fun _ => rfl, hk⟩
  · exact ⟨_, cap, rfl, RowV.box (t := 25) (cs := cur) hh h7, h4, fun h => (by cases h), hk⟩
theorem cut_step {m : List Vl} {k : Nat} (hk : k < m.length) : ((m.take k).map cut300 ++ m.drop k).getD k blankV = m.getD k blankV ∧ ((m.take k).map cut300 ++ m.drop k).set k { m.getD k blankV with t := (m.getD k blankV).t.take 300 } = (m.take (k + 1)).map cut300 ++ m.drop (k + 1) := by
  have l1 : ((m.take k).map cut300).length = k := by rw [List.length_map, List.length_take]; omega
  have e0 : m.drop k = m[k] :: m.drop (k + 1) := List.drop_eq_getElem_cons hk; have e1 : m.getD k blankV = m[k] := by simp [List.getD, hk]
  refine ⟨?_, ?_⟩
  · rw [e0, e1, List.getD, List.getElem?_append_right (by omega), l1, Nat.sub_self]; rfl
  · rw [e1, List.set_append_right _ _ (by omega), l1, Nat.sub_self, e0, List.set_cons_zero]
    have e2 : m.take (k + 1) = m.take k ++ [m[k]] := by rw [List.take_succ_eq_append_getElem hk]
    rw [e2, List.map_append, List.append_assoc]
    rfl
theorem OwnV.at_ {w : World} {base n cap : Nat} {A : Option Addr} {l : List Vl} (h : OwnV w base (.slice A n cap) l) {i : Nat} (hi : i < l.length) :
    ∃ g, A = some ⟨g, 0, none⟩ ∧ base ≤ g ∧ g < w.heap.size ∧ n = l.length ∧ n ≤ cap ∧ w.cell? ⟨g, i * 3, none⟩ = some (.int .u8 (l.getD i blankV).k) ∧ w.cell? ⟨g, i * 3 + 1, none⟩ = some (.int .i64 (l.getD i blankV).n) ∧ w.cell? ⟨g, i * 3 + 2, none⟩ = some (.string ⟨(l.getD i blankV).t.toArray⟩) ∧ ∀ o, w.frozen? ⟨g, o, none⟩ = false := by
  rcases h.2 with ⟨_, h0⟩ | ⟨g, cap', cur, e, hg, hh, h4, h5, h6, h7⟩
  · omega
  · cases e
    have hr := RowV.box (t := 25) (cs := cur) hh h7 i hi; obtain ⟨b, off, e, _, c0, c1, c2⟩ := hr
    cases e
    rw [Nat.zero_add] at c0 c1 c2; exact ⟨g, rfl, hg, (Array.getElem?_eq_some_iff.1 hh).1, rfl, h4, c0, c1, c2, fun o => Box.loose (t := 25) (cs := cur) hh o⟩
theorem OwnV.form {w : World} {base : Nat} {v : Value} {l : List Vl} (h : OwnV w base v l) : ∃ A cap, v = .slice A l.length cap := by
  obtain ⟨A, cap, e, _⟩ := h.row; exact ⟨A, cap, e⟩
theorem copy_nil (w : World) : Calls Tryz.prog 58 #[.slice none 0 0] w (NewRow w []) := by
  have own := Lib.hid (OwnV.nil w w.heap.size); go_enter Tryz.func58, Tryz.ntmps58; go_wp2_with (refine append_none rfl _ _ rfl w.heap.size _ _ rfl own.out rfl ?_); go_ret; exact ⟨_, rfl, own.out, Kept.refl w⟩
theorem copy_row (ad : Addr) (cap : Nat) (l : List Vl) (w : World) (hr : RowV w (some ad) l) (hl : l.length ≤ 100000) : Calls Tryz.prog 58 #[.slice (some ad) l.length cap] w (NewRow w l) := by
  have own := Lib.hid (OwnV.nil w w.heap.size); have HR := Lib.hid hr; clear hr; go_enter Tryz.func58, Tryz.ntmps58; go_wp2_with (refine append_vals rfl _ _ rfl w.heap.size _ _ l rfl own.out ad cap rfl HR.out (by simp; omega) (Nat.le_refl _) ?_; intro v1 w1 o1 gr); go_ret; exact ⟨_, rfl, o1, own.out.grown (Nat.le_refl _) (Kept.refl w) gr⟩
set_option maxHeartbeats 1000000 in
set_option maxRecDepth 100000 in
theorem few_some (ad : Addr) (cap : Nat) (l : List Vl) (w : World) (hr : RowV w (some ad) l) (hl : l.length ≤ cap) (hc : cap ≤ 9223372036854775807) (ht : ∀ v ∈ l, v.t.length ≤ 9223372036854775807) : Calls Tryz.prog 20 #[.slice (some ad) l.length cap] w (NewRow w (few l)) := by
  obtain ⟨n, hn⟩ : ∃ n : Nat, n = min l.length 20 := ⟨_, rfl⟩; have hmin : min (l.length : Int) 20 = (n : Int) := by omega
  obtain ⟨m, hm⟩ : ∃ m, m = l.take 20 := ⟨_, rfl⟩; have lm : m.length = n := by rw [hm, List.length_take]; omega
  have fm : few l = m.map cut300 := by rw [hm]; rfl
  have C := Lib.hid (fun w (h : RowV w (some ad) m) => copy_row ad cap m w h (by omega)); have tm : ∀ v ∈ m, v.t.length ≤ 9223372036854775807 := fun v hv => ht v (by rw [hm] at hv; exact List.mem_of_mem_take hv); rw [lm] at C; rw [fm]; have HR := Lib.hid (hr.take 20); rw [← hm] at HR; have n20 : n ≤ 20 := by omega
  have nl : n ≤ l.length := by omega
  have LM := Lib.hid lm; have TM := Lib.hid tm; clear hr ht fm hn lm hm tm; go_enter Tryz.func20, Tryz.ntmps20; go_wp2_with fail; refine (C.out _ HR.out).mono ?_; rintro e w1 ⟨v, rfl, o1, k1⟩; go_wp2_with fail; obtain ⟨A, c1, rfl⟩ := o1.form; have len1 := Lib.hid (show m.length = n from LM.out); have O1 := Lib.hid o1; clear o1; rw [LM.out] at O1 ⊢
  go_loopw [4] (fun i wr => ∃ k : Nat, k ≤ n ∧ i = .int .i64 k ∧ OwnV wr w.heap.size (.slice A n c1) ((m.take k).map cut300 ++ m.drop k) ∧ Kept w wr) (fun i _ => n - (intOf i).toNat)
  case atStart => exact ⟨0, by omega, rfl, by simpa using O1.out, k1⟩
  case round =>
    obtain ⟨k, hk, rfl, own, kw⟩ := hrel
    by_cases hlt : k < n
    · have st := cut_step (m := m) (k := k) (by rw [LM.out]; exact hlt)
      have ll : ((m.take k).map cut300 ++ m.drop k).length = n := by simp [LM.out]; omega
      obtain ⟨g, rfl, hg, gi, nc, _, c0, c1', c2, fr⟩ := own.at_ (i := k) (by omega); rw [st.1] at c0 c1' c2
      have tk : (m.getD k blankV).t.length ≤ 9223372036854775807 := by
        have hkm : k < m.length := by rw [LM.out]; exact hlt
        refine TM.out _ ?_; rw [show m.getD k blankV = m[k] by simp [List.getD, hkm]]; exact List.getElem_mem hkm
      have S1 := Lib.hid st.1; have S2 := Lib.hid st.2; have LL := Lib.hid ll; have OW := Lib.hid own; generalize m.getD k blankV = x at *; obtain ⟨j, hj⟩ : ∃ j : Nat, min (x.t.length : Int) 300 = (j : Int) := ⟨min x.t.length 300, by omega⟩; have J := Lib.hid hj; have jl : j ≤ x.t.length := by omega
      have Z := ba_size; have kw' := Lib.hid kw; clear st ll own c0 c1' nc kw; go_wp2_with fail; have A2 := cell_regrown c2; refine region_quiet_tail (C := fun w' => ∃ p : Regrown, w' = Go.Sort.grow (redrawn wr p.d) p.os) 17 (by kernel_rfl) (by kernel_rfl) ⟨⟨wr.drawn + 1, #[]⟩, by rw [Go.Sort.grow_empty]; rfl⟩ ?_
      simp only [List.take_succ_cons, List.take_zero, List.drop_succ_cons, List.drop_zero]
      repeat (quiet_step (fail))
      refine wpQuiet_nil ?_; intro _ hw'; obtain ⟨⟨dq, osq⟩, hw''⟩ := hw'; subst hw''; have kq : Kept wr (Go.Sort.grow (redrawn wr dq) osq) := below_regrown wr dq osq; generalize Go.Sort.grow (redrawn wr dq) osq = wrq at *; have bq := bcell kq; have cq := (bq.1 g (k * 3 + 2) gi).trans c2; have fq := (bq.2 g (k * 3 + 2) gi).trans (fr _); clear bq A2 c2 fr; go_wp2_with fail
      go_roundw
      case rel =>
        refine ⟨k + 1, by omega, by go_num, ?_, (kw'.out.trans kq).setCell (p := ⟨g, _, none⟩) hg _⟩; have os := (OW.out.kept kq).setText k (by have := LL.out; omega) (x.t.take 300); rw [S1.out, S2.out] at os
        rw [ba_extract, List.drop_zero, show x.t.take j = x.t.take 300 by
          have := J.out
          by_cases c : x.t.length ≤ 300
          · rw [List.take_of_length_le (by omega), List.take_of_length_le (by omega)]
          · rw [show j = 300 by omega]]
        exact os
      case measure => (simp [intOf]; try omega)
    · obtain rfl : k = n := by omega
      have e : (m.take k).map cut300 ++ m.drop k = m.map cut300 := by
        rw [List.take_of_length_le (by rw [LM.out]; omega), List.drop_of_length_le (by rw [LM.out]; omega), List.append_nil]
      rw [e] at own; have OW := Lib.hid own; have KW := Lib.hid kw; clear own kw e; go_wp2_with fail; go_ret; exact ⟨_, rfl, OW.out, KW.out⟩
set_option maxHeartbeats 1000000 in
set_option maxRecDepth 100000 in
theorem few_nil (w : World) : Calls Tryz.prog 20 #[.slice none 0 0] w (NewRow w []) := by
  have C := Lib.hid (fun w => copy_nil w); go_enter Tryz.func20, Tryz.ntmps20; go_wp2_with fail; refine (C.out _).mono ?_; rintro e w1 ⟨v, rfl, o1, k1⟩; obtain ⟨A, c1, rfl⟩ := o1.form; have O1 := Lib.hid o1; clear o1; go_wp2_with fail
  go_loopw [4] (fun i wr => i = .int .i64 0 ∧ wr = w1) (fun i _ => 0)
  case atStart => exact ⟨rfl, rfl⟩
  case round =>
    obtain ⟨rfl, rfl⟩ := hrel; go_wp2_with fail; go_ret; exact ⟨_, rfl, O1.out, k1⟩
theorem few_any (A : Option Addr) (len cap : Nat) (l : List Vl) (w : World) (h : ValsIn w A len cap l) : Calls Tryz.prog 20 #[.slice A len cap] w (NewRow w (few l)) := by
  have hm := h.max; have ml : maxLen ≤ 9223372036854775807 := by decide
  have hl := h.len_eq; subst hl
  cases A with
  | none =>
    obtain ⟨h0, rfl⟩ := h.nil rfl; have : l = [] := List.eq_nil_of_length_eq_zero h0; subst this; exact few_nil w
  | some ad => exact few_some ad cap l w h.row h.le (by omega) (fun v hv => Nat.le_trans (h.wide v hv).2.2 ml)
theorem few_wide {l : List Vl} (h : ∀ v ∈ l, Wide v) : ∀ v ∈ few l, i64 v.n ∧ v.t.length ≤ 300 := by
  intro v hv; obtain ⟨u, hu, rfl⟩ := List.mem_map.1 hv; exact ⟨(h u (List.mem_of_mem_take hu)).2.1, by simp [cut300]; omega⟩
theorem equal_vals (A B : Option Addr) (c d : Nat) (l : List Vl) (w : World) (ha : RowV w A l) (hb : RowV w B l) (hl : l.length ≤ 100000) : Calls Tryz.prog 23 #[.slice A l.length c, .slice B l.length d] w fun e w' => e = .returned (.bool true) ∧ Kept w w' := by
  obtain ⟨n, hn⟩ : ∃ n, n = l.length := ⟨_, rfl⟩; rw [← hn]; have HN := Lib.hid hn; have HA := Lib.hid ha; have HB := Lib.hid hb; rw [← hn] at hl; clear hn ha hb; go_enter Tryz.func23, Tryz.ntmps23; go_wp2_with fail
  go_loopw [5] (fun i wr => ∃ k : Nat, k ≤ n ∧ i = .int .i64 k ∧ Kept w wr) (fun i _ => n - (intOf i).toNat)
  case atStart => exact ⟨0, by omega, rfl, Kept.refl w⟩
  case round =>
    obtain ⟨k, hk, rfl, kw⟩ := hrel
    by_cases hlt : k < n
    · obtain ⟨b, o, rfl, _, x0, x1, x2⟩ := (HA.out.kept kw) k (by rw [← HN.out]; exact hlt)
      obtain ⟨b', o', rfl, _, y0, y1, y2⟩ := (HB.out.kept kw) k (by rw [← HN.out]; exact hlt); generalize l.getD k blankV = v at *; have KW := Lib.hid kw; clear kw; go_wp2_with fail; have A0 := cell_regrown x0; have A1 := cell_regrown x1; have A2 := cell_regrown x2; have B0 := cell_regrown y0; have B1 := cell_regrown y1; have B2 := cell_regrown y2; refine wp_region_quiet_below (w := wr) (by kernel_rfl) (by kernel_rfl) ?_
      repeat (quiet_step (fail))
      refine wpQuiet_nil ?_; intro _ hw'; obtain ⟨⟨dq, osq⟩, hw''⟩ := hw'; subst hw''; have kq : Kept wr (Go.Sort.grow (redrawn wr dq) osq) := below_regrown wr dq osq; generalize Go.Sort.grow (redrawn wr dq) osq = wrq at *; clear A0 A1 A2 B0 B1 B2 x0 x1 x2 y0 y1 y2; go_wp2_with fail
      go_roundw
      case rel => exact ⟨k + 1, by omega, by go_num, KW.out.trans kq⟩
      case measure => (simp [intOf]; try omega)
    · obtain rfl : k = n := by omega
      go_wp2_with fail; go_ret; exact ⟨rfl, kw⟩
end Go.Proofs.YtbpkfnoenkoabaaGreatDoor

namespace Go.Proofs.YtbpkfnoenkoabaaGreatDoor.Lv
open Go
end Go.Proofs.YtbpkfnoenkoabaaGreatDoor.Lv

namespace Go.Proofs.YtbpkfnoenkoabaaGreatDoor
open Go.RowKit Lv
theorem Box.three {w : World} {p : Nat} {a : Vl} (h : Box w p 25 (cellsV a)) : p < w.heap.size ∧ w.cell? ⟨p, 0, none⟩ = some (.int .u8 a.k) ∧ w.cell? ⟨p, 1, none⟩ = some (.int .i64 a.n) ∧ w.cell? ⟨p, 2, none⟩ = some (.string ⟨a.t.toArray⟩) ∧ w.frozen? ⟨p, 0, none⟩ = false ∧ w.frozen? ⟨p, 1, none⟩ = false ∧ w.frozen? ⟨p, 2, none⟩ = false :=
  ⟨h.inside, h.cell 0, h.cell 1, h.cell 2, h.loose 0, h.loose 1, h.loose 2⟩
end Go.Proofs.YtbpkfnoenkoabaaGreatDoor

namespace Go.Proofs.YtbpkfnoenkoabaaGreatDoor
open Go.RowKit Lv
set_option maxHeartbeats 1000000 in
set_option maxRecDepth 100000 in
theorem valid13_any (A : Option Addr) (cap : Nat) (l : List Vl) (w : World) (hr : RowV w A l) (hs : ∀ v ∈ l, Small v) (hl : l.length ≤ 1000000) :
    Calls Tryz.prog 63 #[.slice A l.length cap] w fun e w' => e = .returned (.bool (l.all vOk)) ∧ Kept w w' := by
  obtain ⟨n, hn⟩ : ∃ n, n = l.length := ⟨_, rfl⟩; have HN := Lib.hid hn; have HR := Lib.hid hr; have HS := Lib.hid hs; rw [← hn] at hl ⊢; clear hn hr hs; go_enter Tryz.func63, Tryz.ntmps63; go_wp2_with fail
  go_loopw [3] (fun i wr => ∃ k : Nat, k ≤ n ∧ i = .int .i64 k ∧ (∀ v ∈ l.take k, vOk v = true) ∧ Kept w wr) (fun i _ => n - (intOf i).toNat)
  case atStart => exact ⟨0, by omega, rfl, fun v hv => by simp at hv, Kept.refl w⟩
  case round =>
    obtain ⟨k, hk, rfl, hok, kw⟩ := hrel; have HOK := Lib.hid hok; have KW := Lib.hid kw; clear hok kw
    by_cases hlt : k < n
    · have hkl : k < l.length := by rw [← HN.out]; exact hlt
      obtain ⟨b, off, rfl, _, x0, x1, x2⟩ := (HR.out.kept KW.out) k hkl; have hmem : l.getD k blankV ∈ l := by rw [show l.getD k blankV = l[k] by simp [List.getD, hkl]]; exact List.getElem_mem hkl
      have sv := HS.out _ hmem; have CK := Lib.hid (fun w => rcheck5_any (l.getD k blankV) w sv.1 (by have := sv.2; omega))
      have tk : l.take (k + 1) = l.take k ++ [l.getD k blankV] := by
        rw [List.take_succ_eq_append_getElem hkl, show l.getD k blankV = l[k] by simp [List.getD, hkl]]
      have TK := Lib.hid tk; have HMEM := Lib.hid hmem; clear tk sv hmem; generalize l.getD k blankV = x at *
      by_cases ok : vOk x = true
      · have OK := Lib.hid ok
        rw [chk_yes ok] at CK; clear ok; go_wp2_with fail; refine (CK.out _).mono ?_; rintro e w2 ⟨rfl, k2⟩; have K2 := Lib.hid k2; clear k2; go_wp2_with fail
        go_roundw
        case rel =>
          refine ⟨k + 1, by omega, by go_num, fun v hv => ?_, KW.out.trans K2.out⟩; rw [TK.out] at hv; rcases List.mem_append.1 hv with hv | hv
          · exact HOK.out v hv
          · rw [List.mem_singleton] at hv; subst hv; exact OK.out
        case measure => (simp [intOf]; try omega)
      · rw [chk_no (by simpa using ok)] at CK
        have EF : Hid (l.all vOk = false) := by
          show _ = _; rw [List.all_eq_false]; exact ⟨x, HMEM.out, by simpa using ok⟩
        clear ok; go_wp2_with fail; refine (CK.out _).mono ?_; rintro e w2 ⟨rfl, k2⟩; go_wp2_with fail; go_ret; exact ⟨ret_bool EF.out.symm, KW.out.trans k2⟩
    · obtain rfl : k = n := by omega
      have e : l.take k = l := List.take_of_length_le (by rw [← HN.out]; omega)
      have EF : Hid (l.all vOk = true) := by
        show _ = _; rw [List.all_eq_true]; have := HOK.out
        rwa [e] at this
      clear e; go_wp2_with fail; go_ret; exact ⟨ret_bool EF.out.symm, KW.out⟩
end Go.Proofs.YtbpkfnoenkoabaaGreatDoor
