/- Layer 15: fold, conditions, choice. -/
import Derived.Test.YtipkjpcedfokhaaDoorGLogic1
import Derived.Test.YtipkjpcedfokhaaDoorGFew
import Derived.Test.YtipkjpcedfokhaaDoorMFlogic
import Derived.Test.YtipkjpcedfokhaaDoorMVal3
namespace Go.Proofs.YtipkjpcedfokhaaDoor
set_option linter.unusedVariables false
set_option linter.unusedSimpArgs false
open Go.RowKit Lv

theorem Box.three {w : World} {p : Nat} {a : Vl} (h : Box w p 35 (cellsV a)) : p < w.heap.size ∧ w.cell? ⟨p, 0, none⟩ = some (.int .u8 a.k) ∧ w.cell? ⟨p, 1, none⟩ = some (.int .i64 a.n) ∧ w.cell? ⟨p, 2, none⟩ = some (.string ⟨a.t.toArray⟩) ∧ w.frozen? ⟨p, 0, none⟩ = false ∧ w.frozen? ⟨p, 1, none⟩ = false ∧ w.frozen? ⟨p, 2, none⟩ = false :=
  ⟨h.inside, h.cell 0, h.cell 1, h.cell 2, h.loose 0, h.loose 1, h.loose 2⟩
theorem Box.cells3 {w : World} {p : Nat} {T : TypeId} {a b c : Value} (h : Box w p T #[a, b, c]) : w.cell? ⟨p, 0, none⟩ = some a ∧ w.cell? ⟨p, 1, none⟩ = some b ∧ w.cell? ⟨p, 2, none⟩ = some c := ⟨h.cell 0, h.cell 1, h.cell 2⟩
/-- what is read behind three stores, as the walk spells it -/
theorem Box.stored3 {w : World} {p : Nat} {T : TypeId} {a b c : Value} (h : Box w p T #[a, b, c]) (x y z : Value) : (w.setCell ⟨p, 0, none⟩ x).cell? ⟨p, 0, none⟩ = some x ∧ ((w.setCell ⟨p, 0, none⟩ x).setCell ⟨p, 1, none⟩ y).cell? ⟨p, 1, none⟩ = some y ∧ (((w.setCell ⟨p, 0, none⟩ x).setCell ⟨p, 1, none⟩ y).setCell ⟨p, 2, none⟩ z).cell? ⟨p, 2, none⟩ = some z :=
  ⟨(h.at_ 0 x).cell 0, ((h.at_ 0 x).at_ 1 y).cell 1, (((h.at_ 0 x).at_ 1 y).at_ 2 z).cell 2⟩
theorem counts1_any (n : Int) (k : Nat) (m : Int) (t : List UInt8) (w : World) (h : -1000 ≤ n) (h2 : n ≤ 1000) (h3 : -1000 ≤ m) (h4 : m ≤ 1000) : Calls Tryd.prog 143 #[.int .i64 n, .agg #[.int .u8 k, .int .i64 m, .string ⟨t.toArray⟩]] w fun e w' => e = .returned (.int .i64 (n + m)) ∧ Kept w w' := by
  go_enter Tryd.func143, Tryd.ntmps143
  go_wp2_with fail
  go_ret
  exact ⟨rfl, (by repeat (first | with_reducible exact Kept.refl _ | with_reducible apply Kept.drew | with_reducible apply Kept.drewN | with_reducible apply Kept.alloc | (with_reducible refine Kept.setCellX ?_ ?_ _; focus (first | (simp; done) | (simp; omega))) | (with_reducible refine Kept.trans ?_ (by assumption))))⟩
theorem last15_any (u v : Vl) (w : World) : Calls Tryd.prog 146 #[aggV u, aggV v] w fun e w' => e = .returned (aggV v) ∧ Kept w w' := by
  go_enter Tryd.func146, Tryd.ntmps146
  go_wp2_with fail
  exact bodyPost_ret (v := aggV v) (by simp [results, Tryd.results146, go_sem]) rfl ⟨rfl, (by repeat (first | with_reducible exact Kept.refl _ | with_reducible apply Kept.drew | with_reducible apply Kept.drewN | with_reducible apply Kept.alloc | (with_reducible refine Kept.setCellX ?_ ?_ _; focus (first | (simp; done) | (simp; omega))) | (with_reducible refine Kept.trans ?_ (by assumption))))⟩
theorem firstE_append_none {l m : List Vl} (h : firstE l = none) : firstE (l ++ m) = firstE m := by unfold firstE at *; rw [List.find?_append, h]; rfl
/-- what fold yields where the first error is f, and out otherwise -/
def foldE (first out : Value) (f : Option Vl) : Value := match f with
  | some e => .tuple #[first, aggV e, .bool false]
  | none => .tuple #[out, aggV blankV, .bool true]
theorem trues_snoc (l : List Vl) (v : Vl) : trues (l ++ [v]) = trues l + v.n := by unfold trues; simp
theorem bool_small (v : Vl) (h : isE (vBool v) = false) : 0 ≤ (vBool v).n ∧ (vBool v).n ≤ 1 := by
  have b := bool_kinds v
  have k2 := not_error b.2 h
  rcases ok_cases b.1 with e | ⟨n, hn, e⟩ | e | e | ⟨t, ht, e⟩ | ⟨c, h1, h2, e⟩ <;> rw [e] at k2 ⊢ <;> first | (exact ⟨by decide, by decide⟩) | cases k2
theorem trues_small (l : List Vl) (h : firstE (l.map vBool) = none) : 0 ≤ trues (l.map vBool) ∧ trues (l.map vBool) ≤ l.length := by
  induction l with
  | nil => exact ⟨by decide, by decide⟩
  | cons a l ih =>
    have he : isE (vBool a) = false := by
      cases e : isE (vBool a) with
      | false => rfl
      | true => rw [List.map_cons, firstE_cons_yes e] at h; cases h
    rw [List.map_cons, firstE_cons_no he] at h
    have b := bool_small a he
    have i := ih h
    unfold trues at i ⊢
    rw [List.map_cons, List.map_cons, List.sum_cons, List.length_cons]
    omega

set_option maxHeartbeats 2000000 in
set_option maxRecDepth 100000 in
theorem foldI_any (A : Option Addr) (cap : Nat) (l : List Vl) (w : World) (hr : RowV w A l) (hs : ∀ v ∈ l, Small v) (hl : l.length ≤ 100) :
    Calls Tryd.prog 142 #[.slice A l.length cap, .func (.func 53) #[] #[], .int .i64 0, .func (.func 143) #[] #[]] w
      fun e w' => e = .returned (foldE (.int .i64 0) (.int .i64 (trues (l.map vBool))) (firstE (l.map vBool))) ∧ Kept w w' := by
  obtain ⟨n, hn⟩ : ∃ n, n = l.length := ⟨_, rfl⟩
  rw [← hn]
  have HN := Lib.hid hn
  have HR := Lib.hid hr
  have HS := Lib.hid hs
  rw [← hn] at hl
  clear hn hr hs
  go_enter Tryd.func142, Tryd.ntmps142
  go_wp2_with fail
  have bx0 : Box (w.alloc (.cells #[.int .u8 0, .int .i64 0, .string ⟨#[]⟩] 35)) w.heap.size 35 (cellsV blankV) := Box.new w _ _
  go_loopw [8, 17] (fun o i wr => ∃ k : Nat, k ≤ n ∧ i = .int .i64 k ∧ o = .int .i64 (trues ((l.take k).map vBool)) ∧ firstE ((l.take k).map vBool) = none ∧ Kept w wr ∧ Box wr w.heap.size 35 (cellsV blankV)) (fun _ i _ => n - (intOf i).toNat)
  case atStart => exact ⟨0, by omega, rfl, rfl, rfl, (by repeat (first | with_reducible exact Kept.refl _ | with_reducible apply Kept.drew | with_reducible apply Kept.drewN | with_reducible apply Kept.alloc | (with_reducible refine Kept.setCellX ?_ ?_ _; focus (first | (simp; done) | (simp; omega))) | (with_reducible refine Kept.trans ?_ (by assumption)))), bx0⟩
  case round =>
    obtain ⟨k, hk, rfl, rfl, hf, kw, bx⟩ := hrel
    clear bx0
    by_cases hlt : k < n
    · have hkl : k < l.length := by rw [← HN.out]; exact hlt
      obtain ⟨b, o, rfl, _, x0, x1, x2⟩ := (HR.out.kept kw) k hkl
      have sv := HS.out (l.getD k blankV) (by rw [show l.getD k blankV = l[k] by simp [List.getD, hkl]]; exact List.getElem_mem hkl)
      have ts := trues_small (l.take k) hf
      have lk : (l.take k).length = k := by rw [List.length_take]; omega
      rw [lk] at ts
      have tk : (l.take (k + 1)).map vBool = (l.take k).map vBool ++ [vBool (l.getD k blankV)] := by
        rw [List.take_succ_eq_append_getElem hkl, List.map_append, show l.getD k blankV = l[k] by simp [List.getD, hkl]]; rfl
      have TK := Lib.hid tk
      have HF := Lib.hid hf
      have TB := Lib.hid (fun w => tobool_any (l.getD k blankV) w sv.1 sv.2)
      have BX := Lib.hid bx
      have KW := Lib.hid kw
      have bs := fun h => bool_small (l.getD k blankV) h
      have dk : l.map vBool = (l.take k).map vBool ++ (vBool (l.getD k blankV) :: (l.drop (k + 1)).map vBool) := by
        conv => lhs; rw [← List.take_append_drop k l]
        rw [List.map_append, List.drop_eq_getElem_cons hkl, List.map_cons, show l.getD k blankV = l[k] by simp [List.getD, hkl]]
      have DK := Lib.hid dk
      clear hf tk sv dk bx kw lk
      generalize vBool (l.getD k blankV) = y at *
      generalize l.getD k blankV = x at *
      obtain ⟨t0, t1⟩ := ts
      obtain ⟨tr, htr⟩ : ∃ z, z = trues ((l.take k).map vBool) := ⟨_, rfl⟩
      rw [← htr] at t0 t1 ⊢
      have HT := Lib.hid htr
      clear htr
      cases he : isE y with
      | true =>
        have yk : ((y.k : Int) == 4) = true := by have := isE_iff.1 he; rw [beq_iff_eq]; omega
        have HE := Lib.hid he
        clear bs he
        go_wp2_with fail
        refine (TB.out _).mono ?_
        rintro e w1 ⟨rfl, k1⟩
        have kz := (KW.out.alloc (.cells #[.int .u8 x.k, .int .i64 x.n, .string ⟨x.t.toArray⟩] 35)).trans k1
        have bz := (BX.out.alloc (.cells #[.int .u8 x.k, .int .i64 x.n, .string ⟨x.t.toArray⟩] 35)).kept k1
        have by0 : Box (w1.alloc (.cells #[.int .u8 y.k, .int .i64 y.n, .string ⟨y.t.toArray⟩] 35)) w1.heap.size 35 (cellsV y) := Box.new w1 _ _
        obtain ⟨i0, z0, z1, z2, f0, f1, f2⟩ := bz.three
        have KZ := Lib.hid kz
        have BZ := Lib.hid bz
        have IZ : w.heap.size < w1.heap.size + 1 := by omega
        clear kz bz k1
        have EF : Hid (foldE (.int .i64 0) (.int .i64 (trues (l.map vBool))) (firstE (l.map vBool)) = .tuple #[.int .i64 0, aggV y, .bool false]) := by
          show _ = _
          rw [DK.out, firstE_append_none HF.out, firstE_cons_yes HE.out]; rfl
        go_wp2_with fail
        go_region
        go_wp2_with fail
        have bf := (((Box.set3 (a' := .int .u8 y.k) (b' := .int .i64 y.n) (c' := .string ⟨y.t.toArray⟩) BZ.out).alloc (.cells #[.int .u8 y.k, .int .i64 y.n, .string ⟨y.t.toArray⟩] 35)).drew)
        obtain ⟨_, y0, y1, y2, _⟩ := Box.three (a := y) bf
        exact bodyPost_ret (v := .tuple #[.int .i64 0, aggV y, .bool false]) (by simp [results, Tryd.results142, go_sem, y0, y1, y2]) rfl ⟨by rw [EF.out], (((Kept.set3 KZ.out (Nat.le_refl _)).alloc _).drew)⟩
      | false =>
        have yk : ((y.k : Int) == 4) = false := by rw [beq_eq_false_iff_ne]; intro h; rw [isE_iff.2 (by omega)] at he; cases he
        have C1 := Lib.hid (fun w => counts1_any tr y.k y.n y.t w (by omega) (by omega) (by have := bs he; omega) (by have := bs he; omega))
        have HE := Lib.hid he
        clear bs he
        go_wp2_with fail
        refine (TB.out _).mono ?_
        rintro e w1 ⟨rfl, k1⟩
        go_wp2_with fail
        refine (C1.out _).mono ?_
        rintro e w2 ⟨rfl, k2⟩
        have ka := (Kept.alloc (Kept.refl wr) (.cells #[.int .u8 x.k, .int .i64 x.n, .string ⟨x.t.toArray⟩] 35)).trans k1
        have kb := (ka.alloc (.cells #[.int .u8 y.k, .int .i64 y.n, .string ⟨y.t.toArray⟩] 35)).trans k2
        have KB := Lib.hid kb
        clear ka kb k1 k2
        go_wp2_with fail
        go_roundw
        case rel => exact ⟨k + 1, by omega, by go_num, by rw [TK.out, trues_snoc, ← HT.out], by rw [TK.out, firstE_snoc, HF.out, HE.out]; rfl, KW.out.trans KB.out, BX.out.kept KB.out⟩
        case measure => (simp [intOf]; try omega)
    · obtain rfl : k = n := by omega
      have e : l.take k = l := List.take_of_length_le (by rw [← HN.out]; omega)
      have EF : Hid (foldE (.int .i64 0) (.int .i64 (trues (l.map vBool))) (firstE (l.map vBool)) = .tuple #[.int .i64 (trues ((l.take k).map vBool)), aggV blankV, .bool true]) := by
        show _ = _
        rw [e] at hf ⊢
        rw [hf]; rfl
      obtain ⟨i0, z0, z1, z2, f0, f1, f2⟩ := bx.three
      have KW := Lib.hid kw
      have BX := Lib.hid bx
      have HF := Lib.hid hf
      generalize trues ((l.take k).map vBool) = tr at *
      clear e hf kw bx
      go_wp2_with fail
      obtain ⟨y0, y1, y2⟩ := Box.stored3 BX.out (.int .u8 0) (.int .i64 0) (.string ⟨#[]⟩)
      exact bodyPost_ret (v := .tuple #[.int .i64 tr, .agg #[.int .u8 0, .int .i64 0, .string ⟨#[]⟩], .bool true]) (by simp [results, Tryd.results142, go_sem, y0, y1, y2]) rfl ⟨(congrArg Ending.returned EF.out.symm), Kept.set3 KW.out (Nat.le_refl _)⟩
end Go.Proofs.YtipkjpcedfokhaaDoor
