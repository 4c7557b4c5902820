/- Small texts together: BunV, RTyped, RTyped3. -/
import Derived.Test.YtbpkfnoenkoabaaDoorYaBunW
import Derived.StillTail
import Derived.Deep.QuietTactic
import Derived.Test.YtbpkfnoenkoabaaDoorProg
import Derived.Lib.QuietBelow
import Derived.Test.YtbpkfnoenkoabaaDoorYaBunG
import Derived.Test.YtbpkfnoenkoabaaDoorYaBunM
import Derived.Orders
set_option linter.unusedVariables false
set_option linter.unusedSimpArgs false
namespace Go.Proofs.YtbpkfnoenkoabaaDoor
open Go.RowKit
section
variable {P : Program} {ops : Array Oper} {md : Region.Mode} {C : World → Prop}
end
end Go.Proofs.YtbpkfnoenkoabaaDoor
namespace Go.Proofs.YtbpkfnoenkoabaaDoor
open Go.RowKit
section
variable {P : Program} {ops : Array Oper} {md : Region.Mode} {w0 : World} {z : Nat → Obj} {n1 n : Nat}
def YK (P : Program) (ops : Array Oper) (w0 : World) (o : Oper) (v : Value) (a : Act) : Prop :=
  (Region.wanted o (yielded ops a.tmps) = true ∧ ∀ d os, o.quietAt P a (fun w2 => Kept (Go.Sort.grow (redrawn w0 d) os) w2) (Go.Sort.grow (redrawn w0 d) os) v) ∨
  (Region.wanted o (yielded ops a.tmps) = false ∧ v = undef)
def Made (w0 : World) (z : Nat → Obj) (gs : List (Nat × Nat)) (w : World) : Prop := Kept w0 w ∧ (∀ p ∈ gs, w.heap[p.2]? = some (z p.1) ∧ w0.heap.size ≤ p.2) ∧ (gs.map (·.2)).Nodup
theorem Made.kept {gs : List (Nat × Nat)} {w w2 : World} (h : Made w0 z gs w) (k : Kept w w2) : Made w0 z gs w2 :=
  ⟨h.1.trans k, fun p hp => ⟨(k.block p.2 (Array.getElem?_eq_some_iff.1 (h.2.1 p hp).1).1).trans (h.2.1 p hp).1, (h.2.1 p hp).2⟩, h.2.2⟩
theorem YK.same {o : Oper} {v : Value} {a a2 : Act} (y : YK P ops w0 o v a) (he : execOp a2.eval o = execOp a.eval o) (hw : Region.wanted o (yielded ops a2.tmps) = Region.wanted o (yielded ops a.tmps)) : YK P ops w0 o v a2 := by
  unfold YK Oper.quietAt at *; rw [he, hw]; exact y
end
abbrev zeroV : Obj := .cells #[.int .u8 0, .int .i64 0, .string ⟨#[]⟩] 24
end Go.Proofs.YtbpkfnoenkoabaaDoor
namespace Go.Proofs.YtbpkfnoenkoabaaDoor
open Go.RowKit Lv
abbrev aggV (v : Vl) : Value := .agg #[.int .u8 v.k, .int .i64 v.n, .string ⟨v.t.toArray⟩]
def vChk (v : Vl) : Int := if vOk v then 0 else 2
theorem dCheck_okT (t : List UInt8) : (dCheck t = 0 ∧ okT t = true) ∨ (dCheck t ≠ 0 ∧ okT t = false) := by
  unfold dCheck okT
  by_cases h : 256 < t.length
  · rw [if_pos h, decide_eq_false (by omega)]; exact Or.inr ⟨by omega, rfl⟩
  · rw [if_neg h, decide_eq_true (by omega)]
    cases plain t
    · exact Or.inr ⟨by simp, rfl⟩
    · exact Or.inl ⟨rfl, rfl⟩
theorem chk_yes {v : Vl} (h : vOk v = true) : vChk v = 0 := by unfold vChk; rw [h]; rfl
theorem chk_no {v : Vl} (h : vOk v = false) : vChk v = 2 := by unfold vChk; rw [h]; rfl
theorem vchk0 (n : Int) (t : List UInt8) (w : World) (h1 : -9223372036854775808 ≤ n) (h2 : n ≤ 9223372036854775807) (ht : t.length ≤ 1000000) :
    Calls Tryd.prog 14 #[.agg #[.int .u8 0, .int .i64 n, .string ⟨t.toArray⟩]] w fun e w' => e = .returned (.int .i64 (vChk ⟨0, n, t⟩)) ∧ Kept w w' := by
  by_cases c : n = 0
  · subst c
    cases t with
    | nil =>
      have E : Hid (vChk ⟨0, 0, []⟩ = 0) := by
        show _ = _; exact chk_yes (by decide)
      go_enter Tryd.func14, Tryd.ntmps14; go_wp2_with fail; go_ret; exact ⟨ret_int E.out.symm, kpt⟩
    | cons a r =>
      have E : Hid (vChk ⟨0, 0, a :: r⟩ = 2) := by
        show _ = _; exact chk_no (by rw [ok0]; simp)
      go_enter Tryd.func14, Tryd.ntmps14; go_wp2_with fail; go_ret; exact ⟨ret_int E.out.symm, kpt⟩
  · have c0 : (n == 0) = false := by simpa using c
    have E : Hid (vChk ⟨0, n, t⟩ = 2) := by
      show _ = _; exact chk_no (by rw [ok0]; simp [c])
    clear c; go_enter Tryd.func14, Tryd.ntmps14; go_wp2_with fail; go_ret; exact ⟨ret_int E.out.symm, kpt⟩
theorem vchk1 (n : Int) (t : List UInt8) (w : World) (h1 : -9223372036854775808 ≤ n) (h2 : n ≤ 9223372036854775807) (ht : t.length ≤ 1000000) :
    Calls Tryd.prog 14 #[.agg #[.int .u8 1, .int .i64 n, .string ⟨t.toArray⟩]] w fun e w' => e = .returned (.int .i64 (vChk ⟨1, n, t⟩)) ∧ Kept w w' := by
  cases t with
  | cons a r =>
    have E : Hid (vChk ⟨1, n, a :: r⟩ = 2) := by
      show _ = _; exact chk_no (by rw [ok1]; simp)
    by_cases c : -9223372036854775807 ≤ n
    · go_enter Tryd.func14, Tryd.ntmps14
      go_wp2_with fail; go_ret; exact ⟨ret_int E.out.symm, kpt⟩
    · go_enter Tryd.func14, Tryd.ntmps14
      go_wp2_with fail; go_ret; exact ⟨ret_int E.out.symm, kpt⟩
  | nil =>
    by_cases c : n = -9223372036854775808
    · subst c
      have E : Hid (vChk ⟨1, -9223372036854775808, []⟩ = 2) := by
        show _ = _; exact chk_no (by rw [ok1]; simp)
      go_enter Tryd.func14, Tryd.ntmps14; go_wp2_with fail; go_ret; exact ⟨ret_int E.out.symm, kpt⟩
    · have c0 : (n != -9223372036854775808) = true := by simpa using c
      have c1 : -9223372036854775807 ≤ n := by omega
      have E : Hid (vChk ⟨1, n, []⟩ = 0) := by
        show _ = _; exact chk_yes (by rw [ok1]; simp [c])
      clear c; go_enter Tryd.func14, Tryd.ntmps14; go_wp2_with fail; go_ret; exact ⟨ret_int E.out.symm, kpt⟩
theorem vchk2 (n : Int) (t : List UInt8) (w : World) (h1 : -9223372036854775808 ≤ n) (h2 : n ≤ 9223372036854775807) (ht : t.length ≤ 1000000) :
    Calls Tryd.prog 14 #[.agg #[.int .u8 2, .int .i64 n, .string ⟨t.toArray⟩]] w fun e w' => e = .returned (.int .i64 (vChk ⟨2, n, t⟩)) ∧ Kept w w' := by
  by_cases c : n = 0
  · subst c
    cases t with
    | nil =>
      have E : Hid (vChk ⟨2, 0, []⟩ = 0) := by
        show _ = _; exact chk_yes (by decide)
      go_enter Tryd.func14, Tryd.ntmps14; go_wp2_with fail; go_ret; exact ⟨ret_int E.out.symm, kpt⟩
    | cons a r =>
      have E : Hid (vChk ⟨2, 0, a :: r⟩ = 2) := by
        show _ = _; exact chk_no (by rw [ok2]; simp)
      go_enter Tryd.func14, Tryd.ntmps14; go_wp2_with fail; go_ret; exact ⟨ret_int E.out.symm, kpt⟩
  by_cases d : n = 1
  · subst d
    cases t with
    | nil =>
      have E : Hid (vChk ⟨2, 1, []⟩ = 0) := by
        show _ = _; exact chk_yes (by decide)
      go_enter Tryd.func14, Tryd.ntmps14; go_wp2_with fail; go_ret; exact ⟨ret_int E.out.symm, kpt⟩
    | cons a r =>
      have E : Hid (vChk ⟨2, 1, a :: r⟩ = 2) := by
        show _ = _; exact chk_no (by rw [ok2]; simp)
      go_enter Tryd.func14, Tryd.ntmps14; go_wp2_with fail; go_ret; exact ⟨ret_int E.out.symm, kpt⟩
  have c0 : (n == 0) = false := by simpa using c
  have c1 : (n == 1) = false := by simpa using d
  have c2 : (n / 2 == 0) = false := by rw [beq_eq_false_iff_ne]; omega
  have E : Hid (vChk ⟨2, n, t⟩ = 2) := by
    show _ = _; exact chk_no (by rw [ok2]; simp [c, d])
  clear c d
  cases t with
  | nil =>
    go_enter Tryd.func14, Tryd.ntmps14; go_wp2_with fail; go_ret; exact ⟨ret_int E.out.symm, kpt⟩
  | cons a r =>
    go_enter Tryd.func14, Tryd.ntmps14; go_wp2_with fail; go_ret; exact ⟨ret_int E.out.symm, kpt⟩
theorem vchk3 (n : Int) (t : List UInt8) (w : World) (h1 : -9223372036854775808 ≤ n) (h2 : n ≤ 9223372036854775807) (ht : t.length ≤ 1000000) :
    Calls Tryd.prog 14 #[.agg #[.int .u8 3, .int .i64 n, .string ⟨t.toArray⟩]] w fun e w' => e = .returned (.int .i64 (vChk ⟨3, n, t⟩)) ∧ Kept w w' := by
  by_cases c : n = 0
  · subst c
    have C := Lib.hid (fun w => check_any t w ht); rcases dCheck_okT t with ⟨g, o⟩ | ⟨g, o⟩
    · have E : Hid (vChk ⟨3, 0, t⟩ = 0) := by
        show _ = _; exact chk_yes (by rw [ok3, o]; rfl)
      rw [g] at C; clear g o; go_enter Tryd.func14, Tryd.ntmps14; go_wp2_with fail; refine (C.out _).mono ?_; rintro e w' ⟨rfl, k1⟩; go_wp2_with fail; go_ret; exact ⟨ret_int E.out.symm, kpt⟩
    · have E : Hid (vChk ⟨3, 0, t⟩ = 2) := by
        show _ = _; exact chk_no (by rw [ok3, o]; rfl)
      have g0 : (dCheck t == 0) = false := by simpa using g
      generalize dCheck t = d at *; clear g o; go_enter Tryd.func14, Tryd.ntmps14; go_wp2_with fail; refine (C.out _).mono ?_; rintro e w' ⟨rfl, k1⟩; go_wp2_with fail; go_ret; exact ⟨ret_int E.out.symm, kpt⟩
  · have c0 : (n == 0) = false := by simpa using c
    have E : Hid (vChk ⟨3, n, t⟩ = 2) := by
      show _ = _; exact chk_no (by rw [ok3]; simp [c])
    clear c; go_enter Tryd.func14, Tryd.ntmps14; go_wp2_with fail; go_ret; exact ⟨ret_int E.out.symm, kpt⟩
theorem vchk4 (n : Int) (t : List UInt8) (w : World) (h1 : -9223372036854775808 ≤ n) (h2 : n ≤ 9223372036854775807) (ht : t.length ≤ 1000000) :
    Calls Tryd.prog 14 #[.agg #[.int .u8 4, .int .i64 n, .string ⟨t.toArray⟩]] w fun e w' => e = .returned (.int .i64 (vChk ⟨4, n, t⟩)) ∧ Kept w w' := by
  have E1 : Hid (vChk ⟨4, n, []⟩ = if 1 ≤ n ∧ n ≤ 6 then 0 else 2) := by
    show _ = _; unfold vChk; rw [ok4]; simp
  cases t with
  | cons a r =>
    have E : Hid (vChk ⟨4, n, a :: r⟩ = 2) := by
      show _ = _; exact chk_no (by rw [ok4]; simp)
    by_cases c : 1 ≤ n
    · by_cases d : n ≤ 6
      · go_enter Tryd.func14, Tryd.ntmps14
        go_wp2_with fail; go_ret; exact ⟨ret_int E.out.symm, kpt⟩
      · go_enter Tryd.func14, Tryd.ntmps14
        go_wp2_with fail; go_ret; exact ⟨ret_int E.out.symm, kpt⟩
    · go_enter Tryd.func14, Tryd.ntmps14
      go_wp2_with fail; go_ret; exact ⟨ret_int E.out.symm, kpt⟩
  | nil =>
    by_cases c : 1 ≤ n
    · by_cases d : n ≤ 6
      · have E := E1.out
        rw [if_pos ⟨c, d⟩] at E; have EH := Lib.hid E; clear E; go_enter Tryd.func14, Tryd.ntmps14; go_wp2_with fail; go_ret; exact ⟨ret_int EH.out.symm, kpt⟩
      · have E := E1.out
        rw [if_neg (by omega)] at E; have EH := Lib.hid E; clear E; go_enter Tryd.func14, Tryd.ntmps14; go_wp2_with fail; go_ret; exact ⟨ret_int EH.out.symm, kpt⟩
    · have E := E1.out
      rw [if_neg (by omega)] at E; have EH := Lib.hid E; clear E; go_enter Tryd.func14, Tryd.ntmps14; go_wp2_with fail; go_ret; exact ⟨ret_int EH.out.symm, kpt⟩
theorem vchk5 (k : Nat) (n : Int) (t : List UInt8) (w : World) (h5 : 5 ≤ k) :
    Calls Tryd.prog 14 #[.agg #[.int .u8 k, .int .i64 n, .string ⟨t.toArray⟩]] w fun e w' => e = .returned (.int .i64 (vChk ⟨k, n, t⟩)) ∧ Kept w w' := by
  have E : Hid (vChk ⟨k, n, t⟩ = 2) := by
    show _ = _; exact chk_no (ok5 h5)
  have c0 : ((k : Int) == 0) = false := by rw [beq_eq_false_iff_ne]; omega
  have c1 : ((k : Int) == 1) = false := by rw [beq_eq_false_iff_ne]; omega
  have c2 : ((k : Int) == 2) = false := by rw [beq_eq_false_iff_ne]; omega
  have c3 : ((k : Int) == 3) = false := by rw [beq_eq_false_iff_ne]; omega
  have c4 : ((k : Int) == 4) = false := by rw [beq_eq_false_iff_ne]; omega
  go_enter Tryd.func14, Tryd.ntmps14; go_wp2_with fail; go_ret; exact ⟨ret_int E.out.symm, kpt⟩
theorem vcheck5_any (v : Vl) (w : World) (hn : i64 v.n) (ht : v.t.length ≤ 1000000) :
    Calls Tryd.prog 14 #[aggV v] w fun e w' => e = .returned (.int .i64 (vChk v)) ∧ Kept w w' := by
  obtain ⟨k, n, t⟩ := v
  match k with
  | 0 => exact vchk0 n t w hn.1 hn.2 ht
  | 1 => exact vchk1 n t w hn.1 hn.2 ht
  | 2 => exact vchk2 n t w hn.1 hn.2 ht
  | 3 => exact vchk3 n t w hn.1 hn.2 ht
  | 4 => exact vchk4 n t w hn.1 hn.2 ht
  | k + 5 => exact vchk5 (k + 5) n t w (by omega)
theorem vfail_any (c : Int) (w : World) : Calls Tryd.prog 45 #[.int .i64 c] w fun e w' => e = .returned (aggV (vFail c)) ∧ Kept w w' := by
  by_cases h : c < 1
  · have E : Hid (vFail c = ⟨4, 2, []⟩) := by
      show _ = _; unfold vFail; rw [if_neg (by omega)]
    go_enter Tryd.func45, Tryd.ntmps45; go_wp2_with fail; exact bodyPost_ret (v := aggV ⟨4, 2, []⟩) (by simp [results, Tryd.results45, go_sem]) rfl ⟨by rw [E.out], kpt⟩
  by_cases g : 7 < c
  · have E : Hid (vFail c = ⟨4, 2, []⟩) := by
      show _ = _; unfold vFail; rw [if_neg (by omega)]
    go_enter Tryd.func45, Tryd.ntmps45; go_wp2_with fail; exact bodyPost_ret (v := aggV ⟨4, 2, []⟩) (by simp [results, Tryd.results45, go_sem]) rfl ⟨by rw [E.out], kpt⟩
  · have E : Hid (vFail c = ⟨4, c, []⟩) := by
      show _ = _; unfold vFail; rw [if_pos (by omega)]
    go_enter Tryd.func45, Tryd.ntmps45; go_wp2_with fail; exact bodyPost_ret (v := aggV ⟨4, c, []⟩) (by simp [results, Tryd.results45, go_sem]) rfl ⟨by rw [E.out], kpt⟩
theorem vmake_any (n : Int) (w : World) (h1 : -9223372036854775808 ≤ n) (h2 : n ≤ 9223372036854775807) : Calls Tryd.prog 58 #[.int .i64 n] w fun e w' => e = .returned (aggV (vMake n)) ∧ Kept w w' := by
  by_cases h : n = -9223372036854775808
  · subst h
    have E : Hid (vMake (-9223372036854775808) = vFail 3) := by
      show _ = _; unfold vMake; rw [if_pos rfl]
    have F := Lib.hid (fun w => vfail_any 3 w); generalize vFail 3 = f at *; go_enter Tryd.func58, Tryd.ntmps58; go_wp2_with fail; refine (F.out _).mono ?_; rintro e w1 ⟨rfl, k1⟩; obtain ⟨k1c, k1f⟩ := bcell k1; have k1z := Below.size k1
    try simp only [World.size_alloc, World.size_setCell] at k1z k1c k1f
    try have k1x : w.heap.size ≤ w1.heap.size := by omega
    try have k1y := Nat.lt_of_succ_le k1z
    try have k1x2 : w.heap.size < w1.heap.size := by omega
    try have k1w : w.heap.size + 1 < w1.heap.size := by omega
    go_wp2_with fail; exact bodyPost_ret (v := aggV f) (by simp [results, Tryd.results58, go_sem, k1c]) rfl ⟨by rw [E.out], kpt⟩
  · have E : Hid (vMake n = ⟨1, n, []⟩) := by
      show _ = _; unfold vMake; rw [if_neg h]
    have c0 : (n == -9223372036854775808) = false := by simpa using h
    have c1 : -9223372036854775807 ≤ n := by omega
    clear h; go_enter Tryd.func58, Tryd.ntmps58; go_wp2_with fail; exact bodyPost_ret (v := aggV ⟨1, n, []⟩) (by simp [results, Tryd.results58, go_sem]) rfl ⟨by rw [E.out], kpt⟩
theorem vtruth_any (b : Bool) (w : World) : Calls Tryd.prog 52 #[.bool b] w fun e w' => e = .returned (aggV (vTruth b)) ∧ Kept w w' := by
  cases b
  · go_enter Tryd.func52, Tryd.ntmps52
    go_wp2_with fail; exact bodyPost_ret (v := aggV ⟨2, 0, []⟩) (by simp [results, Tryd.results52, go_sem]) rfl ⟨rfl, kpt⟩
  · go_enter Tryd.func52, Tryd.ntmps52
    go_wp2_with fail; exact bodyPost_ret (v := aggV ⟨2, 1, []⟩) (by simp [results, Tryd.results52, go_sem]) rfl ⟨rfl, kpt⟩
end Go.Proofs.YtbpkfnoenkoabaaDoor
namespace Go.Proofs.YtbpkfnoenkoabaaDoor
open Go.RowKit Lv
end Go.Proofs.YtbpkfnoenkoabaaDoor
namespace Go.Proofs.YtbpkfnoenkoabaaDoor
open Go.RowKit Lv
abbrev cellsV (v : Vl) : Array Value := #[.int .u8 v.k, .int .i64 v.n, .string ⟨v.t.toArray⟩]
structure Two (w : World) (p q : Nat) (a b : Vl) : Prop where
  A : Box w p 24 (cellsV a)
  B : Box w q 24 (cellsV b)
theorem Two.kept {w w' : World} {p q : Nat} {a b : Vl} (h : Two w p q a b) (k : Kept w w') : Two w' p q a b := ⟨h.A.kept k, h.B.kept k⟩
theorem Two.drew {w : World} {p q : Nat} {a b : Vl} (h : Two w p q a b) : Two w.drew p q a b := ⟨h.A, h.B⟩
theorem Box.set3 {w : World} {p : Nat} {T : TypeId} {a b c a' b' c' : Value} (h : Box w p T #[a, b, c]) : Box (((w.setCell ⟨p, 0, none⟩ a').setCell ⟨p, 1, none⟩ b').setCell ⟨p, 2, none⟩ c') p T #[a', b', c'] :=
  ((h.at_ 0 a').at_ 1 b').at_ 2 c'
theorem Kept.set3 {a w : World} {p : Nat} {a' b' c' : Value} (h : Kept a w) (hp : a.heap.size ≤ p) : Kept a (((w.setCell ⟨p, 0, none⟩ a').setCell ⟨p, 1, none⟩ b').setCell ⟨p, 2, none⟩ c') :=
  ((h.setCell (p := ⟨p, 0, none⟩) hp a').setCell (p := ⟨p, 1, none⟩) hp b').setCell (p := ⟨p, 2, none⟩) hp c'
end Go.Proofs.YtbpkfnoenkoabaaDoor

namespace Go.Proofs.YtbpkfnoenkoabaaDoor
open Go.RowKit
section
variable {P : Program} {ops : Array Oper}
def At (ops : Array Oper) (a : Act) (j : Nat) : Value := match (ops[j]?).bind (·.dst) with
  | some t => a.tmps.getD t undef
  | none => undef
def writes (ops : Array Oper) (t : Nat) : Bool := ops.any fun o => o.dst == some t
def typedB (ops : Array Oper) (size : Nat) : Bool :=
  Region.noSelect ops && (List.range ops.size).all fun i => match ops[i]? with
    | none => true
    | some o => (match o.dst with
      | none => false
      | some t => decide (t < size) && (List.range i).all fun j => ((ops[j]?).bind (·.dst)) != some t) && o.after.all fun e => !Region.binds .any e || decide (e.on < i)
structure Beside (ops : Array Oper) (a0 a : Act) : Prop where
  defers : a.defers = a0.defers
  size : a.tmps.size = a0.tmps.size
  same : ∀ t, writes ops t = false → a.tmps.getD t undef = a0.tmps.getD t undef
theorem getD_put_same {a : Act} {t : Nat} {v : Value} (h : t < a.tmps.size) : (a.put (some t) v).tmps.getD t undef = v := by
  simp [Act.put, Array.getD, h]
theorem getD_put_other {a : Act} {t u : Nat} {v : Value} (h : t ≠ u) : (a.put (some t) v).tmps.getD u undef = a.tmps.getD u undef := by
  simp only [Act.put, Array.getD_eq_getD_getElem?, Array.getElem?_setIfInBounds_ne h]
structure InvT (ops : Array Oper) (V : Nat → Value → World → Prop) (w0 : World) (a0 : Act) (done : Array Bool) (a : Act) (w : World) : Prop where
  len : done.size = ops.size
  kept : Kept w0 w
  beside : Beside ops a0 a
  vals : ∀ j, done.getD j false = true → V j (At ops a j) w
theorem typed_dst {size : Nat} (hB : typedB ops size = true) {i : Nat} {o : Oper} (h : ops[i]? = some o) : ∃ t, o.dst = some t ∧ t < size ∧ (∀ j, j < i → (ops[j]?).bind (·.dst) ≠ some t) ∧ ∀ e ∈ o.after, Region.binds .any e = true → e.on < i := by
  simp only [typedB, Bool.and_eq_true, List.all_eq_true, List.mem_range] at hB
  have hi : i < ops.size := (Array.getElem?_eq_some_iff.1 h).1; have := hB.2 i hi; rw [h] at this
  simp only at this
  cases hd : o.dst with
  | none => rw [hd] at this; simp at this
  | some t =>
    rw [hd] at this
    simp only [Bool.and_eq_true, decide_eq_true_eq, List.all_eq_true, List.mem_range, bne_iff_ne, ne_eq] at this
    obtain ⟨⟨h1, h2⟩, h3⟩ := this; refine ⟨t, rfl, h1, h2, fun e he hb => ?_⟩; have := Array.all_eq_true_iff_forall_mem.1 h3 e he; rw [hb] at this
    simpa using this
theorem typed_other {size : Nat} (hB : typedB ops size = true) {i j : Nat} {o q : Oper} (h : ops[i]? = some o) (g : ops[j]? = some q) (ne : i ≠ j) : o.dst ≠ q.dst := by
  obtain ⟨t, ht, _, h1, _⟩ := typed_dst hB h; obtain ⟨u, hu, _, h2, _⟩ := typed_dst hB g; rw [ht, hu]; intro e
  cases e
  rcases Nat.lt_or_gt_of_ne ne with c | c
  · exact h2 i c (by rw [h]; exact ht)
  · exact h1 j c (by rw [g]; exact hu)
theorem InvT.put {V : Nat → Value → World → Prop} (mono : ∀ j v w w', V j v w → Kept w w' → V j v w') {w0 w w' : World} {a0 a : Act} {done : Array Bool} (hB : typedB ops a0.tmps.size = true) (inv : InvT ops V w0 a0 done a w) {i : Nat} {o : Oper} (h : ops[i]? = some o) {v : Value} (hv : V i v w') (k : Kept w w') :
    InvT ops V w0 a0 (done.setIfInBounds i true) (a.put o.dst v) w' := by
  obtain ⟨t, ht, hs, _, _⟩ := typed_dst hB h; have sz : t < a.tmps.size := by rw [inv.beside.size]; exact hs
  refine ⟨by rw [Array.size_setIfInBounds]; exact inv.len, inv.kept.trans k, ⟨?_, ?_, fun u hu => ?_⟩, fun j hj => ?_⟩
  · rw [ht]; exact inv.beside.defers
  · rw [ht]; simp only [Act.put, Array.size_setIfInBounds]; exact inv.beside.size
  · rw [ht, getD_put_other, inv.beside.same u hu]
    rintro rfl
    have : writes ops t = true := by
      unfold writes; rw [Array.any_eq_true']; exact ⟨o, Array.mem_of_getElem? h, by rw [ht]; simp⟩
    rw [this] at hu; cases hu
  · by_cases e : i = j
    · subst e
      have : At ops (a.put o.dst v) i = v := by
        unfold At; rw [h]
        simp only [Option.bind_some, ht]
        exact getD_put_same sz
      rw [this]; exact hv
    · rw [getD_set_ne false e] at hj
      have old := mono j _ _ _ (inv.vals j hj) k
      have hjl : j < ops.size := by
        rw [← inv.len]; rcases Nat.lt_or_ge j done.size with c | c
        · exact c
        · rw [Array.getD_eq_getD_getElem?, Array.getElem?_eq_none c] at hj; cases hj
      have hq : ops[j]? = some ops[j] := Array.getElem?_eq_getElem hjl
      have same : At ops (a.put o.dst v) j = At ops a j := by
        unfold At; rw [hq]
        simp only [Option.bind_some]
        obtain ⟨u, hu, _⟩ := typed_dst hB hq; rw [hu, ht]; have ne := typed_other hB h hq e; rw [hu, ht] at ne; exact getD_put_other (fun x => ne (by rw [x]))
      rw [same]; exact old
end
end Go.Proofs.YtbpkfnoenkoabaaDoor

namespace Go.Proofs.YtbpkfnoenkoabaaDoor
open Go.RowKit
section
variable {P : Program} {ops : Array Oper}
def putAll (vs : Nat → Value) : List Oper → Nat → Act → Act
  | [], _, a => a
  | o :: l, k, a => putAll vs l (k + 1) (a.put o.dst (vs k))
theorem putAll_defers (vs : Nat → Value) : ∀ (l : List Oper) (k : Nat) (a : Act), (putAll vs l k a).defers = a.defers
  | [], _, _ => rfl
  | o :: l, k, a => by
    rw [putAll, putAll_defers vs l]; unfold Act.put; split <;> rfl
theorem putAll_size (vs : Nat → Value) : ∀ (l : List Oper) (k : Nat) (a : Act), (putAll vs l k a).tmps.size = a.tmps.size
  | [], _, _ => rfl
  | o :: l, k, a => by
    rw [putAll, putAll_size vs l]; unfold Act.put; split
    · simp
    · rfl
theorem putAll_other (vs : Nat → Value) : ∀ (l : List Oper) (k : Nat) (a : Act) (t : Nat), (∀ o ∈ l, o.dst ≠ some t) → (putAll vs l k a).tmps.getD t undef = a.tmps.getD t undef
  | [], _, _, _, _ => rfl
  | o :: l, k, a, t, h => by
    rw [putAll, putAll_other vs l _ _ _ (fun q hq => h q (List.mem_cons_of_mem _ hq))]; have ho := h o List.mem_cons_self
    cases hd : o.dst with
    | none => rfl
    | some u => exact getD_put_other (fun e => ho (by rw [hd, e]))
theorem putAll_at (vs : Nat → Value) : ∀ (l : List Oper) (k : Nat) (a : Act) (i : Nat) (o : Oper) (t : Nat), l[i]? = some o → o.dst = some t → t < a.tmps.size → (∀ j q, i < j → l[j]? = some q → q.dst ≠ some t) → (putAll vs l k a).tmps.getD t undef = vs (k + i)
  | [], _, _, _, _, _, h, _, _, _ => by simp at h
  | o :: l, k, a, 0, q, t, h, hd, ht, hn => by
    simp at h
    subst h; rw [putAll, putAll_other vs l, hd]
    · exact getD_put_same ht
    · intro q hq
      obtain ⟨j, hj, e⟩ := List.getElem_of_mem hq; exact hn (j + 1) q (by omega) (by rw [List.getElem?_cons_succ, List.getElem?_eq_getElem hj, e])
  | o :: l, k, a, i + 1, q, t, h, hd, ht, hn => by
    rw [List.getElem?_cons_succ] at h; rw [putAll, putAll_at vs l (k + 1) _ i q t h hd (by unfold Act.put; split <;> simp [ht]) (fun j r hj hr => hn (j + 1) r (by omega) (by rw [List.getElem?_cons_succ]; exact hr))]
    congr 1; omega
def headB (ops : Array Oper) (n size : Nat) : Bool :=
  Region.noSelect ops && decide (n ≤ ops.size) && (List.range n).all fun i => match ops[i]? with
    | none => true
    | some o => (match o.dst with
      | none => false
      | some t => decide (t < size) && (List.range n).all fun j => i == j || ((ops[j]?).bind (·.dst)) != some t) && o.after.toList.all fun e => !Region.binds .any e || decide (e.on < i)
def headDone (ops : Array Oper) (n : Nat) : Array Bool := (List.replicate n true ++ List.replicate (ops.size - n) false).toArray
def tailB (ops : Array Oper) (n : Nat) : Bool := (n == ops.size || (Region.sinkB .any ops n && Region.chainB .any ops n)) && Region.seqB .any ops (ops.size - n) n (headDone ops n)
structure InvF (ops : Array Oper) (n : Nat) (V : Nat → Value → World → Prop) (fresh : Nat → Bool) (w0 : World) (a0 : Act) (done : Array Bool) (a : Act) (w : World) : Prop where
  head : HeadInv .any ops n done
  kept : Kept w0 w
  defers : a.defers = a0.defers
  size : a.tmps.size = a0.tmps.size
  same : ∀ t, (∀ j o, j < n → ops[j]? = some o → o.dst ≠ some t) → a.tmps.getD t undef = a0.tmps.getD t undef
  vals : ∀ j, j < n → done.getD j false = true → V j (At ops a j) w
  apart : ∀ j k, j < n → k < n → j ≠ k → fresh j = true → fresh k = true → done.getD j false = true → done.getD k false = true → At ops a j ≠ At ops a k
theorem head_dst {n size : Nat} (hB : headB ops n size = true) {i : Nat} {o : Oper} (hi : i < n) (h : ops[i]? = some o) : ∃ t, o.dst = some t ∧ t < size ∧ (∀ j q, j < n → j ≠ i → ops[j]? = some q → q.dst ≠ some t) ∧ ∀ e ∈ o.after, Region.binds .any e = true → e.on < i := by
  simp only [headB, Bool.and_eq_true, List.all_eq_true, List.mem_range, decide_eq_true_eq] at hB
  have := hB.2 i hi; rw [h] at this
  simp only at this
  cases hd : o.dst with
  | none => rw [hd] at this; simp at this
  | some t =>
    rw [hd] at this
    simp only [Bool.and_eq_true, decide_eq_true_eq, List.all_eq_true, List.mem_range, Bool.or_eq_true, beq_iff_eq, bne_iff_ne, ne_eq] at this
    obtain ⟨⟨h1, h2⟩, h3⟩ := this; refine ⟨t, rfl, h1, fun j q hj ne hq => ?_, fun e he hb => ?_⟩
    · rcases h2 j hj with e | e
      · exact absurd e.symm ne
      · rw [hq] at e; exact e
    · have := h3 e (Array.mem_toList_iff.2 he)
      rw [hb] at this
      simpa using this
theorem InvF.put {V : Nat → Value → World → Prop} {fresh : Nat → Bool} {n : Nat} (mono : ∀ j v w w', V j v w → Kept w w' → V j v w') (fr : ∀ j v w, fresh j = true → V j v w → ∃ g, v = .pointer (some ⟨g, 0, none⟩) ∧ g < w.heap.size) {w0 w w' : World} {a0 a : Act} {done : Array Bool} (hB : headB ops n a0.tmps.size = true)
    (inv : InvF ops n V fresh w0 a0 done a w) {i : Nat} {o : Oper} (hi : i < n) (ri : i ∈ Region.ready .any ops done) (h : ops[i]? = some o) {v : Value} (hv : V i v w') (k : Kept w w') (hf : fresh i = true → ∃ g, v = .pointer (some ⟨g, 0, none⟩) ∧ w.heap.size ≤ g) :
    InvF ops n V fresh w0 a0 (done.setIfInBounds i true) (a.put o.dst v) w' := by
  obtain ⟨t, ht, hs, hd, _⟩ := head_dst hB hi h; have sz : t < a.tmps.size := by rw [inv.size]; exact hs
  have atI : At ops (a.put o.dst v) i = v := by
    unfold At; rw [h]
    simp only [Option.bind_some, ht]
    exact getD_put_same sz
  have atJ : ∀ j, j < n → j ≠ i → At ops (a.put o.dst v) j = At ops a j := fun j hj ne => by
    unfold At
    cases hq : ops[j]? with
    | none => rfl
    | some q =>
      simp only [Option.bind_some]
      cases hu : q.dst with
      | none => rfl
      | some u =>
        simp only
        rw [ht]; exact getD_put_other (fun e => hd j q hj ne hq (by rw [hu, e]))
  have old : ∀ j, j ≠ i → (done.setIfInBounds i true).getD j false = true → done.getD j false = true := fun j ne hj => by
    rwa [getD_set_ne false (fun e => ne e.symm)] at hj
  refine ⟨inv.head.set ri hi, inv.kept.trans k, ?_, ?_, fun u hu => ?_, fun j hj hdj => ?_, fun j q hj hq ne fj fq dj dq => ?_⟩
  · rw [ht]; exact inv.defers
  · rw [ht]; simp only [Act.put, Array.size_setIfInBounds]; exact inv.size
  · rw [ht, getD_put_other, inv.same u hu]
    rintro rfl; exact hu i o hi h ht
  · by_cases e : j = i
    · subst e; rw [atI]; exact hv
    · rw [atJ j hj e]; exact mono j _ _ _ (inv.vals j hj (old j e hdj)) k
  · by_cases ej : j = i
    · subst ej
      have eq : q ≠ j := fun e => ne e.symm; rw [atI, atJ q hq eq]; obtain ⟨g, hg, hge⟩ := hf fj; obtain ⟨g2, hg2, hlt⟩ := fr q _ _ fq (inv.vals q hq (old q eq dq)); rw [hg, hg2]; intro e
      cases e
      omega
    · by_cases eq : q = i
      · subst eq
        rw [atI, atJ j hj ej]; obtain ⟨g, hg, hge⟩ := hf fq; obtain ⟨g2, hg2, hlt⟩ := fr j _ _ fj (inv.vals j hj (old j ej dj)); rw [hg, hg2]; intro e
        cases e
        omega
      · rw [atJ j hj ej, atJ q hq eq]
        exact inv.apart j q hj hq ne fj fq (old j ej dj) (old q eq dq)
theorem InvF.frame {V : Nat → Value → World → Prop} {fresh : Nat → Bool} {n : Nat} {w0 w : World} {a0 a : Act} {done : Array Bool} (hB : headB ops n a0.tmps.size = true) (inv : InvF ops n V fresh w0 a0 done a w) : a = putAll (At ops a) (ops.toList.take n) 0 a0 := by
  have hn : n ≤ ops.size := by
    simp only [headB, Bool.and_eq_true, decide_eq_true_eq] at hB
    exact hB.1.2
  have key : ∀ t, t < a.tmps.size → a.tmps.getD t undef = (putAll (At ops a) (ops.toList.take n) 0 a0).tmps.getD t undef := by
    intro t ht
    by_cases h : ∃ j o, j < n ∧ ops[j]? = some o ∧ o.dst = some t
    · obtain ⟨j, o, hj, ho, hd⟩ := h
      obtain ⟨u, hu, hs, hoth, _⟩ := head_dst hB hj ho; rw [hd] at hu
      cases hu
      have hl : (ops.toList.take n)[j]? = some o := by rw [List.getElem?_take_of_lt hj, Array.getElem?_toList]; exact ho
      rw [putAll_at _ _ 0 a0 j o t hl hd hs]
      · rw [Nat.zero_add]
        unfold At; rw [ho]
        simp only [Option.bind_some, hd]
      · intro k q hk hq
        have hkn : k < n := by
          rcases Nat.lt_or_ge k n with c | c
          · exact c
          · rw [List.getElem?_eq_none (by rw [List.length_take]; omega)] at hq; cases hq
        rw [List.getElem?_take_of_lt hkn, Array.getElem?_toList] at hq; exact hoth k q hkn (by omega) hq
    · have h2 : ∀ j o, j < n → ops[j]? = some o → o.dst ≠ some t := fun j o hj ho hd => h ⟨j, o, hj, ho, hd⟩
      rw [putAll_other, inv.same t h2]; intro o ho; obtain ⟨j, hj, e⟩ := List.getElem_of_mem ho; have hjn : j < n := by rw [List.length_take] at hj; omega
      refine h2 j o hjn ?_; rw [← e, List.getElem_take, Array.getElem_toList]; exact Array.getElem?_eq_getElem _
  have hsz : (putAll (At ops a) (ops.toList.take n) 0 a0).tmps.size = a.tmps.size := by rw [putAll_size, inv.size]
  have e1 : a.tmps = (putAll (At ops a) (ops.toList.take n) 0 a0).tmps := by
    refine Array.ext hsz.symm fun i h1 h2 => ?_; have := key i h1
    simpa [Array.getD, h1, h2] using this
  have e2 : a.defers = (putAll (At ops a) (ops.toList.take n) 0 a0).defers := by rw [putAll_defers, inv.defers]
  revert e1 e2
  generalize putAll (At ops a) (ops.toList.take n) 0 a0 = b; intro e1 e2
  cases a; cases b
  simp only at e1 e2
  subst e1; subst e2
  rfl
theorem head_ready {n size : Nat} (hB : headB ops n size = true) {done : Array Bool} (hsz : done.size = ops.size) {j : Nat} (hj : j < n) (hd : done.getD j false = false) : ∃ i, i < n ∧ i ∈ Region.ready .any ops done := by
  have hn : n ≤ ops.size := by
    simp only [headB, Bool.and_eq_true, decide_eq_true_eq] at hB
    exact hB.1.2
  induction j using Nat.strongRecOn with
  | _ j ih =>
    have hjo : j < ops.size := by omega
    have hq : ops[j]? = some ops[j] := Array.getElem?_eq_getElem hjo; obtain ⟨_, _, _, _, h4⟩ := head_dst hB hj hq
    by_cases h : ∃ e ∈ ops[j].after, Region.binds .any e = true ∧ done.getD e.on false = false
    · obtain ⟨e, he, hb, hf⟩ := h
      have := h4 e he hb; exact ih e.on this (by omega) hf
    · refine ⟨j, hj, ?_⟩
      rw [mem_ready]; refine ⟨getD_in (by omega) hd, _, hq, fun e he hb => ?_⟩
      cases hf : done.getD e.on false with
      | true => rfl
      | false => exact absurd ⟨e, he, hb, hf⟩ h
theorem done_all {n : Nat} {done : Array Bool} (inv : HeadInv .any ops n done) (hn : n ≤ ops.size) (h : ∀ j, j < n → done.getD j false = true) : done = headDone ops n := by
  have hs : (headDone ops n).size = ops.size := by
    unfold headDone; rw [List.size_toArray, List.length_append, List.length_replicate, List.length_replicate]; omega
  refine Array.ext (by rw [hs]; exact inv.size) fun i h1 h2 => ?_; have hi : i < ops.size := by rw [← inv.size]; exact h1
  have e3 : (headDone ops n)[i]? = some (decide (i < n)) := by
    unfold headDone; rw [List.getElem?_toArray, List.getElem?_append, List.length_replicate]
    split
    · rename_i c
      rw [List.getElem?_replicate, if_pos c, decide_eq_true c]
    · rename_i c
      rw [List.getElem?_replicate, if_pos (by omega), decide_eq_false c]
  have e2 : (headDone ops n)[i] = decide (i < n) := by
    rw [Array.getElem?_eq_getElem h2] at e3; exact Option.some.inj e3
  rw [e2]; rcases Nat.lt_or_ge i n with c | c
  · have := h i c
    rw [decide_eq_true c]
    simpa [Array.getD, h1] using this
  · have := inv.tail i c hi
    rw [decide_eq_false (by omega)]
    simpa [Array.getD, h1] using this
end
end Go.Proofs.YtbpkfnoenkoabaaDoor
