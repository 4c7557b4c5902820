/- BunV: the texts QTail, ATail, GVal1, GVal2, GVal3, GVal4 together. -/
import Derived.Test.YtbkjdcpfkepheaaGreatDoorVBunW
import Derived.StillTail
import Derived.Deep.QuietTactic
import Derived.Test.YtbkjdcpfkepheaaGreatDoorProg
import Derived.Lib.QuietBelow
import Derived.Test.YtbkjdcpfkepheaaGreatDoorVBunG
import Derived.Test.YtbkjdcpfkepheaaGreatDoorVBunM
set_option linter.unusedVariables false
set_option linter.unusedSimpArgs false
set_option maxHeartbeats 2000000
set_option maxRecDepth 100000
namespace Go.Proofs.YtbkjdcpfkepheaaGreatDoor
section
open Go.RowKit
section
variable {P : Program} {ops : Array Oper} {md : Region.Mode} {C : World → Prop}
def uG (P : Program) (md : Region.Mode) (ops : Array Oper) (C : World → Prop) (n : Nat) (L : Array Bool → Act → Prop) : Nat → Array Bool → Act → Prop
  | 0, done, a => L done a
  | f + 1, done, a => Region.ready md ops done ≠ [] ∧ ∀ i ∈ Region.ready md ops done, i < n ∧ qOp P ops C i (uG P md ops C n L f (done.setIfInBounds i true)) a
theorem jE {n g : Nat} {L : Array Bool → Act → Prop} {R : Exit → Act → World → Prop} (hL : ∀ done a w, C w → L done a → wpAny P md ops R g done a w) :
    ∀ (f : Nat) (done : Array Bool) (a : Act) (w : World), C w → uG P md ops C n L f done a → wpAny P md ops R (f + g) done a w
  | 0, done, a, w, hw, h => by
    have e : 0 + g = g := Nat.zero_add g; rw [e]; exact hL done a w hw h
  | f + 1, done, a, w, hw, h => by
    have e : f + 1 + g = f + g + 1 := by omega
    rw [e]; refine ⟨fun none => absurd none h.1, fun i hi => ?_⟩; exact wpOp_of_qOp hw (fun a2 w2 hw2 h2 => jE hL f _ a2 w2 hw2 h2) (h.2 i hi).2
theorem pU {n i : Nat} {o : Oper} {v : Value} {L : Array Bool → Act → Prop} (hi : ops[i]? = some o) (nosel : ∀ (j : Nat) (q : Oper) cs b, ops[j]? = some q → q.op ≠ .select cs b)
    (sink : Region.sinkB md ops n = true) (chain : Region.chainB md ops n = true) (hn : n < ops.size) (hin : i < n) (late : ∀ done a, L done a → ∀ j ∈ Region.ready md ops done, n ≤ j) (f : Nat) :
    ∀ (done : Array Bool) (a : Act), HeadInv md ops n done → (∀ j q, ops[j]? = some q → j ≠ i → done.getD j true = false → (∀ e ∈ q.after, Region.binds md e = true → e.on ≠ i) → o.apart ops q = true) →
      i ∈ Region.ready md ops done → YieldsIn P ops C o v a → uG P md ops C n L f (done.setIfInBounds i true) (a.put o.dst v) → uG P md ops C n L (f + 1) done a := by
  induction f with
  | zero =>
    intro done a inv apart ri y h; have undone := (mem_ready.1 ri).1; refine ⟨List.ne_nil_of_mem ri, fun j rj => ?_⟩; have hj : j < n := Nat.lt_of_not_le fun hle => tail_waits sink chain hn inv _ i rfl hin undone j hle rj; rcases Nat.decEq j i with ne | rfl
    · exact absurd (late _ _ h j (ready_mono rj ne)) (by omega)
    · exact ⟨hj, y.qOp hi h⟩
  | succ f ih =>
    intro done a inv apart ri y h; have undone := (mem_ready.1 ri).1; refine ⟨List.ne_nil_of_mem ri, fun j rj => ?_⟩; have hj : j < n := Nat.lt_of_not_le fun hle => tail_waits sink chain hn inv _ i rfl hin undone j hle rj; rcases Nat.decEq j i with ne | rfl
    · refine ⟨hj, ?_⟩
      obtain ⟨uj, q, hq, waits⟩ := mem_ready.1 rj
      have free : ∀ e ∈ q.after, Region.binds md e = true → e.on ≠ i := fun e he hb on => by
        have w1 := waits e he hb; rw [on, getD_both undone] at w1
        cases w1
      have step := qOp_put hq (apart j q hq ne uj free) (fun cs b => nosel i o cs b hi) (fun cs b => nosel j q cs b hq) y (h.2 j (ready_mono rj ne)).2; refine qOp_mono (fun a2 h2 => ?_) step; refine ih (done.setIfInBounds j true) a2 (inv.set rj hj) (fun k r hk ki uk fk => ?_) (ready_mono ri (fun e => ne e.symm)) h2.1 ?_
      · refine apart k r hk ki ?_ fk
        rcases Nat.decEq j k with jk | rfl
        · rwa [getD_set_ne true jk] at uk
        · exact uj
      · rw [Array.setIfInBounds_comm _ _ ne]; exact h2.2
    · exact ⟨hj, y.qOp hi h⟩
theorem lS {n g : Nat} {L : Act → Prop} (nosel : Region.noSelect ops = true) (sink : Region.sinkB md ops n = true) (chain : Region.chainB md ops n = true) (hn : n < ops.size) :
    ∀ (l : List Oper) (k : Nat) (done : Array Bool) (a : Act), (∀ j, j < l.length → l[j]? = ops[k + j]?) → k + l.length = n → HeadInv md ops n done → Region.lexHead md ops g l.length k done = true →
      wpQuiet P ops C L l a → uG P md ops C n (fun done2 a2 => Region.seqB md ops g n done2 = true ∧ L a2) l.length done a
  | [], k, done, a, _, hk, _, lex, h => by
    obtain rfl : k = n := hk; exact ⟨lex, h⟩
  | o :: l, k, done, a, hl, hk, inv, lex, h => by
    have ho : ops[k]? = some o := (hl 0 (Nat.succ_pos _)).symm; rw [List.length_cons] at hk
    simp only [List.length_cons, Region.lexHead, Bool.and_eq_true] at lex
    have rk : k ∈ Region.ready md ops done := by simpa using lex.1.1
    have q : qOp P ops C k (wpQuiet P ops C L l) a := by
      unfold qOp; rw [ho]; exact h
    obtain ⟨v, y, rest⟩ := yieldsIn_of_qOp ho q; refine pU ho (Region.noSelect_spec nosel) sink chain hn (by omega) (fun _ _ x => seqB_ready x.1) l.length done a inv (Region.free_spec ho lex.1.2) rk y ?_; refine lS nosel sink chain hn l (k + 1) _ _ (fun j hj => ?_) (by omega) (inv.set rk (by omega)) lex.2 rest; have e := hl (j + 1) (by rw [List.length_cons]; omega); rw [List.getElem?_cons_succ] at e; rw [e]; congr 1; omega
theorem jm {id : Nat} {Q : Exit → Act → World → Prop} {a : Act} {w : World} {l : List Oper} (n : Nat) (hm : P.follows .mixedOrders = true) (hB : Region.lexTailB .any l.toArray n = true) (hC : C w.drew)
    (h : wpQuiet P l.toArray C (fun a2 => ∀ w2, C w2 → wpList P l.toArray Q (l.drop n) a2 w2) (l.take n) a) : (Code.region id l.toArray true).wp P Q a w := by
  simp only [Region.lexTailB, Bool.and_eq_true, decide_eq_true_eq] at hB
  obtain ⟨⟨⟨⟨nosel, hn⟩, sink⟩, chain⟩, lex⟩ := hB; have sz : l.toArray.size = l.length := List.size_toArray; have tl : (l.take n).length = n := by rw [List.length_take]; omega
  have dl : (l.drop n).length = l.toArray.size - n := by rw [List.length_drop, sz]
  have inv : HeadInv .any l.toArray n (Array.replicate l.toArray.size false) :=
    ⟨Array.size_replicate, (fun j q _ hd => by rw [getD_replicate_false] at hd; cases hd), fun t _ ht => getD_in (by rw [Array.size_replicate]; exact ht) (getD_replicate_false _ _)⟩
  have H := lS (md := .any) (g := l.toArray.size - n) nosel sink chain hn (l.take n) 0 _ a (fun j hj => by
    rw [tl] at hj; rw [List.getElem?_take_of_lt hj, Nat.zero_add, List.getElem?_toArray]) (by rw [Nat.zero_add, tl]) inv (by rw [tl]; exact lex) h
  have A := jE (R := Q) (g := l.toArray.size - n) (fun done a2 w2 hw2 hd => by
    have s := wpAny_of_seq (md := .any) (Q' := Q) (l.drop n) n done a2 w2 (fun j => by rw [List.getElem?_drop, List.getElem?_toArray]) (by rw [dl]; exact hd.1) (hd.2 w2 hw2)
    rwa [dl] at s) _ _ _ _ hC H
  rw [tl, show n + (l.toArray.size - n) = l.toArray.size by omega] at A; exact wp_region_any hm A
end
end
section
open Go.RowKit
section
variable {P : Program} {ops : Array Oper} {md : Region.Mode} {w0 : World} {z : Nat → Obj} {n1 n : Nat}
def YK (P : Program) (ops : Array Oper) (w0 : World) (o : Oper) (v : Value) (a : Act) : Prop :=
  (Region.wanted o (yielded ops a.tmps) = true ∧ ∀ d os, o.quietAt P a (fun w2 => Kept (Go.Sort.grow (redrawn w0 d) os) w2) (Go.Sort.grow (redrawn w0 d) os) v) ∨
  (Region.wanted o (yielded ops a.tmps) = false ∧ v = undef)
def Made (w0 : World) (z : Nat → Obj) (gs : List (Nat × Nat)) (w : World) : Prop := Kept w0 w ∧ (∀ p ∈ gs, w.heap[p.2]? = some (z p.1) ∧ w0.heap.size ≤ p.2) ∧ (gs.map (·.2)).Nodup
theorem Made.kept {gs : List (Nat × Nat)} {w w2 : World} (h : Made w0 z gs w) (k : Kept w w2) : Made w0 z gs w2 :=
  ⟨h.1.trans k, fun p hp => ⟨(k.block p.2 (Array.getElem?_eq_some_iff.1 (h.2.1 p hp).1).1).trans (h.2.1 p hp).1, (h.2.1 p hp).2⟩, h.2.2⟩
theorem Made.perm {gs hs : List (Nat × Nat)} {w : World} (h : Made w0 z gs w) (p : gs.Perm hs) : Made w0 z hs w :=
  ⟨h.1, fun x hx => h.2.1 x (p.mem_iff.2 hx), (p.map _).nodup_iff.1 h.2.2⟩
theorem YK.same {o : Oper} {v : Value} {a a2 : Act} (y : YK P ops w0 o v a) (he : execOp a2.eval o = execOp a.eval o) (hw : Region.wanted o (yielded ops a2.tmps) = Region.wanted o (yielded ops a.tmps)) : YK P ops w0 o v a2 := by
  unfold YK Oper.quietAt at *; rw [he, hw]; exact y
end
abbrev jU : Obj := .cells #[.int .u8 0, .int .i64 0, .string ⟨#[]⟩] 25
end
section
open Go.RowKit Lv
abbrev al (v : Vl) : Value := .agg #[.int .u8 v.k, .int .i64 v.n, .string ⟨v.t.toArray⟩]
def cx (v : Vl) : Int := if vOk v then 0 else 2
theorem lT (t : List UInt8) : (eX t = 0 ∧ okT t = true) ∨ (eX t ≠ 0 ∧ okT t = false) := by
  unfold eX okT
  by_cases h : 256 < t.length
  · rw [if_pos h, decide_eq_false (by omega)]; exact Or.inr ⟨by omega, rfl⟩
  · rw [if_neg h, decide_eq_true (by omega)]
    cases eh t
    · exact Or.inr ⟨by simp, rfl⟩
    · exact Or.inl ⟨rfl, rfl⟩
theorem da {v : Vl} (h : vOk v = true) : cx v = 0 := by unfold cx; rw [h]; rfl
theorem cG {v : Vl} (h : vOk v = false) : cx v = 2 := by unfold cx; rw [h]; rfl
theorem C9 (n : Int) (t : List UInt8) (w : World) (h1 : -9223372036854775808 ≤ n) (h2 : n ≤ 9223372036854775807) (ht : t.length ≤ 1000000) :
    Calls Tryz.prog 27 #[.agg #[.int .u8 0, .int .i64 n, .string ⟨t.toArray⟩]] w fun e w' => e = .returned (.int .i64 (cx ⟨0, n, t⟩)) ∧ Kept w w' := by
  by_cases c : n = 0
  · subst c
    cases t with
    | nil =>
      have E : Hid (cx ⟨0, 0, []⟩ = 0) := by
        show _ = _; exact da (by decide)
      go_enter Tryz.func27, Tryz.ntmps27; go_wp2_with fail; go_ret; exact ⟨aw E.out.symm, kpt⟩
    | cons a r =>
      have E : Hid (cx ⟨0, 0, a :: r⟩ = 2) := by
        show _ = _; exact cG (by rw [ok0]; simp)
      go_enter Tryz.func27, Tryz.ntmps27; go_wp2_with fail; go_ret; exact ⟨aw E.out.symm, kpt⟩
  · have c0 : (n == 0) = false := by simpa using c
    have E : Hid (cx ⟨0, n, t⟩ = 2) := by
      show _ = _; exact cG (by rw [ok0]; simp [c])
    clear c; go_enter Tryz.func27, Tryz.ntmps27; go_wp2_with fail; go_ret; exact ⟨aw E.out.symm, kpt⟩
theorem Da (n : Int) (t : List UInt8) (w : World) (h1 : -9223372036854775808 ≤ n) (h2 : n ≤ 9223372036854775807) (ht : t.length ≤ 1000000) :
    Calls Tryz.prog 27 #[.agg #[.int .u8 1, .int .i64 n, .string ⟨t.toArray⟩]] w fun e w' => e = .returned (.int .i64 (cx ⟨1, n, t⟩)) ∧ Kept w w' := by
  cases t with
  | cons a r =>
    have E : Hid (cx ⟨1, n, a :: r⟩ = 2) := by
      show _ = _; exact cG (by rw [ok1]; simp)
    by_cases c : -9223372036854775807 ≤ n
    · go_enter Tryz.func27, Tryz.ntmps27
      go_wp2_with fail; go_ret; exact ⟨aw E.out.symm, kpt⟩
    · go_enter Tryz.func27, Tryz.ntmps27
      go_wp2_with fail; go_ret; exact ⟨aw E.out.symm, kpt⟩
  | nil =>
    by_cases c : n = -9223372036854775808
    · subst c
      have E : Hid (cx ⟨1, -9223372036854775808, []⟩ = 2) := by
        show _ = _; exact cG (by rw [ok1]; simp)
      go_enter Tryz.func27, Tryz.ntmps27; go_wp2_with fail; go_ret; exact ⟨aw E.out.symm, kpt⟩
    · have c0 : (n != -9223372036854775808) = true := by simpa using c
      have c1 : -9223372036854775807 ≤ n := by omega
      have E : Hid (cx ⟨1, n, []⟩ = 0) := by
        show _ = _; exact da (by rw [ok1]; simp [c])
      clear c; go_enter Tryz.func27, Tryz.ntmps27; go_wp2_with fail; go_ret; exact ⟨aw E.out.symm, kpt⟩
theorem Db (n : Int) (t : List UInt8) (w : World) (h1 : -9223372036854775808 ≤ n) (h2 : n ≤ 9223372036854775807) (ht : t.length ≤ 1000000) :
    Calls Tryz.prog 27 #[.agg #[.int .u8 2, .int .i64 n, .string ⟨t.toArray⟩]] w fun e w' => e = .returned (.int .i64 (cx ⟨2, n, t⟩)) ∧ Kept w w' := by
  by_cases c : n = 0
  · subst c
    cases t with
    | nil =>
      have E : Hid (cx ⟨2, 0, []⟩ = 0) := by
        show _ = _; exact da (by decide)
      go_enter Tryz.func27, Tryz.ntmps27; go_wp2_with fail; go_ret; exact ⟨aw E.out.symm, kpt⟩
    | cons a r =>
      have E : Hid (cx ⟨2, 0, a :: r⟩ = 2) := by
        show _ = _; exact cG (by rw [ok2]; simp)
      go_enter Tryz.func27, Tryz.ntmps27; go_wp2_with fail; go_ret; exact ⟨aw E.out.symm, kpt⟩
  by_cases d : n = 1
  · subst d
    cases t with
    | nil =>
      have E : Hid (cx ⟨2, 1, []⟩ = 0) := by
        show _ = _; exact da (by decide)
      go_enter Tryz.func27, Tryz.ntmps27; go_wp2_with fail; go_ret; exact ⟨aw E.out.symm, kpt⟩
    | cons a r =>
      have E : Hid (cx ⟨2, 1, a :: r⟩ = 2) := by
        show _ = _; exact cG (by rw [ok2]; simp)
      go_enter Tryz.func27, Tryz.ntmps27; go_wp2_with fail; go_ret; exact ⟨aw E.out.symm, kpt⟩
  have c0 : (n == 0) = false := by simpa using c
  have c1 : (n == 1) = false := by simpa using d
  have c2 : (n / 2 == 0) = false := by rw [beq_eq_false_iff_ne]; omega
  have E : Hid (cx ⟨2, n, t⟩ = 2) := by
    show _ = _; exact cG (by rw [ok2]; simp [c, d])
  clear c d
  cases t with
  | nil =>
    go_enter Tryz.func27, Tryz.ntmps27; go_wp2_with fail; go_ret; exact ⟨aw E.out.symm, kpt⟩
  | cons a r =>
    go_enter Tryz.func27, Tryz.ntmps27; go_wp2_with fail; go_ret; exact ⟨aw E.out.symm, kpt⟩
theorem Dc (n : Int) (t : List UInt8) (w : World) (h1 : -9223372036854775808 ≤ n) (h2 : n ≤ 9223372036854775807) (ht : t.length ≤ 1000000) :
    Calls Tryz.prog 27 #[.agg #[.int .u8 3, .int .i64 n, .string ⟨t.toArray⟩]] w fun e w' => e = .returned (.int .i64 (cx ⟨3, n, t⟩)) ∧ Kept w w' := by
  by_cases c : n = 0
  · subst c
    have C := Lib.hid (fun w => uA t w ht); rcases lT t with ⟨g, o⟩ | ⟨g, o⟩
    · have E : Hid (cx ⟨3, 0, t⟩ = 0) := by
        show _ = _; exact da (by rw [ok3, o]; rfl)
      rw [g] at C; clear g o; go_enter Tryz.func27, Tryz.ntmps27; go_wp2_with fail; refine (C.out _).mono ?_; rintro e w' ⟨rfl, k1⟩; go_wp2_with fail; go_ret; exact ⟨aw E.out.symm, kpt⟩
    · have E : Hid (cx ⟨3, 0, t⟩ = 2) := by
        show _ = _; exact cG (by rw [ok3, o]; rfl)
      have g0 : (eX t == 0) = false := by simpa using g
      generalize eX t = d at *; clear g o; go_enter Tryz.func27, Tryz.ntmps27; go_wp2_with fail; refine (C.out _).mono ?_; rintro e w' ⟨rfl, k1⟩; go_wp2_with fail; go_ret; exact ⟨aw E.out.symm, kpt⟩
  · have c0 : (n == 0) = false := by simpa using c
    have E : Hid (cx ⟨3, n, t⟩ = 2) := by
      show _ = _; exact cG (by rw [ok3]; simp [c])
    clear c; go_enter Tryz.func27, Tryz.ntmps27; go_wp2_with fail; go_ret; exact ⟨aw E.out.symm, kpt⟩
theorem Dd (n : Int) (t : List UInt8) (w : World) (h1 : -9223372036854775808 ≤ n) (h2 : n ≤ 9223372036854775807) (ht : t.length ≤ 1000000) :
    Calls Tryz.prog 27 #[.agg #[.int .u8 4, .int .i64 n, .string ⟨t.toArray⟩]] w fun e w' => e = .returned (.int .i64 (cx ⟨4, n, t⟩)) ∧ Kept w w' := by
  have E1 : Hid (cx ⟨4, n, []⟩ = if 1 ≤ n ∧ n ≤ 6 then 0 else 2) := by
    show _ = _; unfold cx; rw [ok4]; simp
  cases t with
  | cons a r =>
    have E : Hid (cx ⟨4, n, a :: r⟩ = 2) := by
      show _ = _; exact cG (by rw [ok4]; simp)
    by_cases c : 1 ≤ n
    · by_cases d : n ≤ 6
      · go_enter Tryz.func27, Tryz.ntmps27
        go_wp2_with fail; go_ret; exact ⟨aw E.out.symm, kpt⟩
      · go_enter Tryz.func27, Tryz.ntmps27
        go_wp2_with fail; go_ret; exact ⟨aw E.out.symm, kpt⟩
    · go_enter Tryz.func27, Tryz.ntmps27
      go_wp2_with fail; go_ret; exact ⟨aw E.out.symm, kpt⟩
  | nil =>
    by_cases c : 1 ≤ n
    · by_cases d : n ≤ 6
      · have E := E1.out
        rw [if_pos ⟨c, d⟩] at E; have EH := Lib.hid E; clear E; go_enter Tryz.func27, Tryz.ntmps27; go_wp2_with fail; go_ret; exact ⟨aw EH.out.symm, kpt⟩
      · have E := E1.out
        rw [if_neg (by omega)] at E; have EH := Lib.hid E; clear E; go_enter Tryz.func27, Tryz.ntmps27; go_wp2_with fail; go_ret; exact ⟨aw EH.out.symm, kpt⟩
    · have E := E1.out
      rw [if_neg (by omega)] at E; have EH := Lib.hid E; clear E; go_enter Tryz.func27, Tryz.ntmps27; go_wp2_with fail; go_ret; exact ⟨aw EH.out.symm, kpt⟩
theorem De (k : Nat) (n : Int) (t : List UInt8) (w : World) (h5 : 5 ≤ k) :
    Calls Tryz.prog 27 #[.agg #[.int .u8 k, .int .i64 n, .string ⟨t.toArray⟩]] w fun e w' => e = .returned (.int .i64 (cx ⟨k, n, t⟩)) ∧ Kept w w' := by
  have E : Hid (cx ⟨k, n, t⟩ = 2) := by
    show _ = _; exact cG (ok5 h5)
  have c0 : ((k : Int) == 0) = false := by rw [beq_eq_false_iff_ne]; omega
  have c1 : ((k : Int) == 1) = false := by rw [beq_eq_false_iff_ne]; omega
  have c2 : ((k : Int) == 2) = false := by rw [beq_eq_false_iff_ne]; omega
  have c3 : ((k : Int) == 3) = false := by rw [beq_eq_false_iff_ne]; omega
  have c4 : ((k : Int) == 4) = false := by rw [beq_eq_false_iff_ne]; omega
  go_enter Tryz.func27, Tryz.ntmps27; go_wp2_with fail; go_ret; exact ⟨aw E.out.symm, kpt⟩
theorem cN (v : Vl) (w : World) (hn : i64 v.n) (ht : v.t.length ≤ 1000000) :
    Calls Tryz.prog 27 #[al v] w fun e w' => e = .returned (.int .i64 (cx v)) ∧ Kept w w' := by
  obtain ⟨k, n, t⟩ := v
  match k with
  | 0 => exact C9 n t w hn.1 hn.2 ht
  | 1 => exact Da n t w hn.1 hn.2 ht
  | 2 => exact Db n t w hn.1 hn.2 ht
  | 3 => exact Dc n t w hn.1 hn.2 ht
  | 4 => exact Dd n t w hn.1 hn.2 ht
  | k + 5 => exact De (k + 5) n t w (by omega)
theorem Df (n : Int) (t : List UInt8) (w : World) (h1 : -9223372036854775808 ≤ n) (h2 : n ≤ 9223372036854775807) (ht : t.length ≤ 1000000) :
    Calls Tryz.prog 47 #[.agg #[.int .u8 0, .int .i64 n, .string ⟨t.toArray⟩]] w fun e w' => e = .returned (.int .i64 (cx ⟨0, n, t⟩)) ∧ Kept w w' := by
  by_cases c : n = 0
  · subst c
    cases t with
    | nil =>
      have E : Hid (cx ⟨0, 0, []⟩ = 0) := by
        show _ = _; exact da (by decide)
      go_enter Tryz.func47, Tryz.ntmps47; go_wp2_with fail; go_ret; exact ⟨aw E.out.symm, kpt⟩
    | cons a r =>
      have E : Hid (cx ⟨0, 0, a :: r⟩ = 2) := by
        show _ = _; exact cG (by rw [ok0]; simp)
      go_enter Tryz.func47, Tryz.ntmps47; go_wp2_with fail; go_ret; exact ⟨aw E.out.symm, kpt⟩
  · have c0 : (n == 0) = false := by simpa using c
    have E : Hid (cx ⟨0, n, t⟩ = 2) := by
      show _ = _; exact cG (by rw [ok0]; simp [c])
    clear c; go_enter Tryz.func47, Tryz.ntmps47; go_wp2_with fail; go_ret; exact ⟨aw E.out.symm, kpt⟩
theorem Dg (n : Int) (t : List UInt8) (w : World) (h1 : -9223372036854775808 ≤ n) (h2 : n ≤ 9223372036854775807) (ht : t.length ≤ 1000000) :
    Calls Tryz.prog 47 #[.agg #[.int .u8 1, .int .i64 n, .string ⟨t.toArray⟩]] w fun e w' => e = .returned (.int .i64 (cx ⟨1, n, t⟩)) ∧ Kept w w' := by
  cases t with
  | cons a r =>
    have E : Hid (cx ⟨1, n, a :: r⟩ = 2) := by
      show _ = _; exact cG (by rw [ok1]; simp)
    by_cases c : -9223372036854775807 ≤ n
    · go_enter Tryz.func47, Tryz.ntmps47
      go_wp2_with fail; go_ret; exact ⟨aw E.out.symm, kpt⟩
    · go_enter Tryz.func47, Tryz.ntmps47
      go_wp2_with fail; go_ret; exact ⟨aw E.out.symm, kpt⟩
  | nil =>
    by_cases c : n = -9223372036854775808
    · subst c
      have E : Hid (cx ⟨1, -9223372036854775808, []⟩ = 2) := by
        show _ = _; exact cG (by rw [ok1]; simp)
      go_enter Tryz.func47, Tryz.ntmps47; go_wp2_with fail; go_ret; exact ⟨aw E.out.symm, kpt⟩
    · have c0 : (n != -9223372036854775808) = true := by simpa using c
      have c1 : -9223372036854775807 ≤ n := by omega
      have E : Hid (cx ⟨1, n, []⟩ = 0) := by
        show _ = _; exact da (by rw [ok1]; simp [c])
      clear c; go_enter Tryz.func47, Tryz.ntmps47; go_wp2_with fail; go_ret; exact ⟨aw E.out.symm, kpt⟩
theorem Dh (n : Int) (t : List UInt8) (w : World) (h1 : -9223372036854775808 ≤ n) (h2 : n ≤ 9223372036854775807) (ht : t.length ≤ 1000000) :
    Calls Tryz.prog 47 #[.agg #[.int .u8 2, .int .i64 n, .string ⟨t.toArray⟩]] w fun e w' => e = .returned (.int .i64 (cx ⟨2, n, t⟩)) ∧ Kept w w' := by
  by_cases c : n = 0
  · subst c
    cases t with
    | nil =>
      have E : Hid (cx ⟨2, 0, []⟩ = 0) := by
        show _ = _; exact da (by decide)
      go_enter Tryz.func47, Tryz.ntmps47; go_wp2_with fail; go_ret; exact ⟨aw E.out.symm, kpt⟩
    | cons a r =>
      have E : Hid (cx ⟨2, 0, a :: r⟩ = 2) := by
        show _ = _; exact cG (by rw [ok2]; simp)
      go_enter Tryz.func47, Tryz.ntmps47; go_wp2_with fail; go_ret; exact ⟨aw E.out.symm, kpt⟩
  by_cases d : n = 1
  · subst d
    cases t with
    | nil =>
      have E : Hid (cx ⟨2, 1, []⟩ = 0) := by
        show _ = _; exact da (by decide)
      go_enter Tryz.func47, Tryz.ntmps47; go_wp2_with fail; go_ret; exact ⟨aw E.out.symm, kpt⟩
    | cons a r =>
      have E : Hid (cx ⟨2, 1, a :: r⟩ = 2) := by
        show _ = _; exact cG (by rw [ok2]; simp)
      go_enter Tryz.func47, Tryz.ntmps47; go_wp2_with fail; go_ret; exact ⟨aw E.out.symm, kpt⟩
  have c0 : (n == 0) = false := by simpa using c
  have c1 : (n == 1) = false := by simpa using d
  have c2 : (n / 2 == 0) = false := by rw [beq_eq_false_iff_ne]; omega
  have E : Hid (cx ⟨2, n, t⟩ = 2) := by
    show _ = _; exact cG (by rw [ok2]; simp [c, d])
  clear c d
  cases t with
  | nil =>
    go_enter Tryz.func47, Tryz.ntmps47; go_wp2_with fail; go_ret; exact ⟨aw E.out.symm, kpt⟩
  | cons a r =>
    go_enter Tryz.func47, Tryz.ntmps47; go_wp2_with fail; go_ret; exact ⟨aw E.out.symm, kpt⟩
theorem Di (n : Int) (t : List UInt8) (w : World) (h1 : -9223372036854775808 ≤ n) (h2 : n ≤ 9223372036854775807) (ht : t.length ≤ 1000000) :
    Calls Tryz.prog 47 #[.agg #[.int .u8 3, .int .i64 n, .string ⟨t.toArray⟩]] w fun e w' => e = .returned (.int .i64 (cx ⟨3, n, t⟩)) ∧ Kept w w' := by
  by_cases c : n = 0
  · subst c
    have C := Lib.hid (fun w => sA t w ht); rcases lT t with ⟨g, o⟩ | ⟨g, o⟩
    · have E : Hid (cx ⟨3, 0, t⟩ = 0) := by
        show _ = _; exact da (by rw [ok3, o]; rfl)
      rw [g] at C; clear g o; go_enter Tryz.func47, Tryz.ntmps47; go_wp2_with fail; refine (C.out _).mono ?_; rintro e w' ⟨rfl, rfl⟩; go_wp2_with fail; go_ret; exact ⟨aw E.out.symm, kpt⟩
    · have E : Hid (cx ⟨3, 0, t⟩ = 2) := by
        show _ = _; exact cG (by rw [ok3, o]; rfl)
      have g0 : (eX t == 0) = false := by simpa using g
      generalize eX t = d at *; clear g o; go_enter Tryz.func47, Tryz.ntmps47; go_wp2_with fail; refine (C.out _).mono ?_; rintro e w' ⟨rfl, rfl⟩; go_wp2_with fail; go_ret; exact ⟨aw E.out.symm, kpt⟩
  · have c0 : (n == 0) = false := by simpa using c
    have E : Hid (cx ⟨3, n, t⟩ = 2) := by
      show _ = _; exact cG (by rw [ok3]; simp [c])
    clear c; go_enter Tryz.func47, Tryz.ntmps47; go_wp2_with fail; go_ret; exact ⟨aw E.out.symm, kpt⟩
theorem Dj (n : Int) (t : List UInt8) (w : World) (h1 : -9223372036854775808 ≤ n) (h2 : n ≤ 9223372036854775807) (ht : t.length ≤ 1000000) :
    Calls Tryz.prog 47 #[.agg #[.int .u8 4, .int .i64 n, .string ⟨t.toArray⟩]] w fun e w' => e = .returned (.int .i64 (cx ⟨4, n, t⟩)) ∧ Kept w w' := by
  have E1 : Hid (cx ⟨4, n, []⟩ = if 1 ≤ n ∧ n ≤ 6 then 0 else 2) := by
    show _ = _; unfold cx; rw [ok4]; simp
  cases t with
  | cons a r =>
    have E : Hid (cx ⟨4, n, a :: r⟩ = 2) := by
      show _ = _; exact cG (by rw [ok4]; simp)
    by_cases c : 1 ≤ n
    · by_cases d : n ≤ 6
      · go_enter Tryz.func47, Tryz.ntmps47
        go_wp2_with fail; go_ret; exact ⟨aw E.out.symm, kpt⟩
      · go_enter Tryz.func47, Tryz.ntmps47
        go_wp2_with fail; go_ret; exact ⟨aw E.out.symm, kpt⟩
    · go_enter Tryz.func47, Tryz.ntmps47
      go_wp2_with fail; go_ret; exact ⟨aw E.out.symm, kpt⟩
  | nil =>
    by_cases c : 1 ≤ n
    · by_cases d : n ≤ 6
      · have E := E1.out
        rw [if_pos ⟨c, d⟩] at E; have EH := Lib.hid E; clear E; go_enter Tryz.func47, Tryz.ntmps47; go_wp2_with fail; go_ret; exact ⟨aw EH.out.symm, kpt⟩
      · have E := E1.out
        rw [if_neg (by omega)] at E; have EH := Lib.hid E; clear E; go_enter Tryz.func47, Tryz.ntmps47; go_wp2_with fail; go_ret; exact ⟨aw EH.out.symm, kpt⟩
    · have E := E1.out
      rw [if_neg (by omega)] at E; have EH := Lib.hid E; clear E; go_enter Tryz.func47, Tryz.ntmps47; go_wp2_with fail; go_ret; exact ⟨aw EH.out.symm, kpt⟩
theorem Dk (k : Nat) (n : Int) (t : List UInt8) (w : World) (h5 : 5 ≤ k) :
    Calls Tryz.prog 47 #[.agg #[.int .u8 k, .int .i64 n, .string ⟨t.toArray⟩]] w fun e w' => e = .returned (.int .i64 (cx ⟨k, n, t⟩)) ∧ Kept w w' := by
  have E : Hid (cx ⟨k, n, t⟩ = 2) := by
    show _ = _; exact cG (ok5 h5)
  have c0 : ((k : Int) == 0) = false := by rw [beq_eq_false_iff_ne]; omega
  have c1 : ((k : Int) == 1) = false := by rw [beq_eq_false_iff_ne]; omega
  have c2 : ((k : Int) == 2) = false := by rw [beq_eq_false_iff_ne]; omega
  have c3 : ((k : Int) == 3) = false := by rw [beq_eq_false_iff_ne]; omega
  have c4 : ((k : Int) == 4) = false := by rw [beq_eq_false_iff_ne]; omega
  go_enter Tryz.func47, Tryz.ntmps47; go_wp2_with fail; go_ret; exact ⟨aw E.out.symm, kpt⟩
theorem fs (v : Vl) (w : World) (hn : i64 v.n) (ht : v.t.length ≤ 1000000) :
    Calls Tryz.prog 47 #[al v] w fun e w' => e = .returned (.int .i64 (cx v)) ∧ Kept w w' := by
  obtain ⟨k, n, t⟩ := v
  match k with
  | 0 => exact Df n t w hn.1 hn.2 ht
  | 1 => exact Dg n t w hn.1 hn.2 ht
  | 2 => exact Dh n t w hn.1 hn.2 ht
  | 3 => exact Di n t w hn.1 hn.2 ht
  | 4 => exact Dj n t w hn.1 hn.2 ht
  | k + 5 => exact Dk (k + 5) n t w (by omega)
theorem cj (c : Int) (w : World) : Calls Tryz.prog 56 #[.int .i64 c] w fun e w' => e = .returned (al (aW c)) ∧ Kept w w' := by
  by_cases h : c < 1
  · have E : Hid (aW c = ⟨4, 2, []⟩) := by
      show _ = _; unfold aW; rw [if_neg (by omega)]
    go_enter Tryz.func56, Tryz.ntmps56; go_wp2_with fail; exact bodyPost_ret (v := al ⟨4, 2, []⟩) (by simp [results, Tryz.results56, go_sem]) rfl ⟨by rw [E.out], kpt⟩
  by_cases g : 7 < c
  · have E : Hid (aW c = ⟨4, 2, []⟩) := by
      show _ = _; unfold aW; rw [if_neg (by omega)]
    go_enter Tryz.func56, Tryz.ntmps56; go_wp2_with fail; exact bodyPost_ret (v := al ⟨4, 2, []⟩) (by simp [results, Tryz.results56, go_sem]) rfl ⟨by rw [E.out], kpt⟩
  · have E : Hid (aW c = ⟨4, c, []⟩) := by
      show _ = _; unfold aW; rw [if_pos (by omega)]
    go_enter Tryz.func56, Tryz.ntmps56; go_wp2_with fail; exact bodyPost_ret (v := al ⟨4, c, []⟩) (by simp [results, Tryz.results56, go_sem]) rfl ⟨by rw [E.out], kpt⟩
theorem cY (n : Int) (w : World) (h1 : -9223372036854775808 ≤ n) (h2 : n ≤ 9223372036854775807) : Calls Tryz.prog 103 #[.int .i64 n] w fun e w' => e = .returned (al (aK n)) ∧ Kept w w' := by
  by_cases h : n = -9223372036854775808
  · subst h
    have E : Hid (aK (-9223372036854775808) = aW 3) := by
      show _ = _; unfold aK; rw [if_pos rfl]
    have F := Lib.hid (fun w => cj 3 w); generalize aW 3 = f at *; go_enter Tryz.func103, Tryz.ntmps103; go_wp2_with fail; refine (F.out _).mono ?_; rintro e w1 ⟨rfl, k1⟩; obtain ⟨k1c, k1f⟩ := ci k1; have k1z := Below.size k1
    try simp only [World.size_alloc, World.size_setCell] at k1z k1c k1f
    try have k1x : w.heap.size ≤ w1.heap.size := by omega
    try have k1y := Nat.lt_of_succ_le k1z
    try have k1x2 : w.heap.size < w1.heap.size := by omega
    try have k1w : w.heap.size + 1 < w1.heap.size := by omega
    go_wp2_with fail; exact bodyPost_ret (v := al f) (by simp [results, Tryz.results103, go_sem, k1c]) rfl ⟨by rw [E.out], kpt⟩
  · have E : Hid (aK n = ⟨1, n, []⟩) := by
      show _ = _; unfold aK; rw [if_neg h]
    have c0 : (n == -9223372036854775808) = false := by simpa using h
    have c1 : -9223372036854775807 ≤ n := by omega
    clear h; go_enter Tryz.func103, Tryz.ntmps103; go_wp2_with fail; exact bodyPost_ret (v := al ⟨1, n, []⟩) (by simp [results, Tryz.results103, go_sem]) rfl ⟨by rw [E.out], kpt⟩
theorem eY (c : Int) (w : World) : Calls Tryz.prog 49 #[.int .i64 c] w fun e w' => e = .returned (al (aW c)) ∧ Kept w w' := by
  by_cases h : c < 1
  · have E : Hid (aW c = ⟨4, 2, []⟩) := by
      show _ = _; unfold aW; rw [if_neg (by omega)]
    go_enter Tryz.func49, Tryz.ntmps49; go_wp2_with fail; exact bodyPost_ret (v := al ⟨4, 2, []⟩) (by simp [results, Tryz.results49, go_sem]) rfl ⟨by rw [E.out], kpt⟩
  by_cases g : 7 < c
  · have E : Hid (aW c = ⟨4, 2, []⟩) := by
      show _ = _; unfold aW; rw [if_neg (by omega)]
    go_enter Tryz.func49, Tryz.ntmps49; go_wp2_with fail; exact bodyPost_ret (v := al ⟨4, 2, []⟩) (by simp [results, Tryz.results49, go_sem]) rfl ⟨by rw [E.out], kpt⟩
  · have E : Hid (aW c = ⟨4, c, []⟩) := by
      show _ = _; unfold aW; rw [if_pos (by omega)]
    go_enter Tryz.func49, Tryz.ntmps49; go_wp2_with fail; exact bodyPost_ret (v := al ⟨4, c, []⟩) (by simp [results, Tryz.results49, go_sem]) rfl ⟨by rw [E.out], kpt⟩
theorem gd (n : Int) (w : World) (h1 : -9223372036854775808 ≤ n) (h2 : n ≤ 9223372036854775807) : Calls Tryz.prog 50 #[.int .i64 n] w fun e w' => e = .returned (al (aK n)) ∧ Kept w w' := by
  by_cases h : n = -9223372036854775808
  · subst h
    have E : Hid (aK (-9223372036854775808) = aW 3) := by
      show _ = _; unfold aK; rw [if_pos rfl]
    have F := Lib.hid (fun w => eY 3 w); generalize aW 3 = f at *; go_enter Tryz.func50, Tryz.ntmps50; go_wp2_with fail; refine (F.out _).mono ?_; rintro e w1 ⟨rfl, k1⟩; obtain ⟨k1c, k1f⟩ := ci k1; have k1z := Below.size k1
    try simp only [World.size_alloc, World.size_setCell] at k1z k1c k1f
    try have k1x : w.heap.size ≤ w1.heap.size := by omega
    try have k1y := Nat.lt_of_succ_le k1z
    try have k1x2 : w.heap.size < w1.heap.size := by omega
    try have k1w : w.heap.size + 1 < w1.heap.size := by omega
    go_wp2_with fail; exact bodyPost_ret (v := al f) (by simp [results, Tryz.results50, go_sem, k1c]) rfl ⟨by rw [E.out], kpt⟩
  · have E : Hid (aK n = ⟨1, n, []⟩) := by
      show _ = _; unfold aK; rw [if_neg h]
    have c0 : (n == -9223372036854775808) = false := by simpa using h
    have c1 : -9223372036854775807 ≤ n := by omega
    clear h; go_enter Tryz.func50, Tryz.ntmps50; go_wp2_with fail; exact bodyPost_ret (v := al ⟨1, n, []⟩) (by simp [results, Tryz.results50, go_sem]) rfl ⟨by rw [E.out], kpt⟩
theorem sC (b : Bool) (w : World) : Calls Tryz.prog 48 #[.bool b] w fun e w' => e = .returned (al (fQ b)) ∧ Kept w w' := by
  cases b
  · go_enter Tryz.func48, Tryz.ntmps48
    go_wp2_with fail; exact bodyPost_ret (v := al ⟨2, 0, []⟩) (by simp [results, Tryz.results48, go_sem]) rfl ⟨rfl, kpt⟩
  · go_enter Tryz.func48, Tryz.ntmps48
    go_wp2_with fail; exact bodyPost_ret (v := al ⟨2, 1, []⟩) (by simp [results, Tryz.results48, go_sem]) rfl ⟨rfl, kpt⟩
end
section
open Go.RowKit Lv
theorem ky (k : Nat) (n : Int) (t : List UInt8) (j : Nat) (w : World) :
    Calls Tryz.prog 51 #[.agg #[.int .u8 k, .int .i64 n, .string ⟨t.toArray⟩], .int .u8 j] w fun e w' => e = .returned (al (xj ⟨k, n, t⟩ j)) ∧ Kept w w' := by
  by_cases c : k = 0
  · subst c
    show Calls _ _ #[.agg #[.int .u8 0, .int .i64 n, .string ⟨t.toArray⟩], .int .u8 j] w _; go_enter Tryz.func51, Tryz.ntmps51; go_wp2_with fail; exact bodyPost_ret (v := .agg #[.int .u8 j, .int .i64 n, .string ⟨t.toArray⟩]) (by simp [results, Tryz.results51, go_sem]) rfl ⟨rfl, kpt⟩
  · have c0 : ((k : Int) == 0) = false := by rw [beq_eq_false_iff_ne]; omega
    have E : Hid (xj ⟨k, n, t⟩ j = ⟨k, n, t⟩) := by
      show _ = _; exact if_neg c
    go_enter Tryz.func51, Tryz.ntmps51; go_wp2_with fail; exact bodyPost_ret (v := .agg #[.int .u8 k, .int .i64 n, .string ⟨t.toArray⟩]) (by simp [results, Tryz.results51, go_sem]) rfl ⟨by rw [E.out], kpt⟩
theorem uH (k : Nat) (w : World) : Calls Tryz.prog 53 #[.int .u8 k] w fun e w' => e = .returned (.int .i64 (pL k)) ∧ w = w' := by
  by_cases c : k = 1
  · subst c
    show Calls _ _ #[.int .u8 1] w _; go_enter Tryz.func53, Tryz.ntmps53; go_wp2_with fail; go_ret; exact ⟨rfl, rfl⟩
  have c1 : ((k : Int) == 1) = false := by rw [beq_eq_false_iff_ne]; omega
  by_cases d : k = 3
  · subst d
    show Calls _ _ #[.int .u8 3] w _; go_enter Tryz.func53, Tryz.ntmps53; go_wp2_with fail; go_ret; exact ⟨rfl, rfl⟩
  have c3 : ((k : Int) == 3) = false := by rw [beq_eq_false_iff_ne]; omega
  have E : Hid (pL k = 3) := by
    show _ = _; unfold pL; rw [if_neg c, if_neg d]
  clear c d; go_enter Tryz.func53, Tryz.ntmps53; go_wp2_with fail; go_ret; exact ⟨aw E.out.symm, rfl⟩
theorem BT {a b : Int} (h : a < b) : sgn a b = -1 := if_pos h
theorem BU {a b : Int} (h : b < a) : sgn a b = 1 := by unfold sgn; rw [if_neg (by omega), if_pos h]
theorem BV {a b : Int} (h : a = b) : sgn a b = 0 := by unfold sgn; rw [if_neg (by omega), if_neg (by omega)]
theorem zU (x : Int) (w : World) : Calls Tryz.prog 88 #[.int .i64 x] w fun e w' => e = .returned (.bool false) ∧ w = w' := by
  go_enter Tryz.func88, Tryz.ntmps88; go_wp2_with fail; go_ret; exact ⟨rfl, rfl⟩
theorem uI (a b : Int) (w : World) : Calls Tryz.prog 55 #[.int .i64 a, .int .i64 b] w fun e w' => e = .returned (.int .i64 (sgn a b)) ∧ w = w' := by
  have N := Lib.hid zU
  by_cases c : a < b
  · have E := Lib.hid (BT c)
    go_enter Tryz.func55, Tryz.ntmps55; go_wp2_with fail; refine (N.out _ _).mono ?_; rintro e w' ⟨rfl, rfl⟩; go_wp2_with fail; refine (N.out _ _).mono ?_; rintro e w' ⟨rfl, rfl⟩; go_wp2_with fail; go_ret; exact ⟨aw E.out.symm, rfl⟩
  by_cases d : b < a
  · have E := Lib.hid (BU d)
    go_enter Tryz.func55, Tryz.ntmps55; go_wp2_with fail; refine (N.out _ _).mono ?_; rintro e w' ⟨rfl, rfl⟩; go_wp2_with fail; refine (N.out _ _).mono ?_; rintro e w' ⟨rfl, rfl⟩; go_wp2_with fail; go_ret; exact ⟨aw E.out.symm, rfl⟩
  · have E := Lib.hid (BV (show a = b by omega))
    go_enter Tryz.func55, Tryz.ntmps55; go_wp2_with fail; refine (N.out _ _).mono ?_; rintro e w' ⟨rfl, rfl⟩; go_wp2_with fail; refine (N.out _ _).mono ?_; rintro e w' ⟨rfl, rfl⟩; go_wp2_with fail; go_ret; exact ⟨aw E.out.symm, rfl⟩
theorem sD (a b : Int) (w : World) : Calls Tryz.prog 52 #[.int .i64 a, .int .i64 b] w fun e w' => e = .returned (.int .i64 (sgn a b)) ∧ w = w' :=
  (Tryz.cmp_Compare_int a b w).mono fun _ _ ⟨h1, h2⟩ => ⟨by rw [h1]; exact aw rfl, h2.symm⟩
end
section
open Go.RowKit Lv
abbrev cq (v : Vl) : Array Value := #[.int .u8 v.k, .int .i64 v.n, .string ⟨v.t.toArray⟩]
structure Two (w : World) (p q : Nat) (a b : Vl) : Prop where
  A : Box w p 25 (cq a)
  B : Box w q 25 (cq b)
theorem Two.kept {w w' : World} {p q : Nat} {a b : Vl} (h : Two w p q a b) (k : Kept w w') : Two w' p q a b := ⟨h.A.kept k, h.B.kept k⟩
theorem Two.drew {w : World} {p q : Nat} {a b : Vl} (h : Two w p q a b) : Two w.drew p q a b := ⟨h.A, h.B⟩
theorem Two.made {w : World} {a b : Vl} : Two ((w.alloc (.cells (cq a) 25)).alloc (.cells (cq b) 25)) w.heap.size (w.heap.size + 1) a b :=
  ⟨(Box.new w _ _).alloc _, Box.newAt (by simp) _ _⟩
theorem Two.facts {w : World} {p q : Nat} {a b : Vl} (h : Two w p q a b) : p < w.heap.size ∧ q < w.heap.size ∧
    w.cell? ⟨p, 0, none⟩ = some (.int .u8 a.k) ∧ w.cell? ⟨p, 1, none⟩ = some (.int .i64 a.n) ∧ w.cell? ⟨p, 2, none⟩ = some (.string ⟨a.t.toArray⟩) ∧
    w.cell? ⟨q, 0, none⟩ = some (.int .u8 b.k) ∧ w.cell? ⟨q, 1, none⟩ = some (.int .i64 b.n) ∧ w.cell? ⟨q, 2, none⟩ = some (.string ⟨b.t.toArray⟩) ∧
    (∀ o, w.frozen? ⟨p, o, none⟩ = false) ∧ (∀ o, w.frozen? ⟨q, o, none⟩ = false) :=
  ⟨h.A.inside, h.B.inside, h.A.cell 0, h.A.cell 1, h.A.cell 2, h.B.cell 0, h.B.cell 1, h.B.cell 2, fun o => h.A.loose o, fun o => h.B.loose o⟩
theorem Box.set3 {w : World} {p : Nat} {T : TypeId} {a b c a' b' c' : Value} (h : Box w p T #[a, b, c]) : Box (((w.setCell ⟨p, 0, none⟩ a').setCell ⟨p, 1, none⟩ b').setCell ⟨p, 2, none⟩ c') p T #[a', b', c'] :=
  ((h.at_ 0 a').at_ 1 b').at_ 2 c'
theorem Box.far3 {w : World} {p g : Nat} {T : TypeId} {cs : Array Value} {a' b' c' : Value} (h : Box w g T cs) (hp : g ≠ p) : Box (((w.setCell ⟨p, 0, none⟩ a').setCell ⟨p, 1, none⟩ b').setCell ⟨p, 2, none⟩ c') g T cs :=
  ((h.far (p := ⟨p, 0, none⟩) hp a').far (p := ⟨p, 1, none⟩) hp b').far (p := ⟨p, 2, none⟩) hp c'
theorem Kept.set3 {a w : World} {p : Nat} {a' b' c' : Value} (h : Kept a w) (hp : a.heap.size ≤ p) : Kept a (((w.setCell ⟨p, 0, none⟩ a').setCell ⟨p, 1, none⟩ b').setCell ⟨p, 2, none⟩ c') :=
  ((h.setCell (p := ⟨p, 0, none⟩) hp a').setCell (p := ⟨p, 1, none⟩) hp b').setCell (p := ⟨p, 2, none⟩) hp c'
theorem Two.stored {w : World} {p q : Nat} {a b x y : Vl} (h : Two w p q a b) (hpq : p ≠ q) :
    Two ((((((w.setCell ⟨p, 0, none⟩ (.int .u8 x.k)).setCell ⟨p, 1, none⟩ (.int .i64 x.n)).setCell ⟨p, 2, none⟩ (.string ⟨x.t.toArray⟩)).setCell ⟨q, 0, none⟩ (.int .u8 y.k)).setCell ⟨q, 1, none⟩ (.int .i64 y.n)).setCell ⟨q, 2, none⟩ (.string ⟨y.t.toArray⟩)) p q x y :=
  ⟨Box.far3 (Box.set3 h.A) hpq, Box.set3 (Box.far3 h.B (fun e => hpq e.symm))⟩
theorem uJ (v : Vl) : (cx v ≠ 0 ∧ pD v = false) ∨ (cx v = 0 ∧ v.k = 4 ∧ pD v = false) ∨ (cx v = 0 ∧ v.k ≠ 4 ∧ pD v = true) := by
  unfold pD cx
  cases vOk v
  · exact Or.inl ⟨by simp, rfl⟩
  · by_cases h : v.k = 4
    · exact Or.inr (Or.inl ⟨rfl, h, by simp [h]⟩)
    · exact Or.inr (Or.inr ⟨rfl, h, by simp [h]⟩)
theorem uK {a b : Vl} (h : pD a = false ∨ pD b = false) : xk a b = (0, 2) := by
  unfold xk; rcases h with h | h <;> rw [h] <;> simp
theorem xI {a b : Vl} (h : pD a = true) (g : pD b = true) : xk a b = (nA (xj a b.k) (xj b a.k), 0) := by unfold xk; rw [h, g]; rfl
theorem uL (x y : Vl) : (x.k ≠ y.k ∧ nA x y = sgn (pL x.k) (pL y.k)) ∨ (x.k = y.k ∧ x.k = 3 ∧ nA x y = zT x.t y.t) ∨ (x.k = y.k ∧ x.k ≠ 3 ∧ nA x y = sgn x.n y.n) := by
  unfold nA
  by_cases h : x.k = y.k
  · rw [if_neg (show ¬ x.k ≠ y.k by omega)]
    by_cases g : x.k = 3
    · exact Or.inr (Or.inl ⟨h, g, by rw [if_pos g]; rfl⟩)
    · exact Or.inr (Or.inr ⟨h, g, by rw [if_neg g]⟩)
  · exact Or.inl ⟨h, if_pos h⟩
theorem nX {P : Program} {f : FuncId} {args : Array Value} {w : World} {v : Value} (h : Calls P f args w fun e w' => e = .returned v ∧ w = w') : Calls P f args w fun e w' => e = .returned v ∧ Kept w w' :=
  h.mono fun _ _ ⟨he, hw⟩ => ⟨he, by subst hw; exact Kept.refl _⟩
theorem uM (k j : Nat) (n m : Int) (t u : List UInt8) (w : World) (x y : Vl) (xl : x.t.length ≤ 1000000) (yl : y.t.length ≤ 1000000)
    (CA : Hid (∀ w, Calls Tryz.prog 27 #[.agg #[.int .u8 k, .int .i64 n, .string ⟨t.toArray⟩]] w fun e w' => e = .returned (.int .i64 0) ∧ Kept w w'))
    (CB : Hid (∀ w, Calls Tryz.prog 27 #[.agg #[.int .u8 j, .int .i64 m, .string ⟨u.toArray⟩]] w fun e w' => e = .returned (.int .i64 0) ∧ Kept w w'))
    (BA : Hid (∀ w, Calls Tryz.prog 51 #[.agg #[.int .u8 k, .int .i64 n, .string ⟨t.toArray⟩], .int .u8 j] w fun e w' => e = .returned (.agg #[.int .u8 x.k, .int .i64 x.n, .string ⟨x.t.toArray⟩]) ∧ Kept w w'))
    (BB : Hid (∀ w, Calls Tryz.prog 51 #[.agg #[.int .u8 j, .int .i64 m, .string ⟨u.toArray⟩], .int .u8 k] w fun e w' => e = .returned (.agg #[.int .u8 y.k, .int .i64 y.n, .string ⟨y.t.toArray⟩]) ∧ Kept w w'))
    (k4 : ((k : Int) == 4) = false) (j4 : ((j : Int) == 4) = false) :
    Calls Tryz.prog 19 #[.agg #[.int .u8 k, .int .i64 n, .string ⟨t.toArray⟩], .agg #[.int .u8 j, .int .i64 m, .string ⟨u.toArray⟩]] w fun e w' => e = .returned (.tuple #[.int .i64 (nA x y), .int .i64 0]) ∧ Kept w w' := by
  have WY := uL x y; generalize nA x y = r at *; go_enter Tryz.func19, Tryz.ntmps19; go_wp2_with fail; refine (CA.out _).mono ?_; rintro e w1 ⟨rfl, k1⟩; have T : Two _ w.heap.size (w.heap.size + 1) ⟨k, n, t⟩ ⟨j, m, u⟩ := Two.made.kept k1; have TT := T.facts; obtain ⟨p1, q1, a0, a1, a2, b0, b1, b2, fa, fb⟩ := TT; go_wp2_with fail; refine (CB.out _).mono ?_; rintro e w2 ⟨rfl, k2⟩; have T := T.kept k2; have kk := (((Kept.refl w).alloc _).alloc _).trans (k1.trans k2); clear p1 q1 a0 a1 a2 b0 b1 b2 fa fb k1 k2; have TT := T.facts; obtain ⟨p1, q1, a0, a1, a2, b0, b1, b2, fa, fb⟩ := TT; go_wp2_with fail; have A0 := cell_regrown a0; have A1 := cell_regrown a1; have A2 := cell_regrown a2; have B0 := cell_regrown b0; have B1 := cell_regrown b1; have B2 := cell_regrown b2; refine jm (C := fun w' => ∃ p : Regrown, w' = Go.Sort.grow (redrawn w2 p.d) p.os) 8 (by kernel_rfl) (by kernel_rfl) ⟨⟨w2.drawn + 1, #[]⟩, by rw [Go.Sort.grow_empty]; rfl⟩ ?_
  simp only [List.take_succ_cons, List.take_zero, List.drop_succ_cons, List.drop_zero]
  repeat (quiet_step (first | with_reducible exact Calls.regrown_of (BA.out _) | with_reducible exact Calls.regrown_of (BB.out _)))
  refine wpQuiet_nil ?_; intro _ hw'; obtain ⟨⟨dq, osq⟩, hw''⟩ := hw'; subst hw''; have kq : Kept w2 (Go.Sort.grow (redrawn w2 dq) osq) := below_regrown w2 dq osq; generalize Go.Sort.grow (redrawn w2 dq) osq = w2q at *; have T3 := T.kept kq; have kk := kk.trans kq; clear A0 A1 A2 B0 B1 B2 p1 q1 a0 a1 a2 b0 b1 b2 fa fb T kq; have TT := T3.facts; obtain ⟨p1, q1, a0, a1, a2, b0, b1, b2, fa, fb⟩ := TT; have T4 := Two.stored (x := x) (y := y) T3 (by omega); have kk4 : Kept w ((((((w2q.setCell ⟨w.heap.size, 0, none⟩ (.int .u8 x.k)).setCell ⟨w.heap.size, 1, none⟩ (.int .i64 x.n)).setCell ⟨w.heap.size, 2, none⟩ (.string ⟨x.t.toArray⟩)).setCell ⟨w.heap.size + 1, 0, none⟩ (.int .u8 y.k)).setCell ⟨w.heap.size + 1, 1, none⟩ (.int .i64 y.n)).setCell ⟨w.heap.size + 1, 2, none⟩ (.string ⟨y.t.toArray⟩)) := (kk.set3 (Nat.le_refl _)).set3 (by omega); have sx : (⟨w.heap.size, 0, none⟩ : Addr) ≠ ⟨w.heap.size + 1, 0, none⟩ := by simp
  clear sx; rcases WY with ⟨h1, h2⟩ | ⟨h1, h2, h3⟩ | ⟨h1, h2, h3⟩
  · have E := Lib.hid h2
    have h1' : ((x.k : Int) != (y.k : Int)) = true := by rw [bne_iff_ne]; omega
    have R := Lib.hid (fun (c : Nat) w => nX (uH c w)); have CM := Lib.hid (fun a b w => nX (sD a b w)); clear h1 h2; go_wp2_with fail; generalize (((((w2q.setCell ⟨w.heap.size, 0, none⟩ (.int .u8 x.k)).setCell ⟨w.heap.size, 1, none⟩ (.int .i64 x.n)).setCell ⟨w.heap.size, 2, none⟩ (.string ⟨x.t.toArray⟩)).setCell ⟨w.heap.size + 1, 0, none⟩ (.int .u8 y.k)).setCell ⟨w.heap.size + 1, 1, none⟩ (.int .i64 y.n)).setCell ⟨w.heap.size + 1, 2, none⟩ (.string ⟨y.t.toArray⟩) = w4 at *; obtain ⟨p1, q1, a0, a1, a2, b0, b1, b2, fa, fb⟩ := T4.facts; have A0 := cell_regrown a0; have B0 := cell_regrown b0; refine wp_region_quiet_below (w := w4) (by kernel_rfl) (by kernel_rfl) ?_
    repeat (quiet_step (first | with_reducible exact Calls.regrown_of (R.out _ _) | with_reducible exact Calls.regrown_of (CM.out _ _ _)))
    refine wpQuiet_nil ?_; intro _ hw'; obtain ⟨⟨dq, osq⟩, hw''⟩ := hw'; subst hw''; have kq : Kept w4 (Go.Sort.grow (redrawn w4 dq) osq) := below_regrown w4 dq osq; generalize Go.Sort.grow (redrawn w4 dq) osq = w4q at *; have kk5 := kk4.trans kq; go_wp2_with fail; go_ret2; exact ⟨ay E.out.symm rfl, kk5⟩
  · have E := Lib.hid h3
    have f1 : ((x.k : Int) != (y.k : Int)) = false := by rw [bne_eq_false_iff_eq]; omega
    have f2 : ((x.k : Int) == 3) = true := by rw [beq_iff_eq]; omega
    have G := Lib.hid (fun w => pT x.t y.t w xl yl); clear h1 h2 h3; go_wp2_with fail; refine (G.out _).mono ?_; rintro e w5 ⟨rfl, k5⟩; have kk5 := kk4.trans k5; go_wp2_with fail; go_ret2; exact ⟨ay E.out.symm rfl, kk5⟩
  · have E := Lib.hid h3
    have f1 : ((x.k : Int) != (y.k : Int)) = false := by rw [bne_eq_false_iff_eq]; omega
    have f2 : ((x.k : Int) == 3) = false := by rw [beq_eq_false_iff_ne]; omega
    have G := Lib.hid (fun a b w => uI a b w); clear h1 h2 h3; go_wp2_with fail; refine (G.out _ _ _).mono ?_; rintro e w5 ⟨rfl, rfl⟩; go_wp2_with fail; go_ret2; exact ⟨ay E.out.symm rfl, kk4⟩
theorem kA (a b : Vl) (w : World) (ha : i64 a.n) (hb : i64 b.n) (la : a.t.length ≤ 1000000) (lb : b.t.length ≤ 1000000) (h : pD a = false ∨ pD b = false) :
    Calls Tryz.prog 19 #[al a, al b] w fun e w' => e = .returned (.tuple #[.int .i64 0, .int .i64 2]) ∧ Kept w w' := by
  have CA := Lib.hid (fun w => cN a w ha la); have CB := Lib.hid (fun w => cN b w hb lb); have ka := uJ a; have kb := uJ b; obtain ⟨k, n, t⟩ := a; obtain ⟨j, m, u⟩ := b; have T0 : Hid (∀ w : World, Two ((w.alloc (.cells (cq ⟨k, n, t⟩) 25)).alloc (.cells (cq ⟨j, m, u⟩) 25)) w.heap.size (w.heap.size + 1) ⟨k, n, t⟩ ⟨j, m, u⟩) := fun w => Two.made; rcases ka with ⟨ka, oa⟩ | ⟨ka, oa, ob⟩ | ⟨ka, oa, ob⟩
  · have f : (cx ⟨k, n, t⟩ != 0) = true := by simpa using ka
    generalize cx ⟨k, n, t⟩ = ca at *; clear ka oa kb h; go_enter Tryz.func19, Tryz.ntmps19; go_wp2_with fail; refine (CA.out _).mono ?_; rintro e w' ⟨rfl, k1⟩; have kk := (((Kept.refl w).alloc _).alloc _).trans k1; go_wp2_with fail; go_ret2; exact ⟨rfl, kk⟩
  · rw [ka] at CA
    have o4 : ((k : Int) == 4) = true := by rw [beq_iff_eq]; exact congrArg Int.ofNat oa
    rcases kb with ⟨kb, obb⟩ | ⟨kb, obb⟩ | ⟨kb, obb⟩
    · have f : (cx ⟨j, m, u⟩ != 0) = true := by simpa using kb
      generalize cx ⟨j, m, u⟩ = cb at *; clear ka oa ob kb obb h o4; go_enter Tryz.func19, Tryz.ntmps19; go_wp2_with fail; refine (CA.out _).mono ?_; rintro e w1 ⟨rfl, k1⟩; have T := (T0.out w).kept k1; obtain ⟨p1, q1, a0, a1, a2, b0, b1, b2, fa, fb⟩ := T.facts; go_wp2_with fail; refine (CB.out _).mono ?_; rintro e w' ⟨rfl, k2⟩; have kk := (((Kept.refl w).alloc _).alloc _).trans (k1.trans k2); go_wp2_with fail; go_ret2; exact ⟨rfl, kk⟩
    all_goals
      rw [kb] at CB; clear ka oa ob kb obb h; go_enter Tryz.func19, Tryz.ntmps19; go_wp2_with fail; refine (CA.out _).mono ?_; rintro e w1 ⟨rfl, k1⟩; have T := (T0.out w).kept k1; have TT := T.facts; obtain ⟨p1, q1, a0, a1, a2, b0, b1, b2, fa, fb⟩ := TT; go_wp2_with fail; refine (CB.out _).mono ?_; rintro e w2 ⟨rfl, k2⟩; have T := T.kept k2; have kk := (((Kept.refl w).alloc _).alloc _).trans (k1.trans k2); clear p1 q1 a0 a1 a2 b0 b1 b2 fa fb k1 k2; obtain ⟨p1, q1, a0, a1, a2, b0, b1, b2, fa, fb⟩ := T.facts; go_wp2_with fail; go_ret2; exact ⟨rfl, kk⟩
  · rw [ka] at CA
    have o4 : ((k : Int) == 4) = false := by rw [beq_eq_false_iff_ne]; intro e; exact oa (Int.ofNat_inj.1 e)
    rcases kb with ⟨kb, obb⟩ | ⟨kb, obb, obc⟩ | ⟨kb, obb, obc⟩
    · have f : (cx ⟨j, m, u⟩ != 0) = true := by simpa using kb
      generalize cx ⟨j, m, u⟩ = cb at *; clear ka oa ob kb obb h o4; go_enter Tryz.func19, Tryz.ntmps19; go_wp2_with fail; refine (CA.out _).mono ?_; rintro e w1 ⟨rfl, k1⟩; have T := (T0.out w).kept k1; obtain ⟨p1, q1, a0, a1, a2, b0, b1, b2, fa, fb⟩ := T.facts; go_wp2_with fail; refine (CB.out _).mono ?_; rintro e w' ⟨rfl, k2⟩; have kk := (((Kept.refl w).alloc _).alloc _).trans (k1.trans k2); go_wp2_with fail; go_ret2; exact ⟨rfl, kk⟩
    · rw [kb] at CB
      have p4 : ((j : Int) == 4) = true := by rw [beq_iff_eq]; exact congrArg Int.ofNat obb
      clear ka oa ob kb obb obc h; go_enter Tryz.func19, Tryz.ntmps19; go_wp2_with fail; refine (CA.out _).mono ?_; rintro e w1 ⟨rfl, k1⟩; have T := (T0.out w).kept k1; have TT := T.facts; obtain ⟨p1, q1, a0, a1, a2, b0, b1, b2, fa, fb⟩ := TT; go_wp2_with fail; refine (CB.out _).mono ?_; rintro e w2 ⟨rfl, k2⟩; have T := T.kept k2; have kk := (((Kept.refl w).alloc _).alloc _).trans (k1.trans k2); clear p1 q1 a0 a1 a2 b0 b1 b2 fa fb k1 k2; obtain ⟨p1, q1, a0, a1, a2, b0, b1, b2, fa, fb⟩ := T.facts; go_wp2_with fail; go_ret2; exact ⟨rfl, kk⟩
    · rw [ob, obc] at h; rcases h with h | h <;> cases h
theorem ra (v : Vl) (o : Nat) : (xj v o).t = v.t := by unfold xj; split <;> rfl
theorem lU {v : Vl} (h : pD v = true) : vOk v = true ∧ v.k ≠ 4 := by unfold pD at h; rw [Bool.and_eq_true, decide_eq_true_eq] at h; exact h
theorem nY (a b : Vl) (w : World) (ha : i64 a.n) (hb : i64 b.n) (la : a.t.length ≤ 1000000) (lb : b.t.length ≤ 1000000) :
    Calls Tryz.prog 19 #[al a, al b] w fun e w' => e = .returned (.tuple #[.int .i64 (xk a b).1, .int .i64 (xk a b).2]) ∧ Kept w w' := by
  by_cases c : pD a = true
  · by_cases d : pD b = true
    · rw [xI c d]
      obtain ⟨oa, a4⟩ := lU c; obtain ⟨ob, b4⟩ := lU d; have CA := Lib.hid (fun w => cN a w ha la); have CB := Lib.hid (fun w => cN b w hb lb); rw [da oa] at CA; rw [da ob] at CB
      exact uM a.k b.k a.n b.n a.t b.t w (xj a b.k) (xj b a.k) (by rw [ra]; exact la) (by rw [ra]; exact lb) CA CB (Lib.hid (fun w => ky a.k a.n a.t b.k w)) (Lib.hid (fun w => ky b.k b.n b.t a.k w))
        (by rw [beq_eq_false_iff_ne]; intro e; exact a4 (Int.ofNat_inj.1 e)) (by rw [beq_eq_false_iff_ne]; intro e; exact b4 (Int.ofNat_inj.1 e))
    · rw [uK (Or.inr (by simpa using d))]
      exact kA a b w ha hb la lb (Or.inr (by simpa using d))
  · rw [uK (Or.inl (by simpa using c))]
    exact kA a b w ha hb la lb (Or.inl (by simpa using c))
end
section
open Go.RowKit Lv
