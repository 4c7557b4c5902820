/- Small texts together: GLogic3, GLogic5, GLogic6, GValues, SX9, SX10. -/
import Derived.Test.YtbpkfnoenkoabaaGreatDoorFgMixAT
import Derived.Test.YtbpkfnoenkoabaaGreatDoorFgSX6
import Derived.Test.YtbpkfnoenkoabaaGreatDoorFgMixAJ
import Derived.Test.YtbpkfnoenkoabaaGreatDoorFgMixAO
import Derived.Test.YtbpkfnoenkoabaaGreatDoorFgBunW
import Derived.Test.YtbpkfnoenkoabaaGreatDoorFgMixAM
import Derived.Laws.MakeOwn
set_option linter.unusedVariables false
set_option linter.unusedSimpArgs false
namespace Go.Proofs.YtbpkfnoenkoabaaGreatDoor
open Go.RowKit Lv
structure Tri (w : World) (p : Nat) (a b c : Vl) : Prop where
  A : Box w p 25 (cellsV a)
  B : Box w (p + 1) 25 (cellsV b)
  C : Box w (p + 1 + 1) 25 (cellsV c)
theorem Tri.kept {w w' : World} {p : Nat} {a b c : Vl} (h : Tri w p a b c) (k : Kept w w') : Tri w' p a b c := ⟨h.A.kept k, h.B.kept k, h.C.kept k⟩
theorem Tri.made (w : World) (a b c : Vl) : Tri (((w.alloc (.cells (cellsV a) 25)).alloc (.cells (cellsV b) 25)).alloc (.cells (cellsV c) 25)) w.heap.size a b c :=
  ⟨((Box.new w _ _).alloc _).alloc _, (Box.newAt (by simp) _ _).alloc _, Box.newAt (by simp) _ _⟩
theorem Tri.far {w : World} {p g : Nat} {a b c : Vl} (h : Tri w p a b c) (hg : p + 1 + 1 < g) (x y z : Value) : Tri (((w.setCell ⟨g, 0, none⟩ x).setCell ⟨g, 1, none⟩ y).setCell ⟨g, 2, none⟩ z) p a b c := ⟨Box.far3 h.A (by omega), Box.far3 h.B (by omega), Box.far3 h.C (by omega)⟩
theorem Tri.inside {w : World} {p : Nat} {a b c : Vl} (h : Tri w p a b c) : p + 1 + 1 < w.heap.size := h.C.inside
end Go.Proofs.YtbpkfnoenkoabaaGreatDoor

namespace Go.Proofs.YtbpkfnoenkoabaaGreatDoor
open Go.RowKit Lv
end Go.Proofs.YtbpkfnoenkoabaaGreatDoor

namespace Go.Proofs.YtbpkfnoenkoabaaGreatDoor
open Go.RowKit Lv
theorem RowV.head {w : World} {b off : Nat} {a : Vl} {r : List Vl} (h : RowV w (some ⟨b, off, none⟩) (a :: r)) : b < w.heap.size ∧ w.cell? ⟨b, off, none⟩ = some (.int .u8 a.k) ∧ w.cell? ⟨b, off + 1, none⟩ = some (.int .i64 a.n) ∧ w.cell? ⟨b, off + 2, none⟩ = some (.string ⟨a.t.toArray⟩) := by
  obtain ⟨b', off', e, hb, x0, x1, x2⟩ := h 0 (by simp)
  cases e
  simp only [Nat.zero_mul, Nat.add_zero, List.getD_cons_zero] at x0 x1 x2
  exact ⟨hb, x0, x1, x2⟩
theorem RowV.second {w : World} {b off : Nat} {a c : Vl} {r : List Vl} (h : RowV w (some ⟨b, off, none⟩) (a :: c :: r)) : w.cell? ⟨b, off + 3, none⟩ = some (.int .u8 c.k) ∧ w.cell? ⟨b, off + 3 + 1, none⟩ = some (.int .i64 c.n) ∧ w.cell? ⟨b, off + 3 + 2, none⟩ = some (.string ⟨c.t.toArray⟩) := by
  obtain ⟨b', off', e, hb, x0, x1, x2⟩ := h 1 (by simp)
  cases e
  exact ⟨x0, x1, x2⟩
end Go.Proofs.YtbpkfnoenkoabaaGreatDoor

namespace Go.Proofs.YtbpkfnoenkoabaaGreatDoor
open Go.RowKit Lv
theorem OwnV.made (w : World) (l : List Vl) (hl : l.length ≤ maxLen) : OwnV (w.alloc (.cells (flatV l).toArray 25)) w.heap.size (.slice (some ⟨w.heap.size, 0, none⟩) l.length l.length) l := by
  refine ⟨flatV_length l, Or.inr ⟨w.heap.size, l.length, (flatV l).toArray, rfl, Nat.le_refl _, heap_alloc_new w _, Nat.le_refl _, hl, ?_, ?_⟩⟩
  · rw [List.size_toArray, flatV_length]
  · rw [List.take_of_length_le (by rw [flatV_length]; exact Nat.le_refl _)]
def SomeRow (n : Nat) (w : World) (e : Ending) (w' : World) : Prop := ∃ l, l.length = n ∧ (∀ v ∈ l, Wide v) ∧ NewRow w l e w'
def vals12 : List Vl := [⟨0, 0, []⟩, ⟨2, 0, []⟩, ⟨2, 1, []⟩, ⟨3, 0, []⟩, ⟨3, 0, [51]⟩, ⟨3, 0, [32, 45, 50, 46, 53, 32]⟩, ⟨3, 0, [120]⟩, ⟨3, 0, [84, 82, 85, 69]⟩, ⟨2, 2, []⟩, ⟨5, 0, []⟩, ⟨4, 7, []⟩, ⟨1, -9223372036854775808, []⟩]
theorem wide_of {v : Vl} (h1 : v.k ≤ 255) (h2 : -9223372036854775808 ≤ v.n ∧ v.n ≤ 9223372036854775807) (h3 : v.t.length ≤ 300) : Wide v := ⟨h1, h2, Nat.le_trans h3 (by decide)⟩
theorem vals12_wide : ∀ v ∈ vals12, Wide v := fun v hv => by
  have : (vals12.all fun v => decide (v.k ≤ 255 ∧ (-9223372036854775808 ≤ v.n ∧ v.n ≤ 9223372036854775807) ∧ v.t.length ≤ 300)) = true := by decide
  have := List.all_eq_true.1 this v hv; rw [decide_eq_true_eq] at this; exact wide_of this.1 this.2.1 this.2.2
abbrev nums17 : Value := .agg #[.int .i64 0, .int .i64 1, .int .i64 (-1), .int .i64 4999, .int .i64 5000, .int .i64 10000, .int .i64 (-10000), .int .i64 15000, .int .i64 (-15000), .int .i64 20000, .int .i64 25000, .int .i64 30000, .int .i64 123456789, .int .i64 4611686018427387904, .int .i64 (-4611686018427387904), .int .i64 9223372036854775807, .int .i64 (-9223372036854775807)]
theorem num17 (k : Nat) (h : k < 17) : ∃ z : Int, (-9223372036854775808 ≤ z ∧ z ≤ 9223372036854775807) ∧ ∀ w, (Instr.index 105 nums17 (.int .i64 k)).run Tryz.prog w = .ok (.int .i64 z) w := by
  match k, h with
  | 0, _ => exact ⟨0, by omega, fun w => by kernel_rfl⟩
  | 1, _ => exact ⟨1, by omega, fun w => by kernel_rfl⟩
  | 2, _ => exact ⟨-1, by omega, fun w => by kernel_rfl⟩
  | 3, _ => exact ⟨4999, by omega, fun w => by kernel_rfl⟩
  | 4, _ => exact ⟨5000, by omega, fun w => by kernel_rfl⟩
  | 5, _ => exact ⟨10000, by omega, fun w => by kernel_rfl⟩
  | 6, _ => exact ⟨-10000, by omega, fun w => by kernel_rfl⟩
  | 7, _ => exact ⟨15000, by omega, fun w => by kernel_rfl⟩
  | 8, _ => exact ⟨-15000, by omega, fun w => by kernel_rfl⟩
  | 9, _ => exact ⟨20000, by omega, fun w => by kernel_rfl⟩
  | 10, _ => exact ⟨25000, by omega, fun w => by kernel_rfl⟩
  | 11, _ => exact ⟨30000, by omega, fun w => by kernel_rfl⟩
  | 12, _ => exact ⟨123456789, by omega, fun w => by kernel_rfl⟩
  | 13, _ => exact ⟨4611686018427387904, by omega, fun w => by kernel_rfl⟩
  | 14, _ => exact ⟨-4611686018427387904, by omega, fun w => by kernel_rfl⟩
  | 15, _ => exact ⟨9223372036854775807, by omega, fun w => by kernel_rfl⟩
  | 16, _ => exact ⟨-9223372036854775807, by omega, fun w => by kernel_rfl⟩
  | k + 17, h => exact absurd h (by omega)
set_option maxHeartbeats 4000000 in
set_option maxRecDepth 100000 in
theorem values_any (w : World) : Calls Tryz.prog 25 #[] w (SomeRow 35 w) := by
  have o0 := OwnV.made w vals12 (by decide); have O0 : Hid (OwnV (w.alloc (.cells (flatV vals12).toArray 25)) w.heap.size (.slice (some ⟨w.heap.size, 0, none⟩) 12 12) vals12) := Lib.hid o0; clear o0; go_enter Tryz.func25, Tryz.ntmps25; go_wp2_with fail
  go_loopw [1, 2] (fun s i wr => ∃ (c : Nat) (l : List Vl), c ≤ 6 ∧ i = .int .i64 ((c : Int) + 1) ∧ l.length = 12 + c ∧ (∀ v ∈ l, Wide v) ∧ OwnV wr w.heap.size s l ∧ Kept w wr) (fun _ i _ => (7 - intOf i).toNat)
  case atStart => exact ⟨0, vals12, by omega, rfl, rfl, vals12_wide, O0.out, (Kept.refl w).alloc _⟩
  case round =>
    obtain ⟨c, l, hc, rfl, hl, hw, own, kw⟩ := hrel; have OWN := Lib.hid own; have HL := Lib.hid hl; have HW := Lib.hid hw; have KW := Lib.hid kw; clear own hl hw kw
    by_cases h6 : c < 6
    · have kz := (Kept.refl wr).alloc (.cells #[.int .u8 4, .int .i64 ((c : Int) + 1), .string ⟨#[]⟩] 25)
      have ho := Lib.hid (OWN.out.kept kz); have KZ := Lib.hid (KW.out.trans kz); have rz : RowV (wr.alloc (.cells #[.int .u8 4, .int .i64 ((c : Int) + 1), .string ⟨#[]⟩] 25)) (some ⟨wr.heap.size, 0, none⟩) [⟨4, (c : Int) + 1, []⟩] := RowV.box (t := 25) (Box.new _ _ _) rfl; have RZ := Lib.hid rz; have sz := KW.out.size; have LT : Hid (l.length + 1 ≤ 1000000) := Lib.hid (by rw [HL.out]; omega); clear kz rz; go_wp2_with (refine append_vals rfl _ _ rfl w.heap.size _ _ [⟨4, (c : Int) + 1, []⟩] rfl ho.out _ _ rfl RZ.out (by simp only [List.length_singleton]; exact LT.out) (by simp; omega) ?_; intro v1 w5 o1 gr); have k5 := ho.out.grown (a := w) (Nat.le_refl _) KZ.out gr
      go_roundw
      case rel => exact ⟨c + 1, _, by omega, by go_num, by rw [List.length_append, HL.out]; rfl, fun v hv => by
        rcases List.mem_append.1 hv with hv | hv
        · exact HW.out v hv
        · rw [List.mem_singleton] at hv; subst hv; exact wide_of (by simp only; omega) (by simp only; omega) (by simp), o1, k5⟩
      case measure => (simp [intOf]; try omega)
    · obtain rfl : c = 6 := by omega
      clear h6 hc; rw [show (((6 : Nat) : Int) + 1) = 7 from rfl]; go_wp2_with fail
      go_loopw [1, 28] (fun s i wr => ∃ (k : Nat) (l : List Vl), k ≤ 17 ∧ i = .int .i64 k ∧ l.length = 18 + k ∧ (∀ v ∈ l, Wide v) ∧ OwnV wr w.heap.size s l ∧ Kept w wr) (fun _ i _ => (17 - intOf i).toNat)
      case atStart => exact ⟨0, l, by omega, rfl, HL.out, HW.out, OWN.out, KW.out⟩
      case round =>
        clear OWN HL HW KW; obtain ⟨k, l, hk, rfl, hl, hw, own, kw⟩ := hrel; have OWN := Lib.hid own; have HL := Lib.hid hl; have HW := Lib.hid hw; have KW := Lib.hid kw; clear own hl hw kw
        by_cases h17 : k < 17
        · obtain ⟨z, zb, ix⟩ := num17 k h17
          have kz := (Kept.refl wr).alloc (.cells #[.int .u8 1, .int .i64 z, .string ⟨#[]⟩] 25); have ho := Lib.hid (OWN.out.kept kz); have KZ := Lib.hid (KW.out.trans kz); have rz : RowV (wr.alloc (.cells #[.int .u8 1, .int .i64 z, .string ⟨#[]⟩] 25)) (some ⟨wr.heap.size, 0, none⟩) [⟨1, z, []⟩] := RowV.box (t := 25) (Box.new _ _ _) rfl; have RZ := Lib.hid rz; have sz := KW.out.size; have LT : Hid (l.length + 1 ≤ 1000000) := Lib.hid (by rw [HL.out]; omega); have ZB := Lib.hid zb; clear kz rz zb; go_wp2_with (refine append_vals rfl _ _ rfl w.heap.size _ _ [⟨1, z, []⟩] rfl ho.out _ _ rfl RZ.out (by simp only [List.length_singleton]; exact LT.out) (by simp; omega) ?_; intro v1 w5 o1 gr); have k5 := ho.out.grown (a := w) (Nat.le_refl _) KZ.out gr
          go_roundw
          case rel => exact ⟨k + 1, _, by omega, by go_num, by rw [List.length_append, HL.out]; rfl, fun v hv => by
            rcases List.mem_append.1 hv with hv | hv
            · exact HW.out v hv
            · rw [List.mem_singleton] at hv; subst hv; exact wide_of (by simp only; omega) ZB.out (by simp), o1, k5⟩
          case measure => (simp [intOf]; try omega)
        · obtain rfl : k = 17 := by omega
          obtain ⟨A, cap, rfl⟩ := OWN.out.form; go_wp2_with fail; go_ret; exact ⟨l, HL.out, HW.out, _, rfl, OWN.out, KW.out⟩
end Go.Proofs.YtbpkfnoenkoabaaGreatDoor

namespace Go.Proofs.YtbpkfnoenkoabaaGreatDoor
open Go.RowKit
structure Sto where
  i : Nat
  j : Nat
  tj : Nat
  t : TypeId
  cs : Array Value
  vs : List Value
def Sto.old (s : Sto) : Obj := .cells s.cs s.t (0, 0)
def Sto.new (s : Sto) : Obj := .cells (setCells s.cs 0 s.vs) s.t (0, 0)
def yPtr (base : Nat) : Yield := ⟨fun v w => ∃ g, v = .pointer (some ⟨g, 0, none⟩) ∧ base ≤ g ∧ g < w.heap.size, fun _ _ _ ⟨g, e, hb, hh⟩ k => ⟨g, e, hb, Nat.lt_of_lt_of_le hh k.size⟩, true, fun _ _ _ ⟨g, e, _, hh⟩ => ⟨g, by rw [e]; rfl, hh⟩⟩
def Lasts (y : Yield) : Prop := ∀ v w w', w.heap.size ≤ w'.heap.size → y.p v w → y.p v w'
def Lasting (ys : List Yield) : Prop := ∀ y ∈ ys, Lasts y
theorem lasting0 : Lasting [] := fun _ h => by cases h
theorem lastingV {ys : List Yield} {v : Value} (h : Lasting ys) : Lasting (yV v :: ys) := fun y hy => by
  rcases List.mem_cons.1 hy with rfl | c
  · exact fun _ _ _ _ q => q
  · exact h y c
theorem lastingN {ys : List Yield} (h : Lasting ys) : Lasting (yNo :: ys) := fun y hy => by
  rcases List.mem_cons.1 hy with rfl | c
  · exact fun _ _ _ _ q => q
  · exact h y c
theorem lastingP {ys : List Yield} {b : Nat} (h : Lasting ys) : Lasting (yPtr b :: ys) := fun y hy => by
  rcases List.mem_cons.1 hy with rfl | c
  · exact fun _ _ _ k ⟨g, e, hb, hh⟩ => ⟨g, e, hb, Nat.lt_of_lt_of_le hh k⟩
  · exact h y c
theorem Ys.lasts {ys : List Yield} (h : Lasting ys) {j : Nat} {v : Value} {w w' : World} (k : w.heap.size ≤ w'.heap.size) (q : Ys ys j v w) : Ys ys j v w' := by
  unfold Ys at q ⊢
  cases e : ys[j]? with
  | none => trivial
  | some y => rw [e] at q; exact h y (List.mem_of_getElem? e) v w w' k q
theorem putCells_kept {a w : World} {g : Nat} (hg : a.heap.size ≤ g) : ∀ (vs : List Value) (i : Nat) (w : World), Kept a w → Kept a (putCells w g i vs)
  | [], _, _, h => h
  | v :: r, i, w, h => putCells_kept (w := w) hg r (i + 1) _ (h.setCell (p := ⟨g, i, none⟩) hg v)
theorem putCells_size {g : Nat} : ∀ (vs : List Value) (i : Nat) (w : World), (putCells w g i vs).heap.size = w.heap.size
  | [], _, _ => rfl
  | v :: r, i, w => by
    show (putCells (w.setCell ⟨g, i, none⟩ v) g (i + 1) r).heap.size = _; rw [putCells_size r (i + 1), World.size_setCell]
theorem putCells_far {g h : Nat} (ne : h ≠ g) : ∀ (vs : List Value) (i : Nat) (w : World), (putCells w g i vs).heap[h]? = w.heap[h]?
  | [], _, _ => rfl
  | v :: r, i, w => by
    show (putCells (w.setCell ⟨g, i, none⟩ v) g (i + 1) r).heap[h]? = _; rw [putCells_far ne r (i + 1)]; exact Below.heap_setCell w ⟨g, i, none⟩ v h ne
theorem putCells_box {g : Nat} {t : TypeId} : ∀ (vs : List Value) (i : Nat) (w : World) (cs : Array Value), Box w g t cs → Box (putCells w g i vs) g t (setCells cs i vs)
  | [], _, _, _, h => h
  | v :: r, i, w, cs, h => putCells_box r (i + 1) _ _ (h.at_ i v)
theorem pw_eq {l : List Sto} (h : l.Pairwise fun s u => s.i ≠ u.i ∧ s.j ≠ u.j) : ∀ s ∈ l, ∀ u ∈ l, (s.i = u.i ∨ s.j = u.j) → s = u := by
  induction h with
  | nil => intro s hs; cases hs
  | cons hx _ ih =>
    intro s hs u hu c; rcases List.mem_cons.1 hs with rfl | hs1
    · rcases List.mem_cons.1 hu with rfl | hu1
      · rfl
      · have := hx u hu1
        rcases c with c | c
        · exact absurd c this.1
        · exact absurd c this.2
    · rcases List.mem_cons.1 hu with rfl | hu1
      · have := hx s hs1
        rcases c with c | c
        · exact absurd c.symm this.1
        · exact absurd c.symm this.2
      · exact ih s hs1 u hu1 c
def freeB9 (ops : Array Oper) (N : Nat) : Bool :=
  acyB ops && (List.range ops.size).all fun i => match (ops[i]?).bind (·.dst) with
    | none => true
    | some t => decide (t < N) && (List.range ops.size).all fun j => Nat.beq j i || !(((ops[j]?).bind (·.dst)) == some t)
def stoB (ops : Array Oper) (ij : List (Nat × Nat × Nat)) : Bool := ij.all fun s => ((ops[s.2.1]?).bind (·.dst) == some s.2.2) && (match ops[s.1]? with
  | some o => o.dst.isNone && o.after.toList.any fun e => Region.binds .any e && e.on == s.2.1
  | none => false)
section
variable {P : Program} {ops : Array Oper}
structure InvF9 (ops : Array Oper) (ys : List Yield) (sto : List Sto) (w0 : World) (a0 : Act) (done : Array Bool) (a : Act) (w : World) : Prop where
  len : done.size = ops.size
  kept : Kept w0 w
  beside : BesideN ops ops.size a0 a
  vals : ∀ j, done.getD j false = true → Ys ys j (At ops a j) w
  apart : ∀ j k, j ≠ k → Fs ys j = true → Fs ys k = true → done.getD j false = true → done.getD k false = true → blkOf (At ops a j) ≠ blkOf (At ops a k)
  ord : ∀ s ∈ sto, done.getD s.i false = true → done.getD s.j false = true
  cont : ∀ s ∈ sto, done.getD s.j false = true → ∀ g, blkOf (At ops a s.j) = some g → w.heap[g]? = some (if done.getD s.i false = true then s.new else s.old)
def StepF9 (P : Program) (ops : Array Oper) (ys : List Yield) (sto : List Sto) (i : Nat) (o : Oper) (a : Act) (w : World) : Prop :=
  (StepX P ops ys i o a w ∧ (o.dst.isSome && sto.all fun s => !Nat.beq s.i i && !Nat.beq s.j i) = true) ∨
  (∃ s ∈ sto, s.j = i ∧ Region.wanted o (yielded ops a.tmps) = true ∧ (execOp a.eval o).run P w = .ok (.value (.pointer (some ⟨w.heap.size, 0, none⟩))) (w.alloc s.old)) ∨
  (∃ s ∈ sto, s.i = i ∧ Region.wanted o (yielded ops a.tmps) = true ∧ ∀ g, a.eval (.tmp s.tj) = .pointer (some ⟨g, 0, none⟩) → Box w g s.t s.cs → (execOp a.eval o).run P w = .ok .skip (putCells w g 0 s.vs))
theorem getD_keep' {done : Array Bool} {j : Nat} (h : done.getD j false = true) (i : Nat) : (done.setIfInBounds i true).getD j false = true := by
  by_cases e : i = j
  · subst e
    have : i < done.size := by
      rcases Nat.lt_or_ge i done.size with c | c
      · exact c
      · simp [Array.getD, Nat.not_lt.2 c] at h
    simp [Array.getD, this]
  · rw [getD_set_ne false e]; exact h
theorem At.put_same {i t : Nat} {o : Oper} {a : Act} {v : Value} (h : ops[i]? = some o) (hd : o.dst = some t) (hs : t < a.tmps.size) : At ops (a.put o.dst v) i = v := by
  unfold At; rw [h, hd]
  simp only [Option.bind_some, hd]
  exact getD_put_same hs
theorem free_dst {N : Nat} (hB : freeB9 ops N = true) {i t : Nat} {o : Oper} (h : ops[i]? = some o) (hd : o.dst = some t) : t < N ∧ ∀ j q, j ≠ i → ops[j]? = some q → q.dst ≠ some t := by
  simp only [freeB9, Bool.and_eq_true, List.all_eq_true, List.mem_range] at hB
  have hi : i < ops.size := (Array.getElem?_eq_some_iff.1 h).1; have := hB.2 i hi; rw [h] at this
  simp only [Option.bind_some, hd, Bool.and_eq_true, decide_eq_true_eq, List.all_eq_true, List.mem_range, Bool.or_eq_true, Bool.not_eq_true', beq_eq_false_iff_ne, ne_eq] at this
  refine ⟨this.1, fun j q ne hq e => ?_⟩; have hj : j < ops.size := (Array.getElem?_eq_some_iff.1 hq).1; rcases this.2 j hj with c | c
  · exact ne (Nat.eq_of_beq_eq_true c)
  · rw [hq] at c
    exact c (by simpa using e)
theorem At.put_other {N i : Nat} {o : Oper} {a : Act} {v : Value} (hB : freeB9 ops N = true) (h : ops[i]? = some o) {j : Nat} (ne : j ≠ i) : At ops (a.put o.dst v) j = At ops a j := by
  cases hd : o.dst with
  | none => rfl
  | some t =>
    unfold At
    cases hq : ops[j]? with
    | none => rfl
    | some q =>
      simp only [Option.bind_some]
      cases hu : q.dst with
      | none => rfl
      | some u =>
        simp only
        exact getD_put_other (fun e => (free_dst hB h hd).2 j q ne hq (by rw [hu, e]))
theorem BesideN.put' {i : Nat} {o : Oper} {a0 a : Act} {v : Value} (h : ops[i]? = some o) (b : BesideN ops ops.size a0 a) : BesideN ops ops.size a0 (a.put o.dst v) := by
  cases hd : o.dst with
  | none => exact b
  | some t =>
    have hi : i < ops.size := (Array.getElem?_eq_some_iff.1 h).1; refine ⟨b.defers, by simp only [Act.put, Array.size_setIfInBounds]; exact b.size, fun u hu => ?_⟩; rw [getD_put_other, b.same u hu]; rintro rfl
    have : writesN ops ops.size t = true := by
      unfold writesN; rw [List.any_eq_true]; exact ⟨i, List.mem_range.2 hi, by rw [h]; simp [hd]⟩
    rw [this] at hu; cases hu
theorem sto_at {ij : List Sto} (hS : stoB ops (ij.map fun s => (s.i, s.j, s.tj)) = true) {s : Sto} (hs : s ∈ ij) : (ops[s.j]?).bind (·.dst) = some s.tj ∧ ∃ o, ops[s.i]? = some o ∧ o.dst = none ∧ ∃ e ∈ o.after, Region.binds .any e = true ∧ e.on = s.j := by
  simp only [stoB, List.all_map, List.all_eq_true, Function.comp, Bool.and_eq_true, beq_iff_eq] at hS
  obtain ⟨h1, h2⟩ := hS s hs; refine ⟨h1, ?_⟩
  cases ho : ops[s.i]? with
  | none => rw [ho] at h2; cases h2
  | some o =>
    rw [ho] at h2
    simp only [Bool.and_eq_true, Option.isNone_iff_eq_none, List.any_eq_true, beq_iff_eq] at h2
    obtain ⟨e, he, hb⟩ := h2.2; exact ⟨o, rfl, h2.1, e, by simpa using he, hb⟩
theorem InvF9.put {ys : List Yield} {sto : List Sto} {N : Nat} {w0 w w' : World} {a0 a : Act} {done : Array Bool} (hB : freeB9 ops N = true)
    (inv : InvF9 ops ys sto w0 a0 done a w) {i : Nat} {o : Oper} (h : ops[i]? = some o) {v : Value} (hu : done.getD i true = false) (hv : Ys ys i (At ops (a.put o.dst v) i) w') (k : Kept w w') (hf : Fs ys i = true → ∃ g, blkOf (At ops (a.put o.dst v) i) = some g ∧ w.heap.size ≤ g)
    (hc : ∀ s ∈ sto, s.j = i → ∀ g, blkOf (At ops (a.put o.dst v) i) = some g → done.getD s.i false = false ∧ w'.heap[g]? = some s.old) (hn : ∀ s ∈ sto, s.i ≠ i) (hp : ∀ s ∈ sto, Fs ys s.j = true) :
    InvF9 ops ys sto w0 a0 (done.setIfInBounds i true) (a.put o.dst v) w' := by
  have hi : i < ops.size := (Array.getElem?_eq_some_iff.1 h).1; have old : ∀ j, j ≠ i → (done.setIfInBounds i true).getD j false = true → done.getD j false = true := fun j ne hj => by rwa [getD_set_ne false (fun e => ne e.symm)] at hj
  have oth : ∀ j, j ≠ i → At ops (a.put o.dst v) j = At ops a j := fun j ne => At.put_other hB h ne; refine ⟨by rw [Array.size_setIfInBounds]; exact inv.len, inv.kept.trans k, inv.beside.put' h, fun j hd => ?_, fun j q ne fj fq dj dq => ?_, fun s hs hd => ?_, fun s hs hd g hg => ?_⟩
  · by_cases e : j = i
    · subst e; exact hv
    · rw [oth j e]; exact (inv.vals j (old j e hd)).stays k
  · by_cases ej : j = i
    · subst ej
      have eq : q ≠ j := fun e => ne e.symm; rw [oth q eq]; obtain ⟨g, hg, hge⟩ := hf fj; obtain ⟨g2, hg2, hlt⟩ := (inv.vals q (old q eq dq)).inside fq; rw [hg, hg2]; intro e
      cases e
      omega
    · by_cases eq : q = i
      · subst eq
        rw [oth j ej]; obtain ⟨g, hg, hge⟩ := hf fq; obtain ⟨g2, hg2, hlt⟩ := (inv.vals j (old j ej dj)).inside fj; rw [hg, hg2]; intro e
        cases e
        omega
      · rw [oth j ej, oth q eq]
        exact inv.apart j q ne fj fq (old j ej dj) (old q eq dq)
  · rw [getD_set_ne false (fun e => hn s hs e.symm)] at hd
    exact getD_keep' (inv.ord s hs hd) i
  · have ns : s.i ≠ i := hn s hs
    rw [getD_set_ne false (fun e => ns e.symm)]
    by_cases e : s.j = i
    · rw [e] at hg
      obtain ⟨h1, h2⟩ := hc s hs e g hg; rw [h1]; exact h2
    · rw [oth s.j e] at hg
      have := inv.cont s hs (old s.j e hd) g hg; obtain ⟨g2, hg2, hlt⟩ := (inv.vals s.j (old s.j e hd)).inside (hp s hs); rw [hg] at hg2
      cases hg2
      exact (k.block g hlt).trans this
theorem InvF9.store {ys : List Yield} {sto : List Sto} {N : Nat} {w0 w : World} {a0 a : Act} {done : Array Bool} (hB : freeB9 ops N = true) (hP : sto.Pairwise fun s u => s.i ≠ u.i ∧ s.j ≠ u.j) (hl : Lasting ys) (hy : ∀ s ∈ sto, ys[s.j]? = some (yPtr w0.heap.size)) (hyi : ∀ s ∈ sto, ys[s.i]? = some yNo)
    (inv : InvF9 ops ys sto w0 a0 done a w) {s : Sto} (hs : s ∈ sto) {o : Oper} (h : ops[s.i]? = some o) (hd : o.dst = none) (hu : done.getD s.i true = false) (hdj : done.getD s.j false = true) {g : Nat} (hg : At ops a s.j = .pointer (some ⟨g, 0, none⟩)) (v : Value) :
    InvF9 ops ys sto w0 a0 (done.setIfInBounds s.i true) (a.put o.dst v) (putCells w g 0 s.vs) := by
  have hi : s.i < ops.size := (Array.getElem?_eq_some_iff.1 h).1; have ea : a.put o.dst v = a := by rw [hd]; rfl
  rw [ea]; have old : ∀ j, j ≠ s.i → (done.setIfInBounds s.i true).getD j false = true → done.getD j false = true := fun j ne hj => by rwa [getD_set_ne false (fun e => ne e.symm)] at hj
  have fj : ∀ u ∈ sto, Fs ys u.j = true := fun u hu => by unfold Fs; rw [hy u hu]; rfl
  have fi : Fs ys s.i = false := by unfold Fs; rw [hyi s hs]; rfl
  have ne_of : ∀ j, Fs ys j = true → j ≠ s.i := fun j f e => by rw [e, fi] at f; cases f
  have gb : w0.heap.size ≤ g := by
    have := inv.vals s.j hdj; unfold Ys at this; rw [hy s hs, hg] at this; obtain ⟨g', e, hb, _⟩ := this
    cases e
    exact hb
  refine ⟨by rw [Array.size_setIfInBounds]; exact inv.len, putCells_kept (w := w) gb _ _ _ inv.kept, inv.beside, fun j hd => ?_, fun j q ne fj' fq' dj dq => inv.apart j q ne fj' fq' (old j (ne_of j fj') dj) (old q (ne_of q fq') dq), fun u hu' hd => ?_, fun u hu' hd g2 hg2 => ?_⟩
  · by_cases e : j = s.i
    · subst e
      unfold Ys; rw [hyi s hs]
      trivial
    · exact (inv.vals j (old j e hd)).lasts hl (by rw [putCells_size]; exact Nat.le_refl _)
  · by_cases e : u = s
    · subst e; exact getD_keep' hdj _
    · exact getD_keep' (inv.ord u hu' (old u.i (fun c => e (pw_eq hP u hu' s hs (Or.inl c))) hd)) _
  · have old1 := old u.j (ne_of u.j (fj u hu')) hd
    by_cases e : u = s
    · subst e
      rw [hg] at hg2
      cases hg2
      have is_ : (done.setIfInBounds u.i true).getD u.i false = true := by
        have : u.i < done.size := by rw [inv.len]; exact hi
        simp [Array.getD, this]
      rw [if_pos is_]; have c := inv.cont u hs hdj g (by rw [hg]; rfl); rw [if_neg (by rw [getD_both hu]; simp)] at c; exact putCells_box u.vs 0 w u.cs c
    · have nj : u.j ≠ s.j := fun c => e (pw_eq hP u hu' s hs (Or.inr c))
      have ni : u.i ≠ s.i := fun c => e (pw_eq hP u hu' s hs (Or.inl c))
      have gne : g2 ≠ g := fun c => by
        have := inv.apart u.j s.j nj (fj u hu') (fj s hs) old1 hdj; rw [hg2, hg, c] at this; exact this rfl
      rw [putCells_far gne, getD_set_ne false (fun c => ni c.symm)]; exact inv.cont u hu' old1 g2 hg2
theorem region_free {id : Nat} {l : List Oper} (ys : List Yield) (sto : List Sto) (N : Nat) {Q : Exit → Act → World → Prop} {w0 : World} {a0 : Act} (hm : P.follows .mixedOrders = true) (hz : a0.tmps.size = N) (hB : freeB9 l.toArray N = true) (hS : stoB l.toArray (sto.map fun s => (s.i, s.j, s.tj)) = true) (hP : sto.Pairwise fun s u => s.i ≠ u.i ∧ s.j ≠ u.j)
    (hl : Lasting ys) (hy : ∀ s ∈ sto, ys[s.j]? = some (yPtr w0.heap.size)) (hyi : ∀ s ∈ sto, ys[s.i]? = some yNo)
    (step : ∀ i o, l.toArray[i]? = some o → ∀ a w, Kept w0 w → BesideN l.toArray l.toArray.size a0 a → Deps l.toArray ys o a w → StepF9 P l.toArray ys sto i o a w)
    (fin : ∀ a w, Kept w0 w → BesideN l.toArray l.toArray.size a0 a → (∀ j, j < l.toArray.size → Ys ys j (At l.toArray a j) w) → (∀ j k, j < l.toArray.size → k < l.toArray.size → j ≠ k → Fs ys j = true → Fs ys k = true → blkOf (At l.toArray a j) ≠ blkOf (At l.toArray a k)) →
      (∀ s ∈ sto, ∀ g, blkOf (At l.toArray a s.j) = some g → w.heap[g]? = some s.new) → Q .normal a w) :
    (Code.region id l.toArray true).wp P Q a0 w0 := by
  have hA : acyB l.toArray = true := by
    have := hB
    simp only [freeB9, Bool.and_eq_true] at this
    exact this.1
  have fs : ∀ u ∈ sto, Fs ys u.j = true := fun u hu => by unfold Fs; rw [hy u hu]; rfl
  refine region_inv (I := InvF9 l.toArray ys sto w0 a0) hm hA ?_ ?_ ?_
  · refine ⟨Array.size_replicate, (Kept.refl w0).drew, ⟨rfl, rfl, fun _ _ => rfl⟩, fun j hj => ?_, fun j k _ _ _ hj _ => ?_, fun s _ hj => ?_, fun s _ hj => ?_⟩ <;> (rw [getD_replicate_false] at hj; cases hj)
  · intro done i o ho hsz hu waits a w inv
    have hi : i < l.toArray.size := (Array.getElem?_eq_some_iff.1 ho).1; have deps : Deps l.toArray ys o a w := fun e he hb => inv.vals e.on (waits e he hb); have st := step i o ho a w inv.kept inv.beside deps; rcases st with ⟨st, no⟩ | ⟨s, hs, rfl, wa, run⟩ | ⟨s, hs, rfl, wa, run⟩
    · have nos : ∀ s ∈ sto, s.i ≠ i ∧ s.j ≠ i := fun s hs => by
        rw [Bool.and_eq_true] at no; have := List.all_eq_true.1 no.2 s hs
        simp only [Bool.and_eq_true, Bool.not_eq_true'] at this
        exact ⟨fun e => (by rw [e, Nat.beq_refl] at this; cases this.1), fun e => (by rw [e, Nat.beq_refl] at this; cases this.2)⟩
      unfold StepX at st; unfold StepI
      have res : ∀ v w', Ys ys i v w' → Kept w w' → (Fs ys i = true → ∃ g, blkOf v = some g ∧ w.heap.size ≤ g) → InvF9 l.toArray ys sto w0 a0 (done.setIfInBounds i true) (a.put o.dst v) w' := fun v w' hv hk hf => by
        cases hd : o.dst with
        | none => rw [hd] at no; cases no
        | some t =>
          have sz : t < a.tmps.size := by rw [inv.beside.size, hz]; exact (free_dst hB ho hd).1
          have ev := At.put_same (v := v) ho hd sz; exact hd ▸ InvF9.put hB inv ho hu (v := v) (by rw [ev]; exact hv) hk (by rw [ev]; exact hf) (fun s hs e => absurd e (nos s hs).2) (fun s hs => (nos s hs).1) fs
      split
      · rename_i hw
        rw [if_pos hw] at st; exact fun K R hK => st K R fun v w' hv hk hf => hK v w' (res v w' hv hk hf)
      · rename_i hw
        rw [if_neg hw] at st; exact res undef w st.1 (Kept.refl w) (fun e => by rw [st.2] at e; cases e)
    · obtain ⟨hdj, o', ho', hd', e, he, hb, hon⟩ := sto_at hS hs
      unfold StepI; rw [if_pos wa]; intro K R hK; rw [ho] at hdj
      simp only [Option.bind_some] at hdj
      have sz : s.tj < a.tmps.size := by rw [inv.beside.size, hz]; exact (free_dst hB ho hdj).1
      have ev := At.put_same (v := .pointer (some ⟨w.heap.size, 0, none⟩)) ho hdj sz; unfold Oper.wp; rw [run]; refine hK _ _ (InvF9.put hB inv ho hu (v := .pointer (some ⟨w.heap.size, 0, none⟩)) ?_ ((Kept.refl w).alloc _) (fun _ => ⟨_, by rw [ev]; rfl, Nat.le_refl _⟩) (fun u hu' eu g hg => ?_) (fun u hu' eu => ?_) fs)
      · unfold Ys
        rw [hy s hs, ev]; exact ⟨_, rfl, inv.kept.size, by rw [World.size_alloc]; omega⟩
      · rw [ev] at hg
        cases hg
        obtain rfl := pw_eq hP u hu' s hs (Or.inr eu); refine ⟨?_, Go.heap_alloc_new _ _⟩
        cases hd2 : done.getD u.i false with
        | false => rfl
        | true =>
          have := inv.ord u hs hd2; rw [getD_both hu] at this
          cases this
      · obtain ⟨_, o2, h2, h3, _⟩ := sto_at hS hu'
        rw [eu, ho] at h2
        cases h2
        rw [h3] at hdj
        cases hdj
    · obtain ⟨hdj, o', ho', hd', e, he, hb, hon⟩ := sto_at hS hs
      rw [ho] at ho'
      cases ho'
      have dj : done.getD s.j false = true := by rw [← hon]; exact waits e he hb
      unfold StepI; rw [if_pos wa]; intro K R hK; have := inv.vals s.j dj; unfold Ys at this; rw [hy s hs] at this; obtain ⟨g, eg, _, _⟩ := this; have c := inv.cont s hs dj g (by rw [eg]; rfl); rw [if_neg (by rw [getD_both hu]; simp)] at c; have ev : a.eval (.tmp s.tj) = .pointer (some ⟨g, 0, none⟩) := by rw [← eg]; unfold At; rw [hdj]; rfl
      have r := hK undef _ (InvF9.store hB hP hl hy hyi inv hs ho hd' hu dj eg undef); rw [hd'] at r; unfold Oper.wp; rw [run g ev c, Oper.upon_skip, hd']; exact r
  · intro done a w inv all
    exact fin a w inv.kept inv.beside (fun j hj => inv.vals j (all j hj)) (fun j k hj hk ne fj fk => inv.apart j k ne fj fk (all j hj) (all k hk)) (fun s hs g hg => by
      obtain ⟨h1, o, h2, _⟩ := sto_at hS hs; have hi : s.i < l.toArray.size := (Array.getElem?_eq_some_iff.1 h2).1
      have hj : s.j < l.toArray.size := by
        cases hq : l.toArray[s.j]? with
        | none => rw [hq] at h1; cases h1
        | some q => exact (Array.getElem?_eq_some_iff.1 hq).1
      have := inv.cont s hs (all _ hj) g hg
      rwa [if_pos (all _ hi)] at this)
/-! the arms, in few words -/
def pwB : List (Nat × Nat × Nat) → Bool
  | [] => true
  | s :: l => (l.all fun u => !Nat.beq s.1 u.1 && !Nat.beq s.2.1 u.2.1) && pwB l
theorem pwB_out : ∀ (l : List Sto), pwB (l.map fun s => (s.i, s.j, s.tj)) = true → l.Pairwise fun s u => s.i ≠ u.i ∧ s.j ≠ u.j
  | [], _ => .nil
  | s :: l, h => by
    simp only [List.map_cons, pwB, List.all_map, Bool.and_eq_true, List.all_eq_true, Function.comp, Bool.not_eq_true'] at h
    refine .cons (fun u hu => ?_) (pwB_out l h.2); have := h.1 u hu; exact ⟨fun e => (by rw [e, Nat.beq_refl] at this; cases this.1), fun e => (by rw [e, Nat.beq_refl] at this; cases this.2)⟩
def AllS (p : Sto → Prop) : List Sto → Prop
  | [] => True
  | s :: l => p s ∧ AllS p l
theorem AllS.out {p : Sto → Prop} : ∀ {l : List Sto}, AllS p l → ∀ s ∈ l, p s
  | [], _, s, h => by cases h
  | x :: l, h, s, hs => by
    rcases List.mem_cons.1 hs with rfl | c
    · exact h.1
    · exact AllS.out h.2 s c
def ArmsF (P : Program) (ops : Array Oper) (ys : List Yield) (sto : List Sto) (w0 : World) (a0 : Act) : Nat → List Oper → Prop
  | _, [] => True
  | i, o :: r => (∀ a w, Kept w0 w → BesideN ops ops.size a0 a → Deps ops ys o a w → StepF9 P ops ys sto i o a w) ∧ ArmsF P ops ys sto w0 a0 (i + 1) r
theorem ArmsF.get {ys : List Yield} {sto : List Sto} {w0 : World} {a0 : Act} : ∀ (l : List Oper) (i : Nat), ArmsF P ops ys sto w0 a0 i l → ∀ (k : Nat) (o : Oper), l[k]? = some o → ∀ a w, Kept w0 w → BesideN ops ops.size a0 a → Deps ops ys o a w → StepF9 P ops ys sto (i + k) o a w
  | [], _, _, k, o, h => by simp at h
  | x :: l, i, hA, 0, o, h => by simp at h; subst h; exact hA.1
  | x :: l, i, hA, k + 1, o, h => by
    have := ArmsF.get l (i + 1) hA.2 k o (by simpa using h)
    rwa [show i + 1 + k = i + (k + 1) by omega] at this
variable {ys : List Yield} {sto : List Sto} {w0 : World} {a0 : Act} {i : Nat} {o : Oper} {r : List Oper}
theorem armF0 : ArmsF P ops ys sto w0 a0 i [] := trivial
theorem fx (h : Arms P ops ops.size ys w0 a0 i [o]) (no : (o.dst.isSome && sto.all fun s => !Nat.beq s.i i && !Nat.beq s.j i) = true) (t : ArmsF P ops ys sto w0 a0 (i + 1) r) : ArmsF P ops ys sto w0 a0 i (o :: r) := ⟨fun a w k b d => Or.inl ⟨h.1 a w k b d, no⟩, t⟩
theorem sfA {s : Sto} (k : Nat) (hk : sto[k]? = some s) (hj : s.j = i) (hg : o.guard = none) (h : ∀ a w, Kept w0 w → BesideN ops ops.size a0 a → Deps ops ys o a w → (execOp a.eval o).run P w = .ok (.value (.pointer (some ⟨w.heap.size, 0, none⟩))) (w.alloc s.old)) (t : ArmsF P ops ys sto w0 a0 (i + 1) r) : ArmsF P ops ys sto w0 a0 i (o :: r) :=
  ⟨fun a w q b d => Or.inr (Or.inl ⟨s, List.mem_of_getElem? hk, hj, want0 hg, h a w q b d⟩), t⟩
theorem sfS {s : Sto} (k : Nat) (hk : sto[k]? = some s) (hi : s.i = i) (hg : o.guard = none) (h : ∀ a w g, Kept w0 w → BesideN ops ops.size a0 a → Deps ops ys o a w → a.eval (.tmp s.tj) = .pointer (some ⟨g, 0, none⟩) → Box w g s.t s.cs → (execOp a.eval o).run P w = .ok .skip (putCells w g 0 s.vs)) (t : ArmsF P ops ys sto w0 a0 (i + 1) r) : ArmsF P ops ys sto w0 a0 i (o :: r) :=
  ⟨fun a w q b d => Or.inr (Or.inr ⟨s, List.mem_of_getElem? hk, hi, want0 hg, fun g e bx => h a w g q b d e bx⟩), t⟩
theorem gotF {a : Act} {w : World} {n t : Nat} {s : Sto} (hv : ∀ j, j < n → Ys ys j (At ops a j) w) (hc : ∀ s ∈ sto, ∀ g, blkOf (At ops a s.j) = some g → w.heap[g]? = some s.new) (k : Nat) (hk : sto[k]? = some s) (hj : Nat.blt s.j n = true) (hy : ys[s.j]? = some (yPtr w0.heap.size)) (ht : (ops[s.j]?).bind (·.dst) = some t) : ∃ g, a.eval (.tmp t) = .pointer (some ⟨g, 0, none⟩) ∧ w0.heap.size ≤ g ∧ w.heap[g]? = some (.cells (setCells s.cs 0 s.vs) s.t (0, 0)) := by
  obtain ⟨g, e, hb, _⟩ : ∃ g, a.eval (.tmp t) = .pointer (some ⟨g, 0, none⟩) ∧ w0.heap.size ≤ g ∧ g < w.heap.size := gotY hv s.j hj hy ht; refine ⟨g, e, hb, hc s (List.mem_of_getElem? hk) g ?_⟩; rw [at_slot ht, e]; rfl
end
theorem rgf {id : Nat} {l : List Oper} (ys : List Yield) (sto : List Sto) (N : Nat) {Q : Exit → Act → World → Prop} {w0 : World} {a0 : Act} (hz : a0.tmps.size = N) (hB : freeB9 l.toArray N = true) (hS : stoB l.toArray (sto.map fun s => (s.i, s.j, s.tj)) = true) (hP : pwB (sto.map fun s => (s.i, s.j, s.tj)) = true) (hl : Lasting ys) (hy : AllS (fun s => ys[s.j]? = some (yPtr w0.heap.size) ∧ ys[s.i]? = some yNo) sto)
    (arms : ArmsF Tryz.prog l.toArray ys sto w0 a0 0 l)
    (fin : ∀ a w, Kept w0 w → BesideN l.toArray l.toArray.size a0 a → (∀ j, j < l.toArray.size → Ys ys j (At l.toArray a j) w) → (∀ j k, j < l.toArray.size → k < l.toArray.size → j ≠ k → Fs ys j = true → Fs ys k = true → blkOf (At l.toArray a j) ≠ blkOf (At l.toArray a k)) → (∀ s ∈ sto, ∀ g, blkOf (At l.toArray a s.j) = some g → w.heap[g]? = some s.new) → wpList Tryz.prog l.toArray Q [] a w) :
    (Code.region id l.toArray true).wp Tryz.prog Q a0 w0 :=
  region_free ys sto N follows_mixed hz hB hS (pwB_out _ hP) hl (fun s hs => (hy.out s hs).1) (fun s hs => (hy.out s hs).2) (fun i o ho a w k b d => by
    have h := arms.get l 0 i o (by simpa using ho) a w k b d
    rwa [Nat.zero_add] at h) (fun a w k b hv ap hc => fin a w k b hv ap hc)
end Go.Proofs.YtbpkfnoenkoabaaGreatDoor

namespace Go.Proofs.YtbpkfnoenkoabaaGreatDoor
open Go.RowKit Lv
def fillC (c n k : Nat) : Array Value := (List.replicate k (Value.int .u8 c) ++ List.replicate (n - k) (Value.int .u8 0)).toArray
theorem fillC_size {c n k : Nat} (h : k ≤ n) : (fillC c n k).size = n := by unfold fillC; simp; omega
theorem fillC_get {c n i : Nat} (hi : i < n) : (fillC c n n)[i]? = some (Value.int .u8 c) := by
  unfold fillC; rw [List.getElem?_toArray, List.getElem?_append_left (by simpa using hi), List.getElem?_replicate, if_pos hi]
theorem fillC_step {c n k : Nat} (h : k < n) : setCells (fillC c n k) (0 + k) [Value.int .u8 c] = fillC c n (k + 1) := by
  rw [Nat.zero_add]; show (fillC c n k).setIfInBounds k (Value.int .u8 c) = _; unfold fillC; rw [List.setIfInBounds_toArray]
  congr 1
  rw [List.set_append_right _ _ (by simp), List.length_replicate, Nat.sub_self, show n - k = (n - (k + 1)) + 1 by omega, List.replicate_succ, List.set_cons_zero, List.replicate_succ', List.append_assoc]
  rfl
theorem xmakeC (c : Nat) {a : Act} {w : World} {o : Oper} {n : Nat} {x y : Operand} (ho : o.op = .makeSlice 35 x y) (hx : a.eval x = .int .i64 n) (hy : a.eval y = .int .i64 n) (hn : n ≤ 100000) : (execOp a.eval o).run Tryz.prog w = .ok (.value (.slice (some ⟨w.heap.size, 0, none⟩) n n)) (w.alloc (.cells (fillC c n 0) 5 (0, 0))) := by
  have h : (Tryz.prog.info? 5).map (fun i => (i.zero, i.size, i.bytes)) = some (some (.int .u8 0), 1, 1) := by kernel_rfl
  cases hi : Tryz.prog.info? 5 with
  | none => rw [hi] at h; cases h
  | some i =>
    rw [hi] at h
    simp at h
    have hr := run_make (P := Tryz.prog) w 35 5 i (.int .u8 0) Tryz.underlying35 hi h.1 .i64 .i64 n n (by omega) (Int.le_refl _) (by rw [h.2.2]; omega) (by omega)
    simp only [Int.toNat_natCast] at hr
    rw [h.2.1, Nat.mul_one] at hr
    have e : madeCells (Value.int .u8 0).cells n = fillC c n 0 := by
      unfold fillC; apply Array.ext'; rw [show (Value.int .u8 0).cells = #[Value.int .u8 0] from rfl, toList_madeCells_one]
      simp
    rw [e] at hr; unfold execOp
    simp only [ho, hx, hy, Sem.run_bind, Sem.run_pure, hr, Result.andThen_ok]
theorem xsliceToB {a : Act} {w : World} {o : Oper} {x y : Operand} (ho : o.op = .slice 35 x none (some y) none) {b n cap h : Nat} (hx : a.eval x = .slice (some ⟨b, 0, none⟩) n cap) (hy : a.eval y = .int .i64 h) (hh : h ≤ cap) : (execOp a.eval o).run Tryz.prog w = .ok (.value (.slice (some ⟨b, 0, none⟩) h cap)) w := by
  have := xsliceTo (w := w) Tryz.underlying35 (by kernel_rfl) ho hx hy hh
  rwa [fz_some] at this
theorem strOfNums_rep (c m : Nat) : strOfNums (List.replicate m (c : Int)) = ⟨(List.replicate m (UInt8.ofNat c)).toArray⟩ := by
  unfold strOfNums
  congr 1
  congr 1
  rw [List.map_replicate]
  rfl
theorem xstrC {a : Act} {w : World} {o : Oper} {x : Operand} {g m cap c n : Nat} (ho : o.op = .convert 35 9 x) (hx : a.eval x = .slice (some ⟨g, 0, none⟩) m cap) (bx : Box w g 5 (fillC c n n)) (hm : m ≤ n) : (execOp a.eval o).run Tryz.prog w = .ok (.value (.string ⟨(List.replicate m (UInt8.ofNat c)).toArray⟩)) w := by
  have r := run_convert_bytes_arg (P := Tryz.prog) w 35 5 Tryz.underlying35 Tryz.underlying5 g 0 m cap (List.replicate m (c : Int)) (by simp)
    (fun i hi => by
      rw [Nat.zero_add, bx.cell i, fillC_get (by omega)]
      simp [List.getD, List.getElem?_replicate, hi]) 9 Tryz.underlying9
  rw [strOfNums_rep] at r; exact xconvert ho hx r
theorem wf_i64 {n : Int} (h1 : -9223372036854775808 ≤ n) (h2 : n ≤ 9223372036854775807) : (Lit.int .i64 n).wf = true := by
  unfold Lit.wf; rw [Bool.and_eq_true, decide_eq_true_eq, decide_eq_true_eq]; exact ⟨h1, h2⟩
theorem wf_u8 {n : Int} (h1 : 0 ≤ n) (h2 : n ≤ 255) : (Lit.int .u8 n).wf = true := by
  unfold Lit.wf; rw [Bool.and_eq_true, decide_eq_true_eq, decide_eq_true_eq]; exact ⟨h1, h2⟩
theorem wideD {l : List Vl} {k : Nat} (hw : ∀ v ∈ l, Wide v) (hk : k < l.length) : Wide (l.getD k blankV) := hw _ (by rw [show l.getD k blankV = l[k] by simp [List.getD, hk]]; exact List.getElem_mem hk)
theorem wide_lit {v : Vl} (h1 : v.k ≤ 255) (h2 : -9223372036854775808 ≤ v.n ∧ v.n ≤ 9223372036854775807) (h3 : v.t.length ≤ 300) : Wide v := ⟨h1, h2, Nat.le_trans h3 (by decide)⟩
theorem wide1 {x : Vl} (hx : Wide x) : ∀ v ∈ [x], Wide v := fun v hv => by rw [List.mem_singleton] at hv; subst hv; exact hx
theorem wide2 {x y : Vl} (hx : Wide x) (hy : Wide y) : ∀ v ∈ [x, y], Wide v := fun v hv => by
  rcases List.mem_cons.1 hv with rfl | h
  · exact hx
  · exact wide1 hy v h
theorem wide3 {x y z : Vl} (hx : Wide x) (hy : Wide y) (hz : Wide z) : ∀ v ∈ [x, y, z], Wide v := fun v hv => by
  rcases List.mem_cons.1 hv with rfl | h
  · exact hx
  · exact wide2 hy hz v h
theorem vals_obj {w : World} {g : Nat} {l : List Vl} (h : w.heap[g]? = some (rowObj l)) (hw : ∀ v ∈ l, Wide v) (hl : l.length ≤ 300) : ValsIn w (some ⟨g, 0, none⟩) l.length l.length l :=
  ⟨rowObj_row h, rfl, Nat.le_refl _, Nat.le_trans hl (by decide), hw, (fun e => by cases e), (fun a e _ => by cases e; exact ⟨g, 0, rfl⟩)⟩
theorem vals_nil (w : World) : ValsIn w none 0 0 [] := ⟨RowV.nil _ _, rfl, Nat.le_refl _, Nat.zero_le _, (fun v hv => by cases hv), (fun _ => ⟨rfl, rfl⟩), (fun a e => by cases e)⟩
theorem OwnV.cap {w : World} {base g cap n : Nat} {l : List Vl} (h : w.ownsRow base 25 3 (.slice (some ⟨g, 0, none⟩) n cap) l.length (flatV l)) : RowV w (some ⟨g, 0, none⟩) l ∧ l.length ≤ cap ∧ cap ≤ maxLen := by
  rcases h.2 with ⟨e, _⟩ | ⟨g', cap', cur, e, hb, hh, h4, h5, h6, h7⟩
  · cases e
  · cases e
    exact ⟨RowV.box (t := 25) (cs := cur) hh h7, h4, h5⟩
theorem vals_part {w : World} {base g cap n i : Nat} {l : List Vl} (h : w.ownsRow base 25 3 (.slice (some ⟨g, 0, none⟩) n cap) l.length (flatV l)) (hw : ∀ v ∈ l, Wide v) (hi : i < l.length) : ValsIn w (some ⟨g, 0 + i * 3, none⟩) 1 (cap - i) [l.getD i blankV] := by
  obtain ⟨hr, hc, hm⟩ := OwnV.cap h; refine ⟨fun k hk => ?_, rfl, by omega, by omega, wide1 (wideD hw hi), (fun e => by cases e), (fun a e _ => by cases e; exact ⟨g, _, rfl⟩)⟩; have : k = 0 := by simp at hk; omega
  subst this; obtain ⟨b, off, e, hb, h0, h1, h2⟩ := hr i hi
  cases e
  exact ⟨g, 0 + i * 3, rfl, hb, by simpa using h0, by simpa using h1, by simpa using h2⟩
theorem xaddU8n {a : Act} {w : World} {o : Oper} {T2 : TypeId} {x y : Operand} (ho : o.op = .binOp .add 5 x y T2) {n m : Nat} (hx : a.eval x = .int .u8 n) (hy : a.eval y = .int .u8 m) (h1 : n + m ≤ 255) : (execOp a.eval o).run Tryz.prog w = .ok (.value (.int .u8 ((n + m : Nat) : Int))) w := by
  have e : IntKind.u8.wrap ((n : Int) + (m : Int)) = ((n + m : Nat) : Int) := by
    unfold IntKind.wrap
    simp [IntKind.bits, IntKind.signed]
    omega
  unfold execOp; rw [ho]
  simp only [hx, hy]
  go_simp
  try exact e
end Go.Proofs.YtbpkfnoenkoabaaGreatDoor
