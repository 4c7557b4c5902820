/- BunW: the texts Base, Base2, Base3, Bytes, BaLib, WDec0, WText1, WText2, WDigits, WParse, WParse2, WParse3, WParse4, WRef0, WRef7 together. -/
import Derived.WalkKit
import Derived.Lib.Hide
import Derived.Deep.QuietTactic
import Derived.Laws.Rows
import Derived.Handy
import Derived.Test.YtbkjdcpfkepheaaGreatDoorProg
import Derived.Lib.AppendStr
import Derived.Laws.BytesArg
import Derived.Laws.AppendOwn
import Derived.Laws.OwnMore
import Derived.OwnWalk
import Derived.Lib.ConvBytes
import Derived.Test.YtbkjdcpfkepheaaGreatDoorCBunM
import Derived.ProofKit
import Derived.Outline
import Derived.Lib.ItoaNum
import Derived.BigQuiet
import Derived.Deep.DeepCutAuto
import Derived.Deep.CutBlock
set_option linter.unusedVariables false
set_option linter.unusedSimpArgs false
set_option maxHeartbeats 800000
set_option maxRecDepth 100000
namespace Go.Proofs.YtbkjdcpfkepheaaGreatDoor
section
open Go.RowKit
theorem ak {k : IntKind} {a b : Int} (h : a = b) : Ending.returned (.int k a) = .returned (.int k b) := by rw [h]
theorem dM {a b : Bool} (h : a = b) : Ending.returned (.bool a) = .returned (.bool b) := by rw [h]
theorem av {k l : IntKind} {a b c d : Int} (h : a = b) (g : c = d) : Ending.returned (.tuple #[.int k a, .int l c]) = .returned (.tuple #[.int k b, .int l d]) := by rw [h, g]
theorem vw {k : IntKind} {a : Int} {c : Bool} {p : Int × Bool} (h : p = (a, c)) : Ending.returned (.tuple #[.int k a, .bool c]) = .returned (.tuple #[.int k p.1, .bool p.2]) := by rw [h]
abbrev Kept (w w' : World) : Prop := Below w.heap.size w w'
theorem Kept.refl (w : World) : Kept w w := Below.refl _ _
theorem Kept.trans {a b c : World} (h : Kept a b) (k : Kept b c) : Kept a c := Below.trans h (k.mono h.size)
theorem bP {W w1 : World} (hb : Below W.heap.size W w1) : (∀ b o, b < W.heap.size → w1.cell? ⟨b, o, none⟩ = W.cell? ⟨b, o, none⟩) ∧ (∀ b o, b < W.heap.size → w1.frozen? ⟨b, o, none⟩ = W.frozen? ⟨b, o, none⟩) :=
  ⟨fun b o h => hb.cell (p := ⟨b, o, none⟩) h, fun b o h => hb.frozen (p := ⟨b, o, none⟩) h⟩
end
section
open Go.RowKit
theorem Kept.alloc {a w : World} (h : Kept a w) (o : Obj) : Kept a (w.alloc o) := Below.alloc h h.size o
theorem Kept.drew {a w : World} (h : Kept a w) : Kept a w.drew := Below.drew h
theorem Kept.drewN {a w : World} (h : Kept a w) (n : Nat) : Kept a (w.drewN n) := by
  induction n with
  | zero => exact h
  | succ n ih => exact Below.drew ih
theorem Kept.setCell {a w : World} (h : Kept a w) {p : Addr} (hp : a.heap.size ≤ p.block) (u : Value) : Kept a (w.setCell p u) := Below.setCell h hp u
theorem Kept.setCellX {a w : World} {p : Addr} (hp : a.heap.size ≤ p.block) (h : Kept a w) (u : Value) : Kept a (w.setCell p u) := Below.setCell h hp u
theorem lj {k l : IntKind} {a b c d : Int} (h : a = b) (g : c = d) : Ending.returned (.agg #[.int k a, .int l c]) = .returned (.agg #[.int k b, .int l d]) := by rw [h, g]
theorem Kept.of_drewN {w : World} (n : Nat) : Kept w (w.drewN n) := (Kept.refl w).drewN n
theorem kpt {a w : World} (h : Kept a w := by repeat (first | with_reducible exact Kept.refl _ | with_reducible apply Kept.drew | with_reducible apply Kept.drewN | with_reducible apply Kept.alloc | (with_reducible refine Kept.setCellX ?_ ?_ _; focus (first | (simp; done) | (simp; omega))) | (with_reducible refine Kept.trans ?_ (by assumption)))) : Kept a w := h
end
section
open Go.RowKit
def Box (w : World) (g : Nat) (t : TypeId) (cs : Array Value) : Prop := w.heap[g]? = some (.cells cs t (0, 0))
section
variable {w w' : World} {g : Nat} {t : TypeId} {cs : Array Value}
theorem Box.inside (h : Box w g t cs) : g < w.heap.size := (Array.getElem?_eq_some_iff.1 h).1
theorem Box.cell (h : Box w g t cs) (i : Nat) : w.cell? ⟨g, i, none⟩ = cs[i]? := cell_of_row w g i cs t (0, 0) h
theorem Box.loose (h : Box w g t cs) (i : Nat) : w.frozen? ⟨g, i, none⟩ = false := by simp only [World.frozen?, show w.heap[g]? = _ from h]; simp
theorem Box.new (w : World) (t : TypeId) (cs : Array Value) : Box (w.alloc (.cells cs t)) w.heap.size t cs := Go.heap_alloc_new w _
theorem Box.newAt {w : World} {g : Nat} (h : w.heap.size = g) (t : TypeId) (cs : Array Value) : Box (w.alloc (.cells cs t)) g t cs := by subst h; exact Box.new w t cs
theorem Box.drew (h : Box w g t cs) : Box w.drew g t cs := h
theorem Box.drewN (h : Box w g t cs) (n : Nat) : Box (w.drewN n) g t cs := by
  induction n with
  | zero => exact h
  | succ n ih => exact ih
theorem Box.alloc (h : Box w g t cs) (o : Obj) : Box (w.alloc o) g t cs := (Below.heap_alloc w o g h.inside).trans h
theorem Box.at_ (h : Box w g t cs) (i : Nat) (u : Value) : Box (w.setCell ⟨g, i, none⟩ u) g t (cs.setIfInBounds i u) := by
  show ((w.setCell ⟨g, i, none⟩ u).heap)[g]? = _
  simp only [World.setCell, Array.getElem?_modify, show w.heap[g]? = _ from h]
  simp
theorem Box.far (h : Box w g t cs) {p : Addr} (hp : g ≠ p.block) (u : Value) : Box (w.setCell p u) g t cs := (Below.heap_setCell w p u g hp).trans h
theorem Box.farX {p : Addr} (hp : g ≠ p.block) (h : Box w g t cs) (u : Value) : Box (w.setCell p u) g t cs := h.far hp u
theorem Box.kept (k : Kept w w') (h : Box w g t cs) : Box w' g t cs := (k.block g h.inside).trans h
end
section
variable {w : World} {g : Nat} {t : TypeId} {a b c d u : Value}
theorem Box.s1 (h : Box w g t #[a]) (u : Value) : Box (w.setCell ⟨g, 0, none⟩ u) g t #[u] := h.at_ 0 u
theorem Box.s20 (h : Box w g t #[a, b]) (u : Value) : Box (w.setCell ⟨g, 0, none⟩ u) g t #[u, b] := h.at_ 0 u
theorem Box.s21 (h : Box w g t #[a, b]) (u : Value) : Box (w.setCell ⟨g, 1, none⟩ u) g t #[a, u] := h.at_ 1 u
theorem Box.s40 (h : Box w g t #[a, b, c, d]) (u : Value) : Box (w.setCell ⟨g, 0, none⟩ u) g t #[u, b, c, d] := h.at_ 0 u
theorem Box.s41 (h : Box w g t #[a, b, c, d]) (u : Value) : Box (w.setCell ⟨g, 1, none⟩ u) g t #[a, u, c, d] := h.at_ 1 u
theorem Box.s42 (h : Box w g t #[a, b, c, d]) (u : Value) : Box (w.setCell ⟨g, 2, none⟩ u) g t #[a, b, u, d] := h.at_ 2 u
theorem Box.s43 (h : Box w g t #[a, b, c, d]) (u : Value) : Box (w.setCell ⟨g, 3, none⟩ u) g t #[a, b, c, u] := h.at_ 3 u
theorem Box.c0 (h : Box w g t #[a, b]) : w.cell? ⟨g, 0, none⟩ = some a := h.cell 0
theorem Box.c1 (h : Box w g t #[a, b]) : w.cell? ⟨g, 1, none⟩ = some b := h.cell 1
end
theorem nt {P : Program} {f : FuncId} {args : Array Value} {w : World} {v : Value} (h : Calls P f args w fun e w' => e = .returned v ∧ w = w') :
    Calls P f args w fun e w' => e = .returned v ∧ ∃ n, w' = w.drewN n := h.mono fun _ _ ⟨he, hw⟩ => ⟨he, 0, hw.symm⟩
theorem gk {P : Program} {f : FuncId} {args : Array Value} {w : World} {n : Nat} {v : Value} (h : Calls P f args (w.drewN n) fun e w' => e = .returned v ∧ w.drewN n = w') :
    Calls P f args (w.drewN n) fun e w' => e = .returned v ∧ ∃ m, w' = w.drewN m := h.mono fun _ _ ⟨he, hw⟩ => ⟨he, n, hw.symm⟩
structure Only (g : Nat) (w w' : World) : Prop where
  os : w'.os = w.os
  tape : w'.tape = w.tape
  output : w'.output = w.output
  size : w.heap.size ≤ w'.heap.size
  block : ∀ k, k < w.heap.size → k ≠ g → w'.heap[k]? = w.heap[k]?
theorem Only.refl (g : Nat) (w : World) : Only g w w := ⟨rfl, rfl, rfl, Nat.le_refl _, fun _ _ _ => rfl⟩
theorem Only.trans {g : Nat} {a b c : World} (h : Only g a b) (k : Only g b c) : Only g a c :=
  ⟨k.os.trans h.os, k.tape.trans h.tape, k.output.trans h.output, Nat.le_trans h.size k.size, fun i hi hn => (k.block i (Nat.lt_of_lt_of_le hi h.size) hn).trans (h.block i hi hn)⟩
theorem Only.of_kept {g : Nat} {w w' : World} (h : Kept w w') : Only g w w' := ⟨h.os, h.tape, h.output, h.size, fun k hk _ => h.block k hk⟩
theorem Only.drew {g : Nat} {a w : World} (h : Only g a w) : Only g a w.drew := ⟨h.os, h.tape, h.output, h.size, h.block⟩
theorem Only.drewN {g : Nat} {a w : World} (h : Only g a w) (n : Nat) : Only g a (w.drewN n) := by
  induction n with
  | zero => exact h
  | succ n ih => exact ih.drew
theorem Only.alloc {g : Nat} {a w : World} (h : Only g a w) (o : Obj) : Only g a (w.alloc o) := h.trans (.of_kept ((Kept.refl w).alloc o))
theorem Only.setCell {g : Nat} {a w : World} (h : Only g a w) (i : Nat) (u : Value) : Only g a (w.setCell ⟨g, i, none⟩ u) :=
  h.trans ⟨rfl, rfl, rfl, by simp [World.setCell], fun k _ hn => Below.heap_setCell w ⟨g, i, none⟩ u k hn⟩
theorem Only.kept {g : Nat} {a w w' : World} (h : Only g w w') (k : Kept a w) (hg : a.heap.size ≤ g) : Kept a w' :=
  ⟨h.os.trans k.os, h.tape.trans k.tape, h.output.trans k.output, Nat.le_trans k.size h.size, fun i hi => (h.block i (Nat.lt_of_lt_of_le hi k.size) (by omega)).trans (k.block i hi)⟩
theorem Only.box {g g' : Nat} {w w' : World} {t : TypeId} {cs : Array Value} (h : Only g w w') (b : Box w g' t cs) (hg : g' ≠ g) : Box w' g' t cs := (h.block g' b.inside hg).trans b
theorem Only.cell {g : Nat} {w w' : World} (h : Only g w w') {p : Addr} (hp : p.block < w.heap.size) (hg : p.block ≠ g) : w'.cell? p = w.cell? p := World.cell?_of_block (w := w) (h.block p.block hp hg)
theorem bxd {w : World} {g : Nat} {t : TypeId} {cs : Array Value} (h : Box w g t cs := by repeat (first | with_reducible assumption | (with_reducible refine Box.newAt ?_ _ _; (simp; done)) | with_reducible apply Box.drew | with_reducible apply Box.drewN | (with_reducible refine Box.alloc ?_ _) | (with_reducible apply Box.s20) | (with_reducible apply Box.s21) | (with_reducible apply Box.s1) | (with_reducible apply Box.s40) | (with_reducible apply Box.s41) | (with_reducible apply Box.s42) | (with_reducible apply Box.s43) | (with_reducible refine Box.farX ?_ ?_ _; focus (first | (simp; done) | (simp; omega))))) : Box w g t cs := h
end
section
open Go.RowKit
def OwnB (w : World) (base : Nat) (v : Value) (l : List UInt8) : Prop := w.ownsRow base 5 1 v l.length (l.map fun b => Value.int .u8 b.toNat)
theorem OwnB.nil (w : World) (base : Nat) : OwnB w base (.slice none 0 0) [] := World.ownsRow_nil w base _ 1
theorem OwnB.kept {w w' : World} {base : Nat} {v : Value} {l : List UInt8} (h : OwnB w base v l) (k : Kept w w') : OwnB w' base v l := by
  obtain ⟨h1, h2⟩ := h; refine ⟨h1, ?_⟩; rcases h2 with h2 | ⟨g, cap, cur, hv, hg, hh, r⟩
  · exact Or.inl h2
  · have hlt : g < w.heap.size := (Array.getElem?_eq_some_iff.1 hh).1
    exact Or.inr ⟨g, cap, cur, hv, hg, (k.block g hlt).trans hh, r⟩
theorem OwnB.alloc {w : World} {base : Nat} {v : Value} {l : List UInt8} (h : OwnB w base v l) (o : Obj) : OwnB (w.alloc o) base v l := h.kept ((Kept.refl w).alloc o)
theorem OwnB.drew {w : World} {base : Nat} {v : Value} {l : List UInt8} (h : OwnB w base v l) : OwnB w.drew base v l := h.kept ((Kept.refl w).drew)
theorem OwnB.drewN {w : World} {base : Nat} {v : Value} {l : List UInt8} (h : OwnB w base v l) (n : Nat) : OwnB (w.drewN n) base v l := h.kept ((Kept.refl w).drewN n)
theorem OwnB.grown {a w w' : World} {base : Nat} {v : Value} {l : List UInt8} (h : OwnB w base v l) (hb : a.heap.size ≤ base) (k : Kept a w) (g : w.grownBy w' v.ownBlock) : Kept a w' :=
  Below.grown k g k.size (fun x hx => Nat.le_trans hb (World.ownsRow.lt h x hx).1)
theorem iv (S : List UInt8) : strOfNums (S.map (fun b => (b.toNat : Int))) = ⟨S.toArray⟩ := by
  unfold strOfNums
  congr 1
  congr 1
  rw [List.map_map]
  conv => rhs; rw [← List.map_id S]
  refine List.map_congr_left fun b _ => ?_
  simp
theorem Ea : ∃ i, Tryz.prog.info? 5 = some i ∧ i.zero = some (.int .u8 0) ∧ i.size = 1 ∧ i.bytes = 1 := by
  have h : (Tryz.prog.info? 5).map (fun i => (i.zero, i.size, i.bytes)) = some (some (.int .u8 0), 1, 1) := by kernel_rfl
  cases hi : Tryz.prog.info? 5 with
  | none => rw [hi] at h; cases h
  | some i =>
    rw [hi] at h
    simp at h
    exact ⟨i, rfl, h.1, h.2.1, h.2.2⟩
theorem fN {ops : Array Oper} {rest : List Oper} {o : Oper} {a : Act} {w : World} {Q : Exit → Act → World → Prop} (hgd : o.guard = none) (s x : Operand)
    (ho : o.op = .call { callee := .builtin .append, args := #[s, x], argTypes := #[146, 146] })
    (base : Nat) (v : Value) (l : List UInt8) (hs : a.eval s = v) (hown : OwnB w base v l) (g c : Nat) (n : Int) (b : UInt8) (hb : n = b.toNat)
    (hx : a.eval x = .slice (some ⟨g, 0, none⟩) 1 c) (hc : w.cell? ⟨g, 0, none⟩ = some (.int .u8 n)) (hl : l.length + 1 ≤ 140737488355328) (hbase : base ≤ w.heap.size)
    (h : ∀ v' w', OwnB w' base v' (l ++ [b]) → w.grownBy w' v.ownBlock → wpList Tryz.prog ops Q rest (a.put o.dst v') w') : wpList Tryz.prog ops Q (o :: rest) a w := by
  obtain ⟨i, hi, hz, h1, h2⟩ := Ea; refine wpList_append_own w hgd s x 146 ho base 5 i (.int .u8 0) 1 1 Tryz.underlying146 hi hz h1 h2 rfl (by decide) v l.length _ hs hown ⟨g, 0, none⟩ 1 c [.int .u8 n] hx rfl ?_ ?_ ?_ ?_ hbase ?_
  · intro j u hj
    match j, hj with
    | 0, hj => simp at hj; subst hj; exact hc
  · intro u hu; simp at hu; subst hu; rfl
  · simp only [maxLen]; omega
  · omega
  · intro v' w' ho' hg _
    refine h v' w' ?_ hg; unfold OwnB; rw [List.length_append, List.map_append]; subst hb; exact ho'
theorem tR {s : ByteArray} {l : List UInt8} (h : s.data.toList = l) : s = ⟨l.toArray⟩ := by subst h; rfl
theorem pM (l : List UInt8) (i j : Nat) : ((ByteArray.mk l.toArray).extract i j).data.toList = (l.take j).drop i := by
  rw [ByteArray.data_extract, Array.toList_extract]; show (l.extract i j) = _; rw [List.extract_eq_take_drop, List.drop_take]
theorem lJ (s : ByteArray) : s.data.toList.length = s.size := rfl
theorem Bq {w : World} {base : Nat} {v : Value} {l : List UInt8} (h : OwnB w base v l) : (convert 146 9 v).run Tryz.prog w = .ok (.string ⟨l.toArray⟩) w := by
  rcases h.2 with ⟨rfl, h0⟩ | ⟨g, cap, cur, rfl, _, hh, h4, h5, h6, h7⟩
  · have : l = [] := List.eq_nil_of_length_eq_zero h0
    subst this; exact run_convert_bytes_nil w 146 5 Tryz.underlying146 Tryz.underlying5 0 0 9 Tryz.underlying9
  · have hcells := World.ownsRow.cells h (g := g) rfl
    have := run_convert_bytes_arg (P := Tryz.prog) w 146 5 Tryz.underlying146 Tryz.underlying5 g 0 l.length cap (l.map fun b => (b.toNat : Int)) (by simp)
      (fun i hi => by
        have hc := hcells i (.int .u8 (l.getD i 0).toNat) (by simp [hi]); rw [Go.WideShapes.add_plain] at hc; rw [hc]
        simp [hi]) 9 Tryz.underlying9
    rw [this, iv]
end
section
open Go.RowKit
theorem am (l : List UInt8) (i j : Nat) : (ByteArray.mk l.toArray).extract i j = ⟨((l.take j).drop i).toArray⟩ := tR (pM l i j)
theorem af (l : List UInt8) : (ByteArray.mk l.toArray).size = l.length := rfl
theorem bv (l m : List UInt8) : (ByteArray.mk l.toArray) ++ (ByteArray.mk m.toArray) = ⟨(l ++ m).toArray⟩ := by
  refine tR ?_
  simp
theorem dd (s : ByteArray) (w : World) : (convert 9 146 (.string s)).run Tryz.prog w = .ok (.slice (some ⟨w.heap.size, 0, none⟩) s.size (grownCap w s.size 0 5)) (Lib.bytesWorld w 5 s) :=
  Lib.run_convert_string_bytes w _ _ _ s Tryz.underlying9 Tryz.underlying146 Tryz.underlying5
theorem df (w : World) (e : TypeId) (s : ByteArray) : Kept w (Lib.bytesWorld w e s) where
  os := rfl
  tape := rfl
  output := rfl
  size := by rw [Lib.bytesWorld_size]; omega
  block := fun k hk => Lib.bytesWorld_at_old w e s k hk
end
section
open Go.RowKit Lv
theorem lv (a : Int) (w : World) (h : i64 a) : Calls Tryz.prog 158 #[.int .i64 a] w fun e w' => e = .returned (.int .u64 (Lv.abs a)) ∧ w = w' := by
  obtain ⟨h1, h2⟩ := h
  by_cases c : a < 0
  · have e1 : Lv.abs a = -(a + 1) + 1 := by unfold Lv.abs; rw [if_pos c]; omega
    have E := Lib.hid e1; clear e1; go_enter Tryz.func158, Tryz.ntmps158; go_wp2; go_ret; exact ⟨ak E.out.symm, rfl⟩
  · have e1 : Lv.abs a = a := by unfold Lv.abs; rw [if_neg c]
    have E := Lib.hid e1; clear e1; go_enter Tryz.func158, Tryz.ntmps158; go_wp2; go_ret; exact ⟨ak E.out.symm, rfl⟩
theorem dh (hi lo : Int) (ng : Bool) (w : World) (h : u64 hi) (h' : u64 lo) :
    Calls Tryz.prog 154 #[.int .u64 hi, .int .u64 lo, .bool ng] w fun e w' => e = .returned (.tuple #[.int .i64 (fit (sg ng (hi * 18446744073709551616 + lo))).1, .bool (fit (sg ng (hi * 18446744073709551616 + lo))).2]) ∧ w = w' := by
  obtain ⟨h1, h2⟩ := h; obtain ⟨h3, h4⟩ := h'
  by_cases c : hi = 0
  · subst c
    by_cases c2 : lo ≤ 9223372036854775807
    · have e1 : fit (sg ng (0 * 18446744073709551616 + lo)) = (sg ng lo, true) := by
        rw [show 0 * 18446744073709551616 + lo = lo by omega]
        cases ng
        · exact dF (by simp [sg]; omega) (by simp [sg]; omega)
        · exact dF (by simp [sg]; omega) (by simp [sg]; omega)
      rw [e1]
      cases ng
      · go_enter Tryz.func154, Tryz.ntmps154
        go_wp2; go_ret2; exact ⟨rfl, rfl⟩
      · go_enter Tryz.func154, Tryz.ntmps154
        go_wp2; go_ret2; exact ⟨rfl, rfl⟩
    · have e1 : fit (sg ng (0 * 18446744073709551616 + lo)) = (0, false) := by
        refine dB ?_; cases ng <;> simp only [sg] <;> simp <;> omega
      rw [e1]; go_enter Tryz.func154, Tryz.ntmps154; go_wp2; go_ret2; exact ⟨rfl, rfl⟩
  · have e1 : fit (sg ng (hi * 18446744073709551616 + lo)) = (0, false) := by
      refine dB ?_; cases ng <;> simp only [sg] <;> simp <;> omega
    rw [e1]; have c' : (hi != 0) = true := by rw [bne_iff_ne]; exact c
    go_enter Tryz.func154, Tryz.ntmps154; go_wp2; go_ret2; exact ⟨rfl, rfl⟩
theorem eB {a : Int} (h : i64 a) : u64 (Lv.abs a) := ⟨vu a, by have := Ga h; omega⟩
end
section
open Go.RowKit Lv
end
section
open Go.RowKit Lv
end
section
open Go.RowKit Lv
theorem aI (s : ByteArray) (w : World) (hs : s.size ≤ 9223372036854775807) : Calls Tryz.prog 186 #[.string s] w fun e w' => e = .returned (.int .i64 (nd s.data.toList)) ∧ w = w' := by
  have E0 : Hid (nd s.data.toList = 0 + nd (s.data.toList.drop 0)) := by rw [List.drop_zero, Nat.zero_add]; rfl
  go_enter Tryz.func186, Tryz.ntmps186; go_wp2_with fail
  go_loop [6] (fun i => ∃ k : Nat, k ≤ s.size ∧ i = .int .i64 k ∧ nd s.data.toList = k + nd (s.data.toList.drop k)) (fun i => s.size - (intOf i).toNat)
  case atStart => exact ⟨0, by omega, rfl, E0.out⟩
  case round =>
    obtain ⟨k, hk, rfl, hn⟩ := hrel; have N := Lib.hid hn; clear hn
    by_cases c : k < s.size
    · by_cases d : isD s[k] = true
      · have e := of_decide_eq_true d
        obtain ⟨e1, e2⟩ := e; have S := Lib.hid (xu (l := s.data.toList) c d); clear d; go_wp2_with fail
        go_round
        case rel => exact ⟨k + 1, by omega, by go_num, by rw [N.out, S.out]; omega⟩
        case measure => simp [intOf]; omega
      · have d' : isD s[k] = false := by simpa using d
        have S : Hid (nd s.data.toList = k) := by show _ = _; rw [N.out, xv (l := s.data.toList) c d']; rfl
        have e := of_decide_eq_false d'; clear d d'
        by_cases e1 : s[k].toNat < 48
        · clear e
          go_wp2_with fail; go_ret; exact ⟨ak (by have := S.out; omega), rfl⟩
        · have e2 : 57 < s[k].toNat := by omega
          clear e; go_wp2_with fail; go_ret; exact ⟨ak (by have := S.out; omega), rfl⟩
    · obtain rfl : k = s.size := by omega
      have S : Hid (nd s.data.toList = s.size) := by show _ = _; rw [N.out, Dh (l := s.data.toList) (k := s.size) (by rw [lJ]; omega)]; rfl
      go_wp2_with fail; go_ret; exact ⟨ak (by have := S.out; omega), rfl⟩
theorem eM (s : ByteArray) (p : Nat) (w : World) (hs : s.size ≤ 9223372036854775807) (hp : p ≤ s.size) : Calls Tryz.prog 123 #[.string s, .int .i64 p] w fun e w' => e = .returned (.int .i64 (p + nd (s.data.toList.drop p) : Nat)) ∧ w = w' := by
  go_enter Tryz.func123, Tryz.ntmps123; go_wp2_with fail
  go_loop [1] (fun i => ∃ k : Nat, k ≤ s.size ∧ i = .int .i64 k ∧ p + nd (s.data.toList.drop p) = k + nd (s.data.toList.drop k)) (fun i => s.size - (intOf i).toNat)
  case atStart => exact ⟨p, hp, rfl, rfl⟩
  case round =>
    obtain ⟨k, hk, rfl, hn⟩ := hrel; have N := Lib.hid hn; clear hn
    by_cases c : k < s.size
    · by_cases d : isD s[k] = true
      · have e := of_decide_eq_true d
        obtain ⟨e1, e2⟩ := e; have S := Lib.hid (xu (l := s.data.toList) c d); clear d; go_wp2_with fail
        go_round
        case rel => exact ⟨k + 1, by omega, by go_num, by rw [N.out, S.out]; omega⟩
        case measure => simp [intOf]; omega
      · have d' : isD s[k] = false := by simpa using d
        have S : Hid (p + nd (s.data.toList.drop p) = k) := by show _ = _; rw [N.out, xv (l := s.data.toList) c d']; rfl
        have e := of_decide_eq_false d'; clear d d'
        by_cases e1 : s[k].toNat < 48
        · clear e
          go_wp2_with fail; go_ret; exact ⟨ak (by have := S.out; omega), rfl⟩
        · have e2 : 57 < s[k].toNat := by omega
          clear e; go_wp2_with fail; go_ret; exact ⟨ak (by have := S.out; omega), rfl⟩
    · obtain rfl : k = s.size := by omega
      have S : Hid (p + nd (s.data.toList.drop p) = s.size) := by show _ = _; rw [N.out, Dh (l := s.data.toList) (k := s.size) (by rw [lJ]; omega)]; rfl
      go_wp2_with fail; go_ret; exact ⟨ak (by have := S.out; omega), rfl⟩
end
section
open Go.RowKit Lv
theorem bC (x : Int) : 0 ≤ IntKind.u64.wrap x := by have e : IntKind.u64.wrap x = x % 18446744073709551616 := rfl; omega
theorem bD (x : Int) : IntKind.u64.wrap x ≤ 18446744073709551615 := by have e : IntKind.u64.wrap x = x % 18446744073709551616 := rfl; omega
theorem eJ {L : List UInt8} (h : ∀ c ∈ L, isD c = true) : Hid (∀ k (hk : k < L.length), 48 ≤ L[k].toNat ∧ L[k].toNat ≤ 57) := fun k hk => gC.1 (h _ (List.getElem_mem hk))
theorem ee (w : World) (L : List UInt8) : ∀ j (hj : j < L.length), (Lib.bytesWorld w 5 ⟨L.toArray⟩).cell? ⟨w.heap.size, j, none⟩ = some (.int .u8 L[j].toNat) := fun j hj => by
  rw [Lib.bytesWorld_cell w _ ⟨L.toArray⟩ j hj]
  simp [hj]
end
section
open Go.RowKit Lv
theorem tS (c : UInt8) : xi [c] = none := if_neg (fun h => h.2.1 rfl)
theorem oh {c : UInt8} {r : List UInt8} (h : c ≠ 46) : xi (c :: r) = none := if_neg (fun x => h x.1)
theorem lx {c : UInt8} {r : List UInt8} (h : nd r ≠ r.length) : xi (c :: r) = none := if_neg (fun x => h x.2.2)
theorem xB {r : List UInt8} (h0 : 0 < r.length) (h : nd r = r.length) : xi (46 :: r) = some r := if_pos ⟨rfl, by intro e; subst e; simp at h0, h⟩
theorem pN (m wh r : List UInt8) (c : UInt8) (n : Nat) (w : World) (hs : m.length ≤ 2000) (hn : nd m = n) (t1 : m.take n = wh) (t2 : m.drop n = [c]) (n0 : Hid (n = 0)) :
    Calls Tryz.prog 175 #[.string ⟨(45 :: m).toArray⟩] w fun e w' => e = .returned (.tuple #[.int .i64 (Lv.bw true m).1, .int .i64 (Lv.bw true m).2]) ∧ Kept w w' := by
  have X := am; have Z := af; have Y := bv; have D := fun w => aI ⟨m.toArray⟩ w (by rw [af]; omega); rw [show nd (ByteArray.mk m.toArray).data.toList = n from hn] at D; have HD := Lib.hid D; have HN := Lib.hid hn; clear D hn; have lp : (0 : Int) < ((45 :: m).length : Int) := by simp
  have b0 : (((ByteArray.mk (45 :: m).toArray)[0]'(by rw [af]; simp)).toNat : Int) = 45 := rfl; have n1 : n ≤ m.length := by have := dL m; rw [HN.out] at this; exact this
  have nz : ((n : Int) == 0) = true := by rw [n0.out]; rfl
  have E : Hid (Lv.bw true m = (0, 4)) := by
    show _ = _; unfold Lv.bw; rw [HN.out]; rw [if_pos n0.out]
  go_enter Tryz.func175, Tryz.ntmps175; go_wp2_with fail; refine (HD.out _).mono ?_; rintro e w' ⟨rfl, rfl⟩; go_wp2_with fail
  go_region
  go_wp2_with fail; go_ret2; exact ⟨av (by rw [E.out]) (by rw [E.out]), kpt⟩
theorem pO (m wh r : List UInt8) (c : UInt8) (n : Nat) (w : World) (hs : m.length ≤ 2000) (hn : nd m = n) (t1 : m.take n = wh) (t2 : m.drop n = c :: r) (n0 : Hid (n = 0)) (hr : 0 < r.length) (hc : c ≠ 46) :
    Calls Tryz.prog 175 #[.string ⟨(45 :: m).toArray⟩] w fun e w' => e = .returned (.tuple #[.int .i64 (Lv.bw true m).1, .int .i64 (Lv.bw true m).2]) ∧ Kept w w' := by
  have X := am; have Z := af; have Y := bv; have D := fun w => aI ⟨m.toArray⟩ w (by rw [af]; omega); rw [show nd (ByteArray.mk m.toArray).data.toList = n from hn] at D; have HD := Lib.hid D; have HN := Lib.hid hn; clear D hn; have lp : (0 : Int) < ((45 :: m).length : Int) := by simp
  have b0 : (((ByteArray.mk (45 :: m).toArray)[0]'(by rw [af]; simp)).toNat : Int) = 45 := rfl; have n1 : n ≤ m.length := by have := dL m; rw [HN.out] at this; exact this
  have nz : ((n : Int) == 0) = true := by rw [n0.out]; rfl
  have c0 : ((((ByteArray.mk (c :: r).toArray)[0]'(by rw [af]; simp)).toNat : Int) == 46) = false := by rw [beq_eq_false_iff_ne]; intro h; apply hc; apply UInt8.toNat_inj.1; show c.toNat = 46; exact Int.ofNat_inj.1 h
  have E : Hid (Lv.bw true m = (0, 4)) := by
    show _ = _; unfold Lv.bw; rw [HN.out]; rw [if_pos n0.out]
  clear hc; go_enter Tryz.func175, Tryz.ntmps175; go_wp2_with fail; refine (HD.out _).mono ?_; rintro e w' ⟨rfl, rfl⟩; go_wp2_with fail
  go_region
  go_wp2_with fail; go_ret2; exact ⟨av (by rw [E.out]) (by rw [E.out]), kpt⟩
theorem pP (m wh r : List UInt8) (c : UInt8) (n : Nat) (w : World) (hs : m.length ≤ 2000) (hn : nd m = n) (t1 : m.take n = wh) (t2 : m.drop n = c :: r) (n0 : Hid (n = 0)) (hr : 0 < r.length) (hc : c = 46) (hd : nd r ≠ r.length) :
    Calls Tryz.prog 175 #[.string ⟨(45 :: m).toArray⟩] w fun e w' => e = .returned (.tuple #[.int .i64 (Lv.bw true m).1, .int .i64 (Lv.bw true m).2]) ∧ Kept w w' := by
  have X := am; have Z := af; have Y := bv; have D := fun w => aI ⟨m.toArray⟩ w (by rw [af]; omega); rw [show nd (ByteArray.mk m.toArray).data.toList = n from hn] at D; have HD := Lib.hid D; have HN := Lib.hid hn; clear D hn; have lp : (0 : Int) < ((45 :: m).length : Int) := by simp
  have b0 : (((ByteArray.mk (45 :: m).toArray)[0]'(by rw [af]; simp)).toNat : Int) = 45 := rfl; have n1 : n ≤ m.length := by have := dL m; rw [HN.out] at this; exact this
  have nz : ((n : Int) == 0) = true := by rw [n0.out]; rfl
  have c0 : ((((ByteArray.mk (c :: r).toArray)[0]'(by rw [af]; simp)).toNat : Int) == 46) = true := by rw [hc]; rfl
  have E : Hid (Lv.bw true m = (0, 4)) := by
    show _ = _; unfold Lv.bw; rw [HN.out]; rw [if_pos n0.out]
  have rl : r.length ≤ 2000 := by have := congrArg List.length t2; simp at this; omega
  have D2 := fun w => aI ⟨r.toArray⟩ w (by rw [af]; omega); rw [show nd (ByteArray.mk r.toArray).data.toList = nd r from rfl] at D2; have HD2 := Lib.hid D2; have de : ((nd r : Int) == (r.length : Int)) = false := by rw [beq_eq_false_iff_ne]; omega
  clear hc hd D2; generalize nd r = k at *; go_enter Tryz.func175, Tryz.ntmps175; go_wp2_with fail; refine (HD.out _).mono ?_; rintro e w' ⟨rfl, rfl⟩; go_wp2_with fail
  go_region
  go_wp2_with fail; refine (HD2.out _).mono ?_; rintro e w' ⟨rfl, rfl⟩; go_wp2_with fail; go_ret2; exact ⟨av (by rw [E.out]) (by rw [E.out]), kpt⟩
theorem pQ (m wh r : List UInt8) (c : UInt8) (n : Nat) (w : World) (hs : m.length ≤ 2000) (hn : nd m = n) (t1 : m.take n = wh) (t2 : m.drop n = [c]) (n0 : 0 < n) :
    Calls Tryz.prog 175 #[.string ⟨(45 :: m).toArray⟩] w fun e w' => e = .returned (.tuple #[.int .i64 (Lv.bw true m).1, .int .i64 (Lv.bw true m).2]) ∧ Kept w w' := by
  have X := am; have Z := af; have Y := bv; have D := fun w => aI ⟨m.toArray⟩ w (by rw [af]; omega); rw [show nd (ByteArray.mk m.toArray).data.toList = n from hn] at D; have HD := Lib.hid D; have HN := Lib.hid hn; clear D hn; have lp : (0 : Int) < ((45 :: m).length : Int) := by simp
  have b0 : (((ByteArray.mk (45 :: m).toArray)[0]'(by rw [af]; simp)).toNat : Int) = 45 := rfl; have n1 : n ≤ m.length := by have := dL m; rw [HN.out] at this; exact this
  have nz : ((n : Int) == 0) = false := by rw [beq_eq_false_iff_ne]; omega
  have E : Hid (Lv.bw true m = (0, 4)) := by
    show _ = _; unfold Lv.bw; rw [HN.out]; rw [if_neg (by omega), t2, tS]
  go_enter Tryz.func175, Tryz.ntmps175; go_wp2_with fail; refine (HD.out _).mono ?_; rintro e w' ⟨rfl, rfl⟩; go_wp2_with fail
  go_region
  go_wp2_with fail; go_ret2; exact ⟨av (by rw [E.out]) (by rw [E.out]), kpt⟩
theorem pR (m wh r : List UInt8) (c : UInt8) (n : Nat) (w : World) (hs : m.length ≤ 2000) (hn : nd m = n) (t1 : m.take n = wh) (t2 : m.drop n = c :: r) (n0 : 0 < n) (hr : 0 < r.length) (hc : c ≠ 46) :
    Calls Tryz.prog 175 #[.string ⟨(45 :: m).toArray⟩] w fun e w' => e = .returned (.tuple #[.int .i64 (Lv.bw true m).1, .int .i64 (Lv.bw true m).2]) ∧ Kept w w' := by
  have X := am; have Z := af; have Y := bv; have D := fun w => aI ⟨m.toArray⟩ w (by rw [af]; omega); rw [show nd (ByteArray.mk m.toArray).data.toList = n from hn] at D; have HD := Lib.hid D; have HN := Lib.hid hn; clear D hn; have lp : (0 : Int) < ((45 :: m).length : Int) := by simp
  have b0 : (((ByteArray.mk (45 :: m).toArray)[0]'(by rw [af]; simp)).toNat : Int) = 45 := rfl; have n1 : n ≤ m.length := by have := dL m; rw [HN.out] at this; exact this
  have nz : ((n : Int) == 0) = false := by rw [beq_eq_false_iff_ne]; omega
  have c0 : ((((ByteArray.mk (c :: r).toArray)[0]'(by rw [af]; simp)).toNat : Int) == 46) = false := by rw [beq_eq_false_iff_ne]; intro h; apply hc; apply UInt8.toNat_inj.1; show c.toNat = 46; exact Int.ofNat_inj.1 h
  have E : Hid (Lv.bw true m = (0, 4)) := by
    show _ = _; unfold Lv.bw; rw [HN.out]; rw [if_neg (by omega), t2, oh hc]
  clear hc; go_enter Tryz.func175, Tryz.ntmps175; go_wp2_with fail; refine (HD.out _).mono ?_; rintro e w' ⟨rfl, rfl⟩; go_wp2_with fail
  go_region
  go_wp2_with fail; go_ret2; exact ⟨av (by rw [E.out]) (by rw [E.out]), kpt⟩
theorem pS (m wh r : List UInt8) (c : UInt8) (n : Nat) (w : World) (hs : m.length ≤ 2000) (hn : nd m = n) (t1 : m.take n = wh) (t2 : m.drop n = c :: r) (n0 : 0 < n) (hr : 0 < r.length) (hc : c = 46) (hd : nd r ≠ r.length) :
    Calls Tryz.prog 175 #[.string ⟨(45 :: m).toArray⟩] w fun e w' => e = .returned (.tuple #[.int .i64 (Lv.bw true m).1, .int .i64 (Lv.bw true m).2]) ∧ Kept w w' := by
  have X := am; have Z := af; have Y := bv; have D := fun w => aI ⟨m.toArray⟩ w (by rw [af]; omega); rw [show nd (ByteArray.mk m.toArray).data.toList = n from hn] at D; have HD := Lib.hid D; have HN := Lib.hid hn; clear D hn; have lp : (0 : Int) < ((45 :: m).length : Int) := by simp
  have b0 : (((ByteArray.mk (45 :: m).toArray)[0]'(by rw [af]; simp)).toNat : Int) = 45 := rfl; have n1 : n ≤ m.length := by have := dL m; rw [HN.out] at this; exact this
  have nz : ((n : Int) == 0) = false := by rw [beq_eq_false_iff_ne]; omega
  have c0 : ((((ByteArray.mk (c :: r).toArray)[0]'(by rw [af]; simp)).toNat : Int) == 46) = true := by rw [hc]; rfl
  have E : Hid (Lv.bw true m = (0, 4)) := by
    show _ = _; unfold Lv.bw; rw [HN.out]; rw [if_neg (by omega), t2, lx hd]
  have rl : r.length ≤ 2000 := by have := congrArg List.length t2; simp at this; omega
  have D2 := fun w => aI ⟨r.toArray⟩ w (by rw [af]; omega); rw [show nd (ByteArray.mk r.toArray).data.toList = nd r from rfl] at D2; have HD2 := Lib.hid D2; have de : ((nd r : Int) == (r.length : Int)) = false := by rw [beq_eq_false_iff_ne]; omega
  clear hc hd D2; generalize nd r = k at *; go_enter Tryz.func175, Tryz.ntmps175; go_wp2_with fail; refine (HD.out _).mono ?_; rintro e w' ⟨rfl, rfl⟩; go_wp2_with fail
  go_region
  go_wp2_with fail; refine (HD2.out _).mono ?_; rintro e w' ⟨rfl, rfl⟩; go_wp2_with fail; go_ret2; exact ⟨av (by rw [E.out]) (by rw [E.out]), kpt⟩
theorem rX (m wh r : List UInt8) (c : UInt8) (n : Nat) (w : World) (hs : m.length ≤ 2000) (hn : nd m = n) (t1 : m.take n = wh) (t2 : m.drop n = c :: r) (n0 : Hid (n = 0)) (hr : 0 < r.length) (hc : c = 46) (hd : nd r = r.length) :
    Calls Tryz.prog 175 #[.string ⟨(45 :: m).toArray⟩] w fun e w' => e = .returned (.tuple #[.int .i64 (Lv.bw true m).1, .int .i64 (Lv.bw true m).2]) ∧ Kept w w' := by
  have X := am; have Z := af; have Y := bv; have D := fun w => aI ⟨m.toArray⟩ w (by rw [af]; omega); rw [show nd (ByteArray.mk m.toArray).data.toList = n from hn] at D; have HD := Lib.hid D; have HN := Lib.hid hn; clear D hn; have lp : (0 : Int) < ((45 :: m).length : Int) := by simp
  have b0 : (((ByteArray.mk (45 :: m).toArray)[0]'(by rw [af]; simp)).toNat : Int) = 45 := rfl; have n1 : n ≤ m.length := by have := dL m; rw [HN.out] at this; exact this
  have nz : ((n : Int) == 0) = true := by rw [n0.out]; rfl
  have c0 : ((((ByteArray.mk (c :: r).toArray)[0]'(by rw [af]; simp)).toNat : Int) == 46) = true := by rw [hc]; rfl
  have E : Hid (Lv.bw true m = (0, 4)) := by
    show _ = _; unfold Lv.bw; rw [HN.out]; rw [if_pos n0.out]
  have rl : r.length ≤ 2000 := by have := congrArg List.length t2; simp at this; omega
  have D2 := fun w => aI ⟨r.toArray⟩ w (by rw [af]; omega); rw [show nd (ByteArray.mk r.toArray).data.toList = r.length from hd] at D2; have HD2 := Lib.hid D2; clear hc hd D2; go_enter Tryz.func175, Tryz.ntmps175; go_wp2_with fail; refine (HD.out _).mono ?_; rintro e w' ⟨rfl, rfl⟩; go_wp2_with fail
  go_region
  go_wp2_with fail; refine (HD2.out _).mono ?_; rintro e w' ⟨rfl, rfl⟩; go_wp2_with fail; go_ret2; exact ⟨av (by rw [E.out]) (by rw [E.out]), kpt⟩
theorem pT (m wh r : List UInt8) (c : UInt8) (n : Nat) (w : World) (hs : m.length ≤ 2000) (hn : nd m = n) (t1 : m.take n = wh) (t2 : m.drop n = [c]) (hb : ∀ h, ((((ByteArray.mk m.toArray)[0]'h).toNat : Int) == 45) = false) (hl0 : 0 < m.length) (n0 : Hid (n = 0)) :
    Calls Tryz.prog 175 #[.string ⟨m.toArray⟩] w fun e w' => e = .returned (.tuple #[.int .i64 (Lv.bw false m).1, .int .i64 (Lv.bw false m).2]) ∧ Kept w w' := by
  have X := am; have Z := af; have Y := bv; have D := fun w => aI ⟨m.toArray⟩ w (by rw [af]; omega); rw [show nd (ByteArray.mk m.toArray).data.toList = n from hn] at D; have HD := Lib.hid D; have HN := Lib.hid hn; clear D hn; have lp : (0 : Int) < (m.length : Int) := by omega
  have b0 := fun h => hb h; have n1 : n ≤ m.length := by have := dL m; rw [HN.out] at this; exact this
  have nz : ((n : Int) == 0) = true := by rw [n0.out]; rfl
  have E : Hid (Lv.bw false m = (0, 4)) := by
    show _ = _; unfold Lv.bw; rw [HN.out]; rw [if_pos n0.out]
  go_enter Tryz.func175, Tryz.ntmps175; go_wp2_with fail; refine (HD.out _).mono ?_; rintro e w' ⟨rfl, rfl⟩; go_wp2_with fail
  go_region
  go_wp2_with fail; go_ret2; exact ⟨av (by rw [E.out]) (by rw [E.out]), kpt⟩
theorem pU (m wh r : List UInt8) (c : UInt8) (n : Nat) (w : World) (hs : m.length ≤ 2000) (hn : nd m = n) (t1 : m.take n = wh) (t2 : m.drop n = c :: r) (hb : ∀ h, ((((ByteArray.mk m.toArray)[0]'h).toNat : Int) == 45) = false) (hl0 : 0 < m.length) (n0 : Hid (n = 0)) (hr : 0 < r.length) (hc : c ≠ 46) :
    Calls Tryz.prog 175 #[.string ⟨m.toArray⟩] w fun e w' => e = .returned (.tuple #[.int .i64 (Lv.bw false m).1, .int .i64 (Lv.bw false m).2]) ∧ Kept w w' := by
  have X := am; have Z := af; have Y := bv; have D := fun w => aI ⟨m.toArray⟩ w (by rw [af]; omega); rw [show nd (ByteArray.mk m.toArray).data.toList = n from hn] at D; have HD := Lib.hid D; have HN := Lib.hid hn; clear D hn; have lp : (0 : Int) < (m.length : Int) := by omega
  have b0 := fun h => hb h; have n1 : n ≤ m.length := by have := dL m; rw [HN.out] at this; exact this
  have nz : ((n : Int) == 0) = true := by rw [n0.out]; rfl
  have c0 : ((((ByteArray.mk (c :: r).toArray)[0]'(by rw [af]; simp)).toNat : Int) == 46) = false := by rw [beq_eq_false_iff_ne]; intro h; apply hc; apply UInt8.toNat_inj.1; show c.toNat = 46; exact Int.ofNat_inj.1 h
  have E : Hid (Lv.bw false m = (0, 4)) := by
    show _ = _; unfold Lv.bw; rw [HN.out]; rw [if_pos n0.out]
  clear hc; go_enter Tryz.func175, Tryz.ntmps175; go_wp2_with fail; refine (HD.out _).mono ?_; rintro e w' ⟨rfl, rfl⟩; go_wp2_with fail
  go_region
  go_wp2_with fail; go_ret2; exact ⟨av (by rw [E.out]) (by rw [E.out]), kpt⟩
theorem pV (m wh r : List UInt8) (c : UInt8) (n : Nat) (w : World) (hs : m.length ≤ 2000) (hn : nd m = n) (t1 : m.take n = wh) (t2 : m.drop n = c :: r) (hb : ∀ h, ((((ByteArray.mk m.toArray)[0]'h).toNat : Int) == 45) = false) (hl0 : 0 < m.length) (n0 : Hid (n = 0)) (hr : 0 < r.length) (hc : c = 46) (hd : nd r ≠ r.length) :
    Calls Tryz.prog 175 #[.string ⟨m.toArray⟩] w fun e w' => e = .returned (.tuple #[.int .i64 (Lv.bw false m).1, .int .i64 (Lv.bw false m).2]) ∧ Kept w w' := by
  have X := am; have Z := af; have Y := bv; have D := fun w => aI ⟨m.toArray⟩ w (by rw [af]; omega); rw [show nd (ByteArray.mk m.toArray).data.toList = n from hn] at D; have HD := Lib.hid D; have HN := Lib.hid hn; clear D hn; have lp : (0 : Int) < (m.length : Int) := by omega
  have b0 := fun h => hb h; have n1 : n ≤ m.length := by have := dL m; rw [HN.out] at this; exact this
  have nz : ((n : Int) == 0) = true := by rw [n0.out]; rfl
  have c0 : ((((ByteArray.mk (c :: r).toArray)[0]'(by rw [af]; simp)).toNat : Int) == 46) = true := by rw [hc]; rfl
  have E : Hid (Lv.bw false m = (0, 4)) := by
    show _ = _; unfold Lv.bw; rw [HN.out]; rw [if_pos n0.out]
  have rl : r.length ≤ 2000 := by have := congrArg List.length t2; simp at this; omega
  have D2 := fun w => aI ⟨r.toArray⟩ w (by rw [af]; omega); rw [show nd (ByteArray.mk r.toArray).data.toList = nd r from rfl] at D2; have HD2 := Lib.hid D2; have de : ((nd r : Int) == (r.length : Int)) = false := by rw [beq_eq_false_iff_ne]; omega
  clear hc hd D2; generalize nd r = k at *; go_enter Tryz.func175, Tryz.ntmps175; go_wp2_with fail; refine (HD.out _).mono ?_; rintro e w' ⟨rfl, rfl⟩; go_wp2_with fail
  go_region
  go_wp2_with fail; refine (HD2.out _).mono ?_; rintro e w' ⟨rfl, rfl⟩; go_wp2_with fail; go_ret2; exact ⟨av (by rw [E.out]) (by rw [E.out]), kpt⟩
theorem pW (m wh r : List UInt8) (c : UInt8) (n : Nat) (w : World) (hs : m.length ≤ 2000) (hn : nd m = n) (t1 : m.take n = wh) (t2 : m.drop n = [c]) (hb : ∀ h, ((((ByteArray.mk m.toArray)[0]'h).toNat : Int) == 45) = false) (hl0 : 0 < m.length) (n0 : 0 < n) :
    Calls Tryz.prog 175 #[.string ⟨m.toArray⟩] w fun e w' => e = .returned (.tuple #[.int .i64 (Lv.bw false m).1, .int .i64 (Lv.bw false m).2]) ∧ Kept w w' := by
  have X := am; have Z := af; have Y := bv; have D := fun w => aI ⟨m.toArray⟩ w (by rw [af]; omega); rw [show nd (ByteArray.mk m.toArray).data.toList = n from hn] at D; have HD := Lib.hid D; have HN := Lib.hid hn; clear D hn; have lp : (0 : Int) < (m.length : Int) := by omega
  have b0 := fun h => hb h; have n1 : n ≤ m.length := by have := dL m; rw [HN.out] at this; exact this
  have nz : ((n : Int) == 0) = false := by rw [beq_eq_false_iff_ne]; omega
  have E : Hid (Lv.bw false m = (0, 4)) := by
    show _ = _; unfold Lv.bw; rw [HN.out]; rw [if_neg (by omega), t2, tS]
  go_enter Tryz.func175, Tryz.ntmps175; go_wp2_with fail; refine (HD.out _).mono ?_; rintro e w' ⟨rfl, rfl⟩; go_wp2_with fail
  go_region
  go_wp2_with fail; go_ret2; exact ⟨av (by rw [E.out]) (by rw [E.out]), kpt⟩
theorem pX (m wh r : List UInt8) (c : UInt8) (n : Nat) (w : World) (hs : m.length ≤ 2000) (hn : nd m = n) (t1 : m.take n = wh) (t2 : m.drop n = c :: r) (hb : ∀ h, ((((ByteArray.mk m.toArray)[0]'h).toNat : Int) == 45) = false) (hl0 : 0 < m.length) (n0 : 0 < n) (hr : 0 < r.length) (hc : c ≠ 46) :
    Calls Tryz.prog 175 #[.string ⟨m.toArray⟩] w fun e w' => e = .returned (.tuple #[.int .i64 (Lv.bw false m).1, .int .i64 (Lv.bw false m).2]) ∧ Kept w w' := by
  have X := am; have Z := af; have Y := bv; have D := fun w => aI ⟨m.toArray⟩ w (by rw [af]; omega); rw [show nd (ByteArray.mk m.toArray).data.toList = n from hn] at D; have HD := Lib.hid D; have HN := Lib.hid hn; clear D hn; have lp : (0 : Int) < (m.length : Int) := by omega
  have b0 := fun h => hb h; have n1 : n ≤ m.length := by have := dL m; rw [HN.out] at this; exact this
  have nz : ((n : Int) == 0) = false := by rw [beq_eq_false_iff_ne]; omega
  have c0 : ((((ByteArray.mk (c :: r).toArray)[0]'(by rw [af]; simp)).toNat : Int) == 46) = false := by rw [beq_eq_false_iff_ne]; intro h; apply hc; apply UInt8.toNat_inj.1; show c.toNat = 46; exact Int.ofNat_inj.1 h
  have E : Hid (Lv.bw false m = (0, 4)) := by
    show _ = _; unfold Lv.bw; rw [HN.out]; rw [if_neg (by omega), t2, oh hc]
  clear hc; go_enter Tryz.func175, Tryz.ntmps175; go_wp2_with fail; refine (HD.out _).mono ?_; rintro e w' ⟨rfl, rfl⟩; go_wp2_with fail
  go_region
  go_wp2_with fail; go_ret2; exact ⟨av (by rw [E.out]) (by rw [E.out]), kpt⟩
theorem pY (m wh r : List UInt8) (c : UInt8) (n : Nat) (w : World) (hs : m.length ≤ 2000) (hn : nd m = n) (t1 : m.take n = wh) (t2 : m.drop n = c :: r) (hb : ∀ h, ((((ByteArray.mk m.toArray)[0]'h).toNat : Int) == 45) = false) (hl0 : 0 < m.length) (n0 : 0 < n) (hr : 0 < r.length) (hc : c = 46) (hd : nd r ≠ r.length) :
    Calls Tryz.prog 175 #[.string ⟨m.toArray⟩] w fun e w' => e = .returned (.tuple #[.int .i64 (Lv.bw false m).1, .int .i64 (Lv.bw false m).2]) ∧ Kept w w' := by
  have X := am; have Z := af; have Y := bv; have D := fun w => aI ⟨m.toArray⟩ w (by rw [af]; omega); rw [show nd (ByteArray.mk m.toArray).data.toList = n from hn] at D; have HD := Lib.hid D; have HN := Lib.hid hn; clear D hn; have lp : (0 : Int) < (m.length : Int) := by omega
  have b0 := fun h => hb h; have n1 : n ≤ m.length := by have := dL m; rw [HN.out] at this; exact this
  have nz : ((n : Int) == 0) = false := by rw [beq_eq_false_iff_ne]; omega
  have c0 : ((((ByteArray.mk (c :: r).toArray)[0]'(by rw [af]; simp)).toNat : Int) == 46) = true := by rw [hc]; rfl
  have E : Hid (Lv.bw false m = (0, 4)) := by
    show _ = _; unfold Lv.bw; rw [HN.out]; rw [if_neg (by omega), t2, lx hd]
  have rl : r.length ≤ 2000 := by have := congrArg List.length t2; simp at this; omega
  have D2 := fun w => aI ⟨r.toArray⟩ w (by rw [af]; omega); rw [show nd (ByteArray.mk r.toArray).data.toList = nd r from rfl] at D2; have HD2 := Lib.hid D2; have de : ((nd r : Int) == (r.length : Int)) = false := by rw [beq_eq_false_iff_ne]; omega
  clear hc hd D2; generalize nd r = k at *; go_enter Tryz.func175, Tryz.ntmps175; go_wp2_with fail; refine (HD.out _).mono ?_; rintro e w' ⟨rfl, rfl⟩; go_wp2_with fail
  go_region
  go_wp2_with fail; refine (HD2.out _).mono ?_; rintro e w' ⟨rfl, rfl⟩; go_wp2_with fail; go_ret2; exact ⟨av (by rw [E.out]) (by rw [E.out]), kpt⟩
theorem rY (m wh r : List UInt8) (c : UInt8) (n : Nat) (w : World) (hs : m.length ≤ 2000) (hn : nd m = n) (t1 : m.take n = wh) (t2 : m.drop n = c :: r) (hb : ∀ h, ((((ByteArray.mk m.toArray)[0]'h).toNat : Int) == 45) = false) (hl0 : 0 < m.length) (n0 : Hid (n = 0)) (hr : 0 < r.length) (hc : c = 46) (hd : nd r = r.length) :
    Calls Tryz.prog 175 #[.string ⟨m.toArray⟩] w fun e w' => e = .returned (.tuple #[.int .i64 (Lv.bw false m).1, .int .i64 (Lv.bw false m).2]) ∧ Kept w w' := by
  have X := am; have Z := af; have Y := bv; have D := fun w => aI ⟨m.toArray⟩ w (by rw [af]; omega); rw [show nd (ByteArray.mk m.toArray).data.toList = n from hn] at D; have HD := Lib.hid D; have HN := Lib.hid hn; clear D hn; have lp : (0 : Int) < (m.length : Int) := by omega
  have b0 := fun h => hb h; have n1 : n ≤ m.length := by have := dL m; rw [HN.out] at this; exact this
  have nz : ((n : Int) == 0) = true := by rw [n0.out]; rfl
  have c0 : ((((ByteArray.mk (c :: r).toArray)[0]'(by rw [af]; simp)).toNat : Int) == 46) = true := by rw [hc]; rfl
  have E : Hid (Lv.bw false m = (0, 4)) := by
    show _ = _; unfold Lv.bw; rw [HN.out]; rw [if_pos n0.out]
  have rl : r.length ≤ 2000 := by have := congrArg List.length t2; simp at this; omega
  have D2 := fun w => aI ⟨r.toArray⟩ w (by rw [af]; omega); rw [show nd (ByteArray.mk r.toArray).data.toList = r.length from hd] at D2; have HD2 := Lib.hid D2; clear hc hd D2; go_enter Tryz.func175, Tryz.ntmps175; go_wp2_with fail; refine (HD.out _).mono ?_; rintro e w' ⟨rfl, rfl⟩; go_wp2_with fail
  go_region
  go_wp2_with fail; refine (HD2.out _).mono ?_; rintro e w' ⟨rfl, rfl⟩; go_wp2_with fail; go_ret2; exact ⟨av (by rw [E.out]) (by rw [E.out]), kpt⟩
end
section
open Go.RowKit Lv
theorem rZ (m : List UInt8) (n : Nat) (w : World) (hs : m.length ≤ 2000) (hn : nd m = n) (t1 : m.take n = m) (t2 : m.drop n = []) (n0 : 0 < n) (L : List UInt8) (yl : m ++ [48, 48, 48, 48] = L) (hl : L.length = n + 4) (hm : m.length = n) (A : ∀ c ∈ L, isD c = true) (E : Hid (Lv.bw true m = if (val L : Int) ≤ 9223372036854775807 then (sg true (val L : Int), 0) else (0, 3))) :
    Calls Tryz.prog 175 #[.string ⟨(45 :: m).toArray⟩] w fun e w' => e = .returned (.tuple #[.int .i64 (Lv.bw true m).1, .int .i64 (Lv.bw true m).2]) ∧ Kept w w' := by
  have X := am; have Z := af; have Y := bv; have D := fun w => aI ⟨m.toArray⟩ w (by rw [af]; omega); rw [show nd (ByteArray.mk m.toArray).data.toList = n from hn] at D; have HD := Lib.hid D; have HN := Lib.hid hn; clear D hn; have lp : (0 : Int) < ((45 :: m).length : Int) := by simp
  have b0 : (((ByteArray.mk (45 :: m).toArray)[0]'(by rw [af]; simp)).toNat : Int) = 45 := rfl; have n1 : n ≤ m.length := by have := dL m; rw [HN.out] at this; exact this
  have nz : ((n : Int) == 0) = false := by rw [beq_eq_false_iff_ne]; omega
  have AD := eJ A; clear A; go_enter Tryz.func175, Tryz.ntmps175; go_wp2_with fail; refine (HD.out _).mono ?_; rintro e w' ⟨rfl, rfl⟩; go_wp2_with fail
  go_region
  have CV := dd; go_wp2_with fail; have HC := Lib.hid (ee w.drew L); have HK : Kept w (Lib.bytesWorld w.drew 5 ⟨L.toArray⟩) := Kept.trans ((Kept.refl w).drew) (df _ _ _); generalize Lib.bytesWorld w.drew 5 ⟨L.toArray⟩ = wb at *; clear CV
  go_loop [9, 10, 67] (fun x y i => ∃ (k : Nat) (v : Int), k ≤ L.length ∧ i = .int .i64 k ∧ x = .int .u64 v ∧ 0 ≤ v ∧ v ≤ 18446744073709551615 ∧ y = .bool (decide (9223372036854775807 < val (L.take k))) ∧ (val (L.take k) ≤ 9223372036854775807 → v = val (L.take k))) (fun _ _ i => L.length - (intOf i).toNat)
  case atStart => exact ⟨0, 0, by omega, rfl, rfl, by omega, by omega, by simp [val], by simp [val]⟩
  case round =>
    obtain ⟨k, v, hk, rfl, rfl, v0, v1, rfl, hv⟩ := hrel; have HV := Lib.hid hv; clear hv
    by_cases c : k < L.length
    · have cell := HC.out k c
      have ad := AD.out k c; obtain ⟨a1, a2⟩ := ad; have vt := fM c; obtain ⟨d, hd⟩ : ∃ d : Nat, d = L[k].toNat := ⟨_, rfl⟩; rw [← hd] at cell a1 a2 vt; clear hd; have VT := Lib.hid vt; have wo : (wb.cell? ⟨w.heap.size, k, none⟩) = some (.int .u8 d) := cell
      by_cases g : 9223372036854775807 < val (L.take k)
      · have G : Hid (9223372036854775807 < val (L.take (k + 1))) := by show _ < _; omega
        rw [decide_eq_true g]; clear g vt cell
        by_cases vb : 922337203685477580 < v
        · go_wp2_with fail
          go_round
          case rel => exact ⟨k + 1, _, by omega, by go_num, rfl, by (first | exact bC _ | omega), by (first | exact bD _ | omega), by rw [decide_eq_true G.out], fun h => absurd h (by have := G.out; omega)⟩
          case measure => simp [intOf]; omega
        · go_wp2_with fail
          go_round
          case rel => exact ⟨k + 1, _, by omega, by go_num, rfl, by (first | exact bC _ | omega), by (first | exact bD _ | omega), by rw [decide_eq_true G.out], fun h => absurd h (by have := G.out; omega)⟩
          case measure => simp [intOf]; omega
      · obtain rfl : v = (val (L.take k) : Int) := HV.out (by omega)
        rw [decide_eq_false g]; clear cell; generalize val (L.take k) = V at *
        by_cases vb : 922337203685477580 < V
        · have G : Hid (9223372036854775807 < val (L.take (k + 1))) := by show _ < _; omega
          clear vt; go_wp2_with fail
          go_round
          case rel => exact ⟨k + 1, _, by omega, by go_num, rfl, by (first | exact bC _ | omega), by (first | exact bD _ | omega), by rw [decide_eq_true G.out], fun h => absurd h (by have := G.out; omega)⟩
          case measure => simp [intOf]; omega
        · have G1 : Hid (val (L.take (k + 1)) = 10 * V + (d - 48)) := vt
          clear vt
          by_cases vc : 9223372036854775807 < 10 * V + (d - 48)
          · go_wp2_with fail
            go_round
            case rel => exact ⟨k + 1, ((10 * V + (d - 48) : Nat) : Int), by omega, by go_num, by congr 1; omega, by omega, by omega, by rw [G1.out, decide_eq_true vc]; first | rfl | exact congrArg Value.bool (decide_eq_true (by omega)), fun _ => by rw [G1.out]⟩
            case measure => simp [intOf]; omega
          · go_wp2_with fail
            go_round
            case rel => exact ⟨k + 1, ((10 * V + (d - 48) : Nat) : Int), by omega, by go_num, by congr 1; omega, by omega, by omega, by rw [G1.out, decide_eq_false vc]; first | rfl | exact congrArg Value.bool (decide_eq_false (by omega)), fun _ => by rw [G1.out]⟩
            case measure => simp [intOf]; omega
    · obtain rfl : k = L.length := by omega
      rw [List.take_length] at HV; rw [List.take_length]
      by_cases g : 9223372036854775807 < val L
      · have E2 : Hid (Lv.bw true m = (0, 3)) := by rw [E.out, if_neg (by omega)]; rfl
        rw [decide_eq_true g]; clear g; go_wp2_with fail; go_ret2; exact ⟨av (by rw [E2.out]) (by rw [E2.out]), kpt⟩
      · obtain rfl : v = (val L : Int) := HV.out (by omega)
        rw [decide_eq_false g]
        by_cases g2 : (val L : Int) ≤ 9223372036854775807
        · have E2 : Hid (Lv.bw true m = (sg true ((val L : Int)), 0)) := by rw [E.out, if_pos (by omega)]; rfl
          have Sg := fun w => dh 0 ((val L : Int)) true w ⟨by omega, by omega⟩ ⟨by omega, by omega⟩; rw [Int.zero_mul, Int.zero_add, dF (by unfold sg; split <;> omega) (by unfold sg; split <;> omega)] at Sg; have HS := Lib.hid Sg; clear Sg; have v00 : (0 : Int) ≤ (val L : Int) := by omega
          have v01 : (val L : Int) ≤ 9223372036854775807 := by omega
          generalize (val L : Int) = V at *; go_wp2_with fail; refine (HS.out _).mono ?_; rintro e w' ⟨rfl, rfl⟩; go_wp2_with fail; go_ret2; exact ⟨av (by rw [E2.out]) (by rw [E2.out]), kpt⟩
        · omega
theorem sd (m : List UInt8) (n : Nat) (w : World) (hs : m.length ≤ 2000) (hn : nd m = n) (t1 : m.take n = m) (t2 : m.drop n = []) (hb : ∀ h, ((((ByteArray.mk m.toArray)[0]'h).toNat : Int) == 45) = false) (hl0 : 0 < m.length) (n0 : 0 < n) (L : List UInt8) (yl : m ++ [48, 48, 48, 48] = L) (hl : L.length = n + 4) (hm : m.length = n) (A : ∀ c ∈ L, isD c = true) (E : Hid (Lv.bw false m = if (val L : Int) ≤ 9223372036854775807 then (sg false (val L : Int), 0) else (0, 3))) :
    Calls Tryz.prog 175 #[.string ⟨m.toArray⟩] w fun e w' => e = .returned (.tuple #[.int .i64 (Lv.bw false m).1, .int .i64 (Lv.bw false m).2]) ∧ Kept w w' := by
  have X := am; have Z := af; have Y := bv; have D := fun w => aI ⟨m.toArray⟩ w (by rw [af]; omega); rw [show nd (ByteArray.mk m.toArray).data.toList = n from hn] at D; have HD := Lib.hid D; have HN := Lib.hid hn; clear D hn; have lp : (0 : Int) < (m.length : Int) := by omega
  have b0 := fun h => hb h; have n1 : n ≤ m.length := by have := dL m; rw [HN.out] at this; exact this
  have nz : ((n : Int) == 0) = false := by rw [beq_eq_false_iff_ne]; omega
  have AD := eJ A; clear A; go_enter Tryz.func175, Tryz.ntmps175; go_wp2_with fail; refine (HD.out _).mono ?_; rintro e w' ⟨rfl, rfl⟩; go_wp2_with fail
  go_region
  have CV := dd; go_wp2_with fail; have HC := Lib.hid (ee w.drew L); have HK : Kept w (Lib.bytesWorld w.drew 5 ⟨L.toArray⟩) := Kept.trans ((Kept.refl w).drew) (df _ _ _); generalize Lib.bytesWorld w.drew 5 ⟨L.toArray⟩ = wb at *; clear CV
  go_loop [9, 10, 67] (fun x y i => ∃ (k : Nat) (v : Int), k ≤ L.length ∧ i = .int .i64 k ∧ x = .int .u64 v ∧ 0 ≤ v ∧ v ≤ 18446744073709551615 ∧ y = .bool (decide (9223372036854775807 < val (L.take k))) ∧ (val (L.take k) ≤ 9223372036854775807 → v = val (L.take k))) (fun _ _ i => L.length - (intOf i).toNat)
  case atStart => exact ⟨0, 0, by omega, rfl, rfl, by omega, by omega, by simp [val], by simp [val]⟩
  case round =>
    obtain ⟨k, v, hk, rfl, rfl, v0, v1, rfl, hv⟩ := hrel; have HV := Lib.hid hv; clear hv
    by_cases c : k < L.length
    · have cell := HC.out k c
      have ad := AD.out k c; obtain ⟨a1, a2⟩ := ad; have vt := fM c; obtain ⟨d, hd⟩ : ∃ d : Nat, d = L[k].toNat := ⟨_, rfl⟩; rw [← hd] at cell a1 a2 vt; clear hd; have VT := Lib.hid vt; have wo : (wb.cell? ⟨w.heap.size, k, none⟩) = some (.int .u8 d) := cell
      by_cases g : 9223372036854775807 < val (L.take k)
      · have G : Hid (9223372036854775807 < val (L.take (k + 1))) := by show _ < _; omega
        rw [decide_eq_true g]; clear g vt cell
        by_cases vb : 922337203685477580 < v
        · go_wp2_with fail
          go_round
          case rel => exact ⟨k + 1, _, by omega, by go_num, rfl, by (first | exact bC _ | omega), by (first | exact bD _ | omega), by rw [decide_eq_true G.out], fun h => absurd h (by have := G.out; omega)⟩
          case measure => simp [intOf]; omega
        · go_wp2_with fail
          go_round
          case rel => exact ⟨k + 1, _, by omega, by go_num, rfl, by (first | exact bC _ | omega), by (first | exact bD _ | omega), by rw [decide_eq_true G.out], fun h => absurd h (by have := G.out; omega)⟩
          case measure => simp [intOf]; omega
      · obtain rfl : v = (val (L.take k) : Int) := HV.out (by omega)
        rw [decide_eq_false g]; clear cell; generalize val (L.take k) = V at *
        by_cases vb : 922337203685477580 < V
        · have G : Hid (9223372036854775807 < val (L.take (k + 1))) := by show _ < _; omega
          clear vt; go_wp2_with fail
          go_round
          case rel => exact ⟨k + 1, _, by omega, by go_num, rfl, by (first | exact bC _ | omega), by (first | exact bD _ | omega), by rw [decide_eq_true G.out], fun h => absurd h (by have := G.out; omega)⟩
          case measure => simp [intOf]; omega
        · have G1 : Hid (val (L.take (k + 1)) = 10 * V + (d - 48)) := vt
          clear vt
          by_cases vc : 9223372036854775807 < 10 * V + (d - 48)
          · go_wp2_with fail
            go_round
            case rel => exact ⟨k + 1, ((10 * V + (d - 48) : Nat) : Int), by omega, by go_num, by congr 1; omega, by omega, by omega, by rw [G1.out, decide_eq_true vc]; first | rfl | exact congrArg Value.bool (decide_eq_true (by omega)), fun _ => by rw [G1.out]⟩
            case measure => simp [intOf]; omega
          · go_wp2_with fail
            go_round
            case rel => exact ⟨k + 1, ((10 * V + (d - 48) : Nat) : Int), by omega, by go_num, by congr 1; omega, by omega, by omega, by rw [G1.out, decide_eq_false vc]; first | rfl | exact congrArg Value.bool (decide_eq_false (by omega)), fun _ => by rw [G1.out]⟩
            case measure => simp [intOf]; omega
    · obtain rfl : k = L.length := by omega
      rw [List.take_length] at HV; rw [List.take_length]
      by_cases g : 9223372036854775807 < val L
      · have E2 : Hid (Lv.bw false m = (0, 3)) := by rw [E.out, if_neg (by omega)]; rfl
        rw [decide_eq_true g]; clear g; go_wp2_with fail; go_ret2; exact ⟨av (by rw [E2.out]) (by rw [E2.out]), kpt⟩
      · obtain rfl : v = (val L : Int) := HV.out (by omega)
        rw [decide_eq_false g]
        by_cases g2 : (val L : Int) ≤ 9223372036854775807
        · have E2 : Hid (Lv.bw false m = (sg false ((val L : Int)), 0)) := by rw [E.out, if_pos (by omega)]; rfl
          have Sg := fun w => dh 0 ((val L : Int)) false w ⟨by omega, by omega⟩ ⟨by omega, by omega⟩; rw [Int.zero_mul, Int.zero_add, dF (by unfold sg; split <;> omega) (by unfold sg; split <;> omega)] at Sg; have HS := Lib.hid Sg; clear Sg; have v00 : (0 : Int) ≤ (val L : Int) := by omega
          have v01 : (val L : Int) ≤ 9223372036854775807 := by omega
          generalize (val L : Int) = V at *; go_wp2_with fail; refine (HS.out _).mono ?_; rintro e w' ⟨rfl, rfl⟩; go_wp2_with fail; go_ret2; exact ⟨av (by rw [E2.out]) (by rw [E2.out]), kpt⟩
        · omega
theorem pZ (m wh r : List UInt8) (c : UInt8) (n : Nat) (w : World) (hs : m.length ≤ 2000) (hn : nd m = n) (t1 : m.take n = wh) (t2 : m.drop n = c :: r) (n0 : 0 < n) (hr : 0 < r.length) (hc : c = 46) (hd : nd r = r.length) (q p4 L : List UInt8) (yq : r ++ [48, 48, 48, 48, 48] = q) (lq : q.length = r.length + 5) (yp : q.take 4 = p4) (yl : wh ++ p4 = L) (hl : L.length = n + 4) (lw : wh.length = n) (lp4 : p4.length = 4) (f : Nat) (q4 : ∀ h, (((ByteArray.mk q.toArray)[4]'h).toNat : Int) = f) (f5 : f < 53) (A : ∀ c ∈ L, isD c = true) (E : Hid (Lv.bw true m = if (val L : Int) ≤ 9223372036854775807 then (sg true ((val L : Int)), 0) else (0, 3))) :
    Calls Tryz.prog 175 #[.string ⟨(45 :: m).toArray⟩] w fun e w' => e = .returned (.tuple #[.int .i64 (Lv.bw true m).1, .int .i64 (Lv.bw true m).2]) ∧ Kept w w' := by
  have X := am; have Z := af; have Y := bv; have D := fun w => aI ⟨m.toArray⟩ w (by rw [af]; omega); rw [show nd (ByteArray.mk m.toArray).data.toList = n from hn] at D; have HD := Lib.hid D; have HN := Lib.hid hn; clear D hn; have lp : (0 : Int) < ((45 :: m).length : Int) := by simp
  have b0 : (((ByteArray.mk (45 :: m).toArray)[0]'(by rw [af]; simp)).toNat : Int) = 45 := rfl; have n1 : n ≤ m.length := by have := dL m; rw [HN.out] at this; exact this
  have nz : ((n : Int) == 0) = false := by rw [beq_eq_false_iff_ne]; omega
  have c0 : ((((ByteArray.mk (c :: r).toArray)[0]'(by rw [af]; simp)).toNat : Int) == 46) = true := by rw [hc]; rfl
  have rl : r.length ≤ 2000 := by have := congrArg List.length t2; simp at this; omega
  have D2 := fun w => aI ⟨r.toArray⟩ w (by rw [af]; omega); rw [show nd (ByteArray.mk r.toArray).data.toList = r.length from hd] at D2; have HD2 := Lib.hid D2; clear hc hd D2; have AD := eJ A; clear A; go_enter Tryz.func175, Tryz.ntmps175; go_wp2_with fail; refine (HD.out _).mono ?_; rintro e w' ⟨rfl, rfl⟩; go_wp2_with fail
  go_region
  go_wp2_with fail; refine (HD2.out _).mono ?_; rintro e w' ⟨rfl, rfl⟩; have CV := dd; go_wp2_with fail; have HC := Lib.hid (ee w.drew L); have HK : Kept w (Lib.bytesWorld w.drew 5 ⟨L.toArray⟩) := Kept.trans ((Kept.refl w).drew) (df _ _ _); generalize Lib.bytesWorld w.drew 5 ⟨L.toArray⟩ = wb at *; clear CV
  go_loop [9, 10, 67] (fun x y i => ∃ (k : Nat) (v : Int), k ≤ L.length ∧ i = .int .i64 k ∧ x = .int .u64 v ∧ 0 ≤ v ∧ v ≤ 18446744073709551615 ∧ y = .bool (decide (9223372036854775807 < val (L.take k))) ∧ (val (L.take k) ≤ 9223372036854775807 → v = val (L.take k))) (fun _ _ i => L.length - (intOf i).toNat)
  case atStart => exact ⟨0, 0, by omega, rfl, rfl, by omega, by omega, by simp [val], by simp [val]⟩
  case round =>
    obtain ⟨k, v, hk, rfl, rfl, v0, v1, rfl, hv⟩ := hrel; have HV := Lib.hid hv; clear hv
    by_cases c : k < L.length
    · have cell := HC.out k c
      have ad := AD.out k c; obtain ⟨a1, a2⟩ := ad; have vt := fM c; obtain ⟨d, hd⟩ : ∃ d : Nat, d = L[k].toNat := ⟨_, rfl⟩; rw [← hd] at cell a1 a2 vt; clear hd; have VT := Lib.hid vt; have wo : (wb.cell? ⟨w.heap.size, k, none⟩) = some (.int .u8 d) := cell
      by_cases g : 9223372036854775807 < val (L.take k)
      · have G : Hid (9223372036854775807 < val (L.take (k + 1))) := by show _ < _; omega
        rw [decide_eq_true g]; clear g vt cell
        by_cases vb : 922337203685477580 < v
        · go_wp2_with fail
          go_round
          case rel => exact ⟨k + 1, _, by omega, by go_num, rfl, by (first | exact bC _ | omega), by (first | exact bD _ | omega), by rw [decide_eq_true G.out], fun h => absurd h (by have := G.out; omega)⟩
          case measure => simp [intOf]; omega
        · go_wp2_with fail
          go_round
          case rel => exact ⟨k + 1, _, by omega, by go_num, rfl, by (first | exact bC _ | omega), by (first | exact bD _ | omega), by rw [decide_eq_true G.out], fun h => absurd h (by have := G.out; omega)⟩
          case measure => simp [intOf]; omega
      · obtain rfl : v = (val (L.take k) : Int) := HV.out (by omega)
        rw [decide_eq_false g]; clear cell; generalize val (L.take k) = V at *
        by_cases vb : 922337203685477580 < V
        · have G : Hid (9223372036854775807 < val (L.take (k + 1))) := by show _ < _; omega
          clear vt; go_wp2_with fail
          go_round
          case rel => exact ⟨k + 1, _, by omega, by go_num, rfl, by (first | exact bC _ | omega), by (first | exact bD _ | omega), by rw [decide_eq_true G.out], fun h => absurd h (by have := G.out; omega)⟩
          case measure => simp [intOf]; omega
        · have G1 : Hid (val (L.take (k + 1)) = 10 * V + (d - 48)) := vt
          clear vt
          by_cases vc : 9223372036854775807 < 10 * V + (d - 48)
          · go_wp2_with fail
            go_round
            case rel => exact ⟨k + 1, ((10 * V + (d - 48) : Nat) : Int), by omega, by go_num, by congr 1; omega, by omega, by omega, by rw [G1.out, decide_eq_true vc]; first | rfl | exact congrArg Value.bool (decide_eq_true (by omega)), fun _ => by rw [G1.out]⟩
            case measure => simp [intOf]; omega
          · go_wp2_with fail
            go_round
            case rel => exact ⟨k + 1, ((10 * V + (d - 48) : Nat) : Int), by omega, by go_num, by congr 1; omega, by omega, by omega, by rw [G1.out, decide_eq_false vc]; first | rfl | exact congrArg Value.bool (decide_eq_false (by omega)), fun _ => by rw [G1.out]⟩
            case measure => simp [intOf]; omega
    · obtain rfl : k = L.length := by omega
      rw [List.take_length] at HV; rw [List.take_length]
      by_cases g : 9223372036854775807 < val L
      · have E2 : Hid (Lv.bw true m = (0, 3)) := by rw [E.out, if_neg (by omega)]; rfl
        rw [decide_eq_true g]; clear g; go_wp2_with fail; go_ret2; exact ⟨av (by rw [E2.out]) (by rw [E2.out]), kpt⟩
      · obtain rfl : v = (val L : Int) := HV.out (by omega)
        rw [decide_eq_false g]
        by_cases g2 : (val L : Int) ≤ 9223372036854775807
        · have E2 : Hid (Lv.bw true m = (sg true ((val L : Int)), 0)) := by rw [E.out, if_pos (by omega)]; rfl
          have Sg := fun w => dh 0 ((val L : Int)) true w ⟨by omega, by omega⟩ ⟨by omega, by omega⟩; rw [Int.zero_mul, Int.zero_add, dF (by unfold sg; split <;> omega) (by unfold sg; split <;> omega)] at Sg; have HS := Lib.hid Sg; clear Sg; have v00 : (0 : Int) ≤ (val L : Int) := by omega
          have v01 : (val L : Int) ≤ 9223372036854775807 := by omega
          generalize (val L : Int) = V at *; go_wp2_with fail; refine (HS.out _).mono ?_; rintro e w' ⟨rfl, rfl⟩; go_wp2_with fail; go_ret2; exact ⟨av (by rw [E2.out]) (by rw [E2.out]), kpt⟩
        · omega
theorem qb (m wh r : List UInt8) (c : UInt8) (n : Nat) (w : World) (hs : m.length ≤ 2000) (hn : nd m = n) (t1 : m.take n = wh) (t2 : m.drop n = c :: r) (n0 : 0 < n) (hr : 0 < r.length) (hc : c = 46) (hd : nd r = r.length) (q p4 L : List UInt8) (yq : r ++ [48, 48, 48, 48, 48] = q) (lq : q.length = r.length + 5) (yp : q.take 4 = p4) (yl : wh ++ p4 = L) (hl : L.length = n + 4) (lw : wh.length = n) (lp4 : p4.length = 4) (f : Nat) (q4 : ∀ h, (((ByteArray.mk q.toArray)[4]'h).toNat : Int) = f) (f5 : 53 ≤ f) (A : ∀ c ∈ L, isD c = true) (E : Hid (Lv.bw true m = if (val L : Int) + 1 ≤ 9223372036854775807 then (sg true ((val L : Int) + 1), 0) else (0, 3))) :
    Calls Tryz.prog 175 #[.string ⟨(45 :: m).toArray⟩] w fun e w' => e = .returned (.tuple #[.int .i64 (Lv.bw true m).1, .int .i64 (Lv.bw true m).2]) ∧ Kept w w' := by
  have X := am; have Z := af; have Y := bv; have D := fun w => aI ⟨m.toArray⟩ w (by rw [af]; omega); rw [show nd (ByteArray.mk m.toArray).data.toList = n from hn] at D; have HD := Lib.hid D; have HN := Lib.hid hn; clear D hn; have lp : (0 : Int) < ((45 :: m).length : Int) := by simp
  have b0 : (((ByteArray.mk (45 :: m).toArray)[0]'(by rw [af]; simp)).toNat : Int) = 45 := rfl; have n1 : n ≤ m.length := by have := dL m; rw [HN.out] at this; exact this
  have nz : ((n : Int) == 0) = false := by rw [beq_eq_false_iff_ne]; omega
  have c0 : ((((ByteArray.mk (c :: r).toArray)[0]'(by rw [af]; simp)).toNat : Int) == 46) = true := by rw [hc]; rfl
  have rl : r.length ≤ 2000 := by have := congrArg List.length t2; simp at this; omega
  have D2 := fun w => aI ⟨r.toArray⟩ w (by rw [af]; omega); rw [show nd (ByteArray.mk r.toArray).data.toList = r.length from hd] at D2; have HD2 := Lib.hid D2; clear hc hd D2; have AD := eJ A; clear A; go_enter Tryz.func175, Tryz.ntmps175; go_wp2_with fail; refine (HD.out _).mono ?_; rintro e w' ⟨rfl, rfl⟩; go_wp2_with fail
  go_region
  go_wp2_with fail; refine (HD2.out _).mono ?_; rintro e w' ⟨rfl, rfl⟩; have CV := dd; go_wp2_with fail; have HC := Lib.hid (ee w.drew L); have HK : Kept w (Lib.bytesWorld w.drew 5 ⟨L.toArray⟩) := Kept.trans ((Kept.refl w).drew) (df _ _ _); generalize Lib.bytesWorld w.drew 5 ⟨L.toArray⟩ = wb at *; clear CV
  go_loop [9, 10, 67] (fun x y i => ∃ (k : Nat) (v : Int), k ≤ L.length ∧ i = .int .i64 k ∧ x = .int .u64 v ∧ 0 ≤ v ∧ v ≤ 18446744073709551615 ∧ y = .bool (decide (9223372036854775807 < val (L.take k))) ∧ (val (L.take k) ≤ 9223372036854775807 → v = val (L.take k))) (fun _ _ i => L.length - (intOf i).toNat)
  case atStart => exact ⟨0, 0, by omega, rfl, rfl, by omega, by omega, by simp [val], by simp [val]⟩
  case round =>
    obtain ⟨k, v, hk, rfl, rfl, v0, v1, rfl, hv⟩ := hrel; have HV := Lib.hid hv; clear hv
    by_cases c : k < L.length
    · have cell := HC.out k c
      have ad := AD.out k c; obtain ⟨a1, a2⟩ := ad; have vt := fM c; obtain ⟨d, hd⟩ : ∃ d : Nat, d = L[k].toNat := ⟨_, rfl⟩; rw [← hd] at cell a1 a2 vt; clear hd; have VT := Lib.hid vt; have wo : (wb.cell? ⟨w.heap.size, k, none⟩) = some (.int .u8 d) := cell
      by_cases g : 9223372036854775807 < val (L.take k)
      · have G : Hid (9223372036854775807 < val (L.take (k + 1))) := by show _ < _; omega
        rw [decide_eq_true g]; clear g vt cell
        by_cases vb : 922337203685477580 < v
        · go_wp2_with fail
          go_round
          case rel => exact ⟨k + 1, _, by omega, by go_num, rfl, by (first | exact bC _ | omega), by (first | exact bD _ | omega), by rw [decide_eq_true G.out], fun h => absurd h (by have := G.out; omega)⟩
          case measure => simp [intOf]; omega
        · go_wp2_with fail
          go_round
          case rel => exact ⟨k + 1, _, by omega, by go_num, rfl, by (first | exact bC _ | omega), by (first | exact bD _ | omega), by rw [decide_eq_true G.out], fun h => absurd h (by have := G.out; omega)⟩
          case measure => simp [intOf]; omega
      · obtain rfl : v = (val (L.take k) : Int) := HV.out (by omega)
        rw [decide_eq_false g]; clear cell; generalize val (L.take k) = V at *
        by_cases vb : 922337203685477580 < V
        · have G : Hid (9223372036854775807 < val (L.take (k + 1))) := by show _ < _; omega
          clear vt; go_wp2_with fail
          go_round
          case rel => exact ⟨k + 1, _, by omega, by go_num, rfl, by (first | exact bC _ | omega), by (first | exact bD _ | omega), by rw [decide_eq_true G.out], fun h => absurd h (by have := G.out; omega)⟩
          case measure => simp [intOf]; omega
        · have G1 : Hid (val (L.take (k + 1)) = 10 * V + (d - 48)) := vt
          clear vt
          by_cases vc : 9223372036854775807 < 10 * V + (d - 48)
          · go_wp2_with fail
            go_round
            case rel => exact ⟨k + 1, ((10 * V + (d - 48) : Nat) : Int), by omega, by go_num, by congr 1; omega, by omega, by omega, by rw [G1.out, decide_eq_true vc]; first | rfl | exact congrArg Value.bool (decide_eq_true (by omega)), fun _ => by rw [G1.out]⟩
            case measure => simp [intOf]; omega
          · go_wp2_with fail
            go_round
            case rel => exact ⟨k + 1, ((10 * V + (d - 48) : Nat) : Int), by omega, by go_num, by congr 1; omega, by omega, by omega, by rw [G1.out, decide_eq_false vc]; first | rfl | exact congrArg Value.bool (decide_eq_false (by omega)), fun _ => by rw [G1.out]⟩
            case measure => simp [intOf]; omega
    · obtain rfl : k = L.length := by omega
      rw [List.take_length] at HV; rw [List.take_length]
      by_cases g : 9223372036854775807 < val L
      · have E2 : Hid (Lv.bw true m = (0, 3)) := by rw [E.out, if_neg (by omega)]; rfl
        rw [decide_eq_true g]; clear g; go_wp2_with fail; go_ret2; exact ⟨av (by rw [E2.out]) (by rw [E2.out]), kpt⟩
      · obtain rfl : v = (val L : Int) := HV.out (by omega)
        rw [decide_eq_false g]
        by_cases g2 : (val L : Int) + 1 ≤ 9223372036854775807
        · have E2 : Hid (Lv.bw true m = (sg true ((val L : Int) + 1), 0)) := by rw [E.out, if_pos (by omega)]; rfl
          have Sg := fun w => dh 0 ((val L : Int) + 1) true w ⟨by omega, by omega⟩ ⟨by omega, by omega⟩; rw [Int.zero_mul, Int.zero_add, dF (by unfold sg; split <;> omega) (by unfold sg; split <;> omega)] at Sg; have HS := Lib.hid Sg; clear Sg; have v00 : (0 : Int) ≤ (val L : Int) := by omega
          have v01 : (val L : Int) ≤ 9223372036854775807 := by omega
          generalize (val L : Int) = V at *; go_wp2_with fail; refine (HS.out _).mono ?_; rintro e w' ⟨rfl, rfl⟩; go_wp2_with fail; go_ret2; exact ⟨av (by rw [E2.out]) (by rw [E2.out]), kpt⟩
        · have E2 : Hid (Lv.bw true m = (0, 3)) := by rw [E.out, if_neg (by omega)]; rfl
          have v00 : (0 : Int) ≤ (val L : Int) := by omega
          have v01 : (val L : Int) ≤ 9223372036854775807 := by omega
          generalize (val L : Int) = V at *; go_wp2_with fail; go_ret2; exact ⟨av (by rw [E2.out]) (by rw [E2.out]), kpt⟩
theorem qc (m wh r : List UInt8) (c : UInt8) (n : Nat) (w : World) (hs : m.length ≤ 2000) (hn : nd m = n) (t1 : m.take n = wh) (t2 : m.drop n = c :: r) (hb : ∀ h, ((((ByteArray.mk m.toArray)[0]'h).toNat : Int) == 45) = false) (hl0 : 0 < m.length) (n0 : 0 < n) (hr : 0 < r.length) (hc : c = 46) (hd : nd r = r.length) (q p4 L : List UInt8) (yq : r ++ [48, 48, 48, 48, 48] = q) (lq : q.length = r.length + 5) (yp : q.take 4 = p4) (yl : wh ++ p4 = L) (hl : L.length = n + 4) (lw : wh.length = n) (lp4 : p4.length = 4) (f : Nat) (q4 : ∀ h, (((ByteArray.mk q.toArray)[4]'h).toNat : Int) = f) (f5 : f < 53) (A : ∀ c ∈ L, isD c = true) (E : Hid (Lv.bw false m = if (val L : Int) ≤ 9223372036854775807 then (sg false ((val L : Int)), 0) else (0, 3))) :
    Calls Tryz.prog 175 #[.string ⟨m.toArray⟩] w fun e w' => e = .returned (.tuple #[.int .i64 (Lv.bw false m).1, .int .i64 (Lv.bw false m).2]) ∧ Kept w w' := by
  have X := am; have Z := af; have Y := bv; have D := fun w => aI ⟨m.toArray⟩ w (by rw [af]; omega); rw [show nd (ByteArray.mk m.toArray).data.toList = n from hn] at D; have HD := Lib.hid D; have HN := Lib.hid hn; clear D hn; have lp : (0 : Int) < (m.length : Int) := by omega
  have b0 := fun h => hb h; have n1 : n ≤ m.length := by have := dL m; rw [HN.out] at this; exact this
  have nz : ((n : Int) == 0) = false := by rw [beq_eq_false_iff_ne]; omega
  have c0 : ((((ByteArray.mk (c :: r).toArray)[0]'(by rw [af]; simp)).toNat : Int) == 46) = true := by rw [hc]; rfl
  have rl : r.length ≤ 2000 := by have := congrArg List.length t2; simp at this; omega
  have D2 := fun w => aI ⟨r.toArray⟩ w (by rw [af]; omega); rw [show nd (ByteArray.mk r.toArray).data.toList = r.length from hd] at D2; have HD2 := Lib.hid D2; clear hc hd D2; have AD := eJ A; clear A; go_enter Tryz.func175, Tryz.ntmps175; go_wp2_with fail; refine (HD.out _).mono ?_; rintro e w' ⟨rfl, rfl⟩; go_wp2_with fail
  go_region
  go_wp2_with fail; refine (HD2.out _).mono ?_; rintro e w' ⟨rfl, rfl⟩; have CV := dd; go_wp2_with fail; have HC := Lib.hid (ee w.drew L); have HK : Kept w (Lib.bytesWorld w.drew 5 ⟨L.toArray⟩) := Kept.trans ((Kept.refl w).drew) (df _ _ _); generalize Lib.bytesWorld w.drew 5 ⟨L.toArray⟩ = wb at *; clear CV
  go_loop [9, 10, 67] (fun x y i => ∃ (k : Nat) (v : Int), k ≤ L.length ∧ i = .int .i64 k ∧ x = .int .u64 v ∧ 0 ≤ v ∧ v ≤ 18446744073709551615 ∧ y = .bool (decide (9223372036854775807 < val (L.take k))) ∧ (val (L.take k) ≤ 9223372036854775807 → v = val (L.take k))) (fun _ _ i => L.length - (intOf i).toNat)
  case atStart => exact ⟨0, 0, by omega, rfl, rfl, by omega, by omega, by simp [val], by simp [val]⟩
  case round =>
    obtain ⟨k, v, hk, rfl, rfl, v0, v1, rfl, hv⟩ := hrel; have HV := Lib.hid hv; clear hv
    by_cases c : k < L.length
    · have cell := HC.out k c
      have ad := AD.out k c; obtain ⟨a1, a2⟩ := ad; have vt := fM c; obtain ⟨d, hd⟩ : ∃ d : Nat, d = L[k].toNat := ⟨_, rfl⟩; rw [← hd] at cell a1 a2 vt; clear hd; have VT := Lib.hid vt; have wo : (wb.cell? ⟨w.heap.size, k, none⟩) = some (.int .u8 d) := cell
      by_cases g : 9223372036854775807 < val (L.take k)
      · have G : Hid (9223372036854775807 < val (L.take (k + 1))) := by show _ < _; omega
        rw [decide_eq_true g]; clear g vt cell
        by_cases vb : 922337203685477580 < v
        · go_wp2_with fail
          go_round
          case rel => exact ⟨k + 1, _, by omega, by go_num, rfl, by (first | exact bC _ | omega), by (first | exact bD _ | omega), by rw [decide_eq_true G.out], fun h => absurd h (by have := G.out; omega)⟩
          case measure => simp [intOf]; omega
        · go_wp2_with fail
          go_round
          case rel => exact ⟨k + 1, _, by omega, by go_num, rfl, by (first | exact bC _ | omega), by (first | exact bD _ | omega), by rw [decide_eq_true G.out], fun h => absurd h (by have := G.out; omega)⟩
          case measure => simp [intOf]; omega
      · obtain rfl : v = (val (L.take k) : Int) := HV.out (by omega)
        rw [decide_eq_false g]; clear cell; generalize val (L.take k) = V at *
        by_cases vb : 922337203685477580 < V
        · have G : Hid (9223372036854775807 < val (L.take (k + 1))) := by show _ < _; omega
          clear vt; go_wp2_with fail
          go_round
          case rel => exact ⟨k + 1, _, by omega, by go_num, rfl, by (first | exact bC _ | omega), by (first | exact bD _ | omega), by rw [decide_eq_true G.out], fun h => absurd h (by have := G.out; omega)⟩
          case measure => simp [intOf]; omega
        · have G1 : Hid (val (L.take (k + 1)) = 10 * V + (d - 48)) := vt
          clear vt
          by_cases vc : 9223372036854775807 < 10 * V + (d - 48)
          · go_wp2_with fail
            go_round
            case rel => exact ⟨k + 1, ((10 * V + (d - 48) : Nat) : Int), by omega, by go_num, by congr 1; omega, by omega, by omega, by rw [G1.out, decide_eq_true vc]; first | rfl | exact congrArg Value.bool (decide_eq_true (by omega)), fun _ => by rw [G1.out]⟩
            case measure => simp [intOf]; omega
          · go_wp2_with fail
            go_round
            case rel => exact ⟨k + 1, ((10 * V + (d - 48) : Nat) : Int), by omega, by go_num, by congr 1; omega, by omega, by omega, by rw [G1.out, decide_eq_false vc]; first | rfl | exact congrArg Value.bool (decide_eq_false (by omega)), fun _ => by rw [G1.out]⟩
            case measure => simp [intOf]; omega
    · obtain rfl : k = L.length := by omega
      rw [List.take_length] at HV; rw [List.take_length]
      by_cases g : 9223372036854775807 < val L
      · have E2 : Hid (Lv.bw false m = (0, 3)) := by rw [E.out, if_neg (by omega)]; rfl
        rw [decide_eq_true g]; clear g; go_wp2_with fail; go_ret2; exact ⟨av (by rw [E2.out]) (by rw [E2.out]), kpt⟩
      · obtain rfl : v = (val L : Int) := HV.out (by omega)
        rw [decide_eq_false g]
        by_cases g2 : (val L : Int) ≤ 9223372036854775807
        · have E2 : Hid (Lv.bw false m = (sg false ((val L : Int)), 0)) := by rw [E.out, if_pos (by omega)]; rfl
          have Sg := fun w => dh 0 ((val L : Int)) false w ⟨by omega, by omega⟩ ⟨by omega, by omega⟩; rw [Int.zero_mul, Int.zero_add, dF (by unfold sg; split <;> omega) (by unfold sg; split <;> omega)] at Sg; have HS := Lib.hid Sg; clear Sg; have v00 : (0 : Int) ≤ (val L : Int) := by omega
          have v01 : (val L : Int) ≤ 9223372036854775807 := by omega
          generalize (val L : Int) = V at *; go_wp2_with fail; refine (HS.out _).mono ?_; rintro e w' ⟨rfl, rfl⟩; go_wp2_with fail; go_ret2; exact ⟨av (by rw [E2.out]) (by rw [E2.out]), kpt⟩
        · omega
theorem qd (m wh r : List UInt8) (c : UInt8) (n : Nat) (w : World) (hs : m.length ≤ 2000) (hn : nd m = n) (t1 : m.take n = wh) (t2 : m.drop n = c :: r) (hb : ∀ h, ((((ByteArray.mk m.toArray)[0]'h).toNat : Int) == 45) = false) (hl0 : 0 < m.length) (n0 : 0 < n) (hr : 0 < r.length) (hc : c = 46) (hd : nd r = r.length) (q p4 L : List UInt8) (yq : r ++ [48, 48, 48, 48, 48] = q) (lq : q.length = r.length + 5) (yp : q.take 4 = p4) (yl : wh ++ p4 = L) (hl : L.length = n + 4) (lw : wh.length = n) (lp4 : p4.length = 4) (f : Nat) (q4 : ∀ h, (((ByteArray.mk q.toArray)[4]'h).toNat : Int) = f) (f5 : 53 ≤ f) (A : ∀ c ∈ L, isD c = true) (E : Hid (Lv.bw false m = if (val L : Int) + 1 ≤ 9223372036854775807 then (sg false ((val L : Int) + 1), 0) else (0, 3))) :
    Calls Tryz.prog 175 #[.string ⟨m.toArray⟩] w fun e w' => e = .returned (.tuple #[.int .i64 (Lv.bw false m).1, .int .i64 (Lv.bw false m).2]) ∧ Kept w w' := by
  have X := am; have Z := af; have Y := bv; have D := fun w => aI ⟨m.toArray⟩ w (by rw [af]; omega); rw [show nd (ByteArray.mk m.toArray).data.toList = n from hn] at D; have HD := Lib.hid D; have HN := Lib.hid hn; clear D hn; have lp : (0 : Int) < (m.length : Int) := by omega
  have b0 := fun h => hb h; have n1 : n ≤ m.length := by have := dL m; rw [HN.out] at this; exact this
  have nz : ((n : Int) == 0) = false := by rw [beq_eq_false_iff_ne]; omega
  have c0 : ((((ByteArray.mk (c :: r).toArray)[0]'(by rw [af]; simp)).toNat : Int) == 46) = true := by rw [hc]; rfl
  have rl : r.length ≤ 2000 := by have := congrArg List.length t2; simp at this; omega
  have D2 := fun w => aI ⟨r.toArray⟩ w (by rw [af]; omega); rw [show nd (ByteArray.mk r.toArray).data.toList = r.length from hd] at D2; have HD2 := Lib.hid D2; clear hc hd D2; have AD := eJ A; clear A; go_enter Tryz.func175, Tryz.ntmps175; go_wp2_with fail; refine (HD.out _).mono ?_; rintro e w' ⟨rfl, rfl⟩; go_wp2_with fail
  go_region
  go_wp2_with fail; refine (HD2.out _).mono ?_; rintro e w' ⟨rfl, rfl⟩; have CV := dd; go_wp2_with fail; have HC := Lib.hid (ee w.drew L); have HK : Kept w (Lib.bytesWorld w.drew 5 ⟨L.toArray⟩) := Kept.trans ((Kept.refl w).drew) (df _ _ _); generalize Lib.bytesWorld w.drew 5 ⟨L.toArray⟩ = wb at *; clear CV
  go_loop [9, 10, 67] (fun x y i => ∃ (k : Nat) (v : Int), k ≤ L.length ∧ i = .int .i64 k ∧ x = .int .u64 v ∧ 0 ≤ v ∧ v ≤ 18446744073709551615 ∧ y = .bool (decide (9223372036854775807 < val (L.take k))) ∧ (val (L.take k) ≤ 9223372036854775807 → v = val (L.take k))) (fun _ _ i => L.length - (intOf i).toNat)
  case atStart => exact ⟨0, 0, by omega, rfl, rfl, by omega, by omega, by simp [val], by simp [val]⟩
  case round =>
    obtain ⟨k, v, hk, rfl, rfl, v0, v1, rfl, hv⟩ := hrel; have HV := Lib.hid hv; clear hv
    by_cases c : k < L.length
    · have cell := HC.out k c
      have ad := AD.out k c; obtain ⟨a1, a2⟩ := ad; have vt := fM c; obtain ⟨d, hd⟩ : ∃ d : Nat, d = L[k].toNat := ⟨_, rfl⟩; rw [← hd] at cell a1 a2 vt; clear hd; have VT := Lib.hid vt; have wo : (wb.cell? ⟨w.heap.size, k, none⟩) = some (.int .u8 d) := cell
      by_cases g : 9223372036854775807 < val (L.take k)
      · have G : Hid (9223372036854775807 < val (L.take (k + 1))) := by show _ < _; omega
        rw [decide_eq_true g]; clear g vt cell
        by_cases vb : 922337203685477580 < v
        · go_wp2_with fail
          go_round
          case rel => exact ⟨k + 1, _, by omega, by go_num, rfl, by (first | exact bC _ | omega), by (first | exact bD _ | omega), by rw [decide_eq_true G.out], fun h => absurd h (by have := G.out; omega)⟩
          case measure => simp [intOf]; omega
        · go_wp2_with fail
          go_round
          case rel => exact ⟨k + 1, _, by omega, by go_num, rfl, by (first | exact bC _ | omega), by (first | exact bD _ | omega), by rw [decide_eq_true G.out], fun h => absurd h (by have := G.out; omega)⟩
          case measure => simp [intOf]; omega
      · obtain rfl : v = (val (L.take k) : Int) := HV.out (by omega)
        rw [decide_eq_false g]; clear cell; generalize val (L.take k) = V at *
        by_cases vb : 922337203685477580 < V
        · have G : Hid (9223372036854775807 < val (L.take (k + 1))) := by show _ < _; omega
          clear vt; go_wp2_with fail
          go_round
          case rel => exact ⟨k + 1, _, by omega, by go_num, rfl, by (first | exact bC _ | omega), by (first | exact bD _ | omega), by rw [decide_eq_true G.out], fun h => absurd h (by have := G.out; omega)⟩
          case measure => simp [intOf]; omega
        · have G1 : Hid (val (L.take (k + 1)) = 10 * V + (d - 48)) := vt
          clear vt
          by_cases vc : 9223372036854775807 < 10 * V + (d - 48)
          · go_wp2_with fail
            go_round
            case rel => exact ⟨k + 1, ((10 * V + (d - 48) : Nat) : Int), by omega, by go_num, by congr 1; omega, by omega, by omega, by rw [G1.out, decide_eq_true vc]; first | rfl | exact congrArg Value.bool (decide_eq_true (by omega)), fun _ => by rw [G1.out]⟩
            case measure => simp [intOf]; omega
          · go_wp2_with fail
            go_round
            case rel => exact ⟨k + 1, ((10 * V + (d - 48) : Nat) : Int), by omega, by go_num, by congr 1; omega, by omega, by omega, by rw [G1.out, decide_eq_false vc]; first | rfl | exact congrArg Value.bool (decide_eq_false (by omega)), fun _ => by rw [G1.out]⟩
            case measure => simp [intOf]; omega
    · obtain rfl : k = L.length := by omega
      rw [List.take_length] at HV; rw [List.take_length]
      by_cases g : 9223372036854775807 < val L
      · have E2 : Hid (Lv.bw false m = (0, 3)) := by rw [E.out, if_neg (by omega)]; rfl
        rw [decide_eq_true g]; clear g; go_wp2_with fail; go_ret2; exact ⟨av (by rw [E2.out]) (by rw [E2.out]), kpt⟩
      · obtain rfl : v = (val L : Int) := HV.out (by omega)
        rw [decide_eq_false g]
        by_cases g2 : (val L : Int) + 1 ≤ 9223372036854775807
        · have E2 : Hid (Lv.bw false m = (sg false ((val L : Int) + 1), 0)) := by rw [E.out, if_pos (by omega)]; rfl
          have Sg := fun w => dh 0 ((val L : Int) + 1) false w ⟨by omega, by omega⟩ ⟨by omega, by omega⟩; rw [Int.zero_mul, Int.zero_add, dF (by unfold sg; split <;> omega) (by unfold sg; split <;> omega)] at Sg; have HS := Lib.hid Sg; clear Sg; have v00 : (0 : Int) ≤ (val L : Int) := by omega
          have v01 : (val L : Int) ≤ 9223372036854775807 := by omega
          generalize (val L : Int) = V at *; go_wp2_with fail; refine (HS.out _).mono ?_; rintro e w' ⟨rfl, rfl⟩; go_wp2_with fail; go_ret2; exact ⟨av (by rw [E2.out]) (by rw [E2.out]), kpt⟩
        · have E2 : Hid (Lv.bw false m = (0, 3)) := by rw [E.out, if_neg (by omega)]; rfl
          have v00 : (0 : Int) ≤ (val L : Int) := by omega
          have v01 : (val L : Int) ≤ 9223372036854775807 := by omega
          generalize (val L : Int) = V at *; go_wp2_with fail; go_ret2; exact ⟨av (by rw [E2.out]) (by rw [E2.out]), kpt⟩
end
section
open Go.RowKit Lv
theorem se (m wh : List UInt8) (n : Nat) (w : World) (hs : m.length ≤ 2000) (hn : nd m = n) (t1 : m.take n = wh) (t2 : m.drop n = []) (n0 : Hid (n = 0)) :
    Calls Tryz.prog 175 #[.string ⟨(45 :: m).toArray⟩] w fun e w' => e = .returned (.tuple #[.int .i64 (Lv.bw true m).1, .int .i64 (Lv.bw true m).2]) ∧ Kept w w' := by
  have X := am; have Z := af; have Y := bv; have D := fun w => aI ⟨m.toArray⟩ w (by rw [af]; omega); rw [show nd (ByteArray.mk m.toArray).data.toList = n from hn] at D; have HD := Lib.hid D; have HN := Lib.hid hn; clear D hn; have lp : (0 : Int) < ((45 :: m).length : Int) := by simp
  have b0 : (((ByteArray.mk (45 :: m).toArray)[0]'(by rw [af]; simp)).toNat : Int) = 45 := rfl; have n1 : n ≤ m.length := by have := dL m; rw [HN.out] at this; exact this
  have nz : ((n : Int) == 0) = true := by rw [n0.out]; rfl
  have E : Hid (Lv.bw true m = (0, 4)) := by
    show _ = _; unfold Lv.bw; rw [HN.out]; rw [if_pos n0.out]
  go_enter Tryz.func175, Tryz.ntmps175; go_wp2_with fail; refine (HD.out _).mono ?_; rintro e w' ⟨rfl, rfl⟩; go_wp2_with fail
  go_region
  go_wp2_with fail; go_ret2; exact ⟨av (by rw [E.out]) (by rw [E.out]), kpt⟩
theorem sf (w : World) : Calls Tryz.prog 175 #[.string ⟨([] : List UInt8).toArray⟩] w fun e w' => e = .returned (.tuple #[.int .i64 (Lv.bw false []).1, .int .i64 (Lv.bw false []).2]) ∧ Kept w w' := by
  have X := am; have Z := af; have Y := bv; have D := fun w => aI ⟨([] : List UInt8).toArray⟩ w (by rw [af]; simp); rw [show nd (ByteArray.mk ([] : List UInt8).toArray).data.toList = 0 from rfl] at D; have HD := Lib.hid D; clear D; have E : Hid (Lv.bw false [] = (0, 4)) := rfl; go_enter Tryz.func175, Tryz.ntmps175; go_wp2_with fail; refine (HD.out _).mono ?_; rintro e w' ⟨rfl, rfl⟩; go_wp2_with fail
  go_region
  go_wp2_with fail; go_ret2; exact ⟨av (by rw [E.out]) (by rw [E.out]), kpt⟩
theorem jm {r : List UInt8} (h : nd r = r.length) : ∀ c ∈ br r, isD c = true := by
  intro c hc; have := List.mem_of_mem_take hc; rcases List.mem_append.1 this with h1 | h1
  · exact lG h c h1
  · simp at h1; subst h1; rfl
theorem eN : ∀ (m : List UInt8), ∀ c ∈ m.take (nd m), isD c = true
  | [], c, hc => by simp at hc
  | a :: m, c, hc => by
    by_cases d : isD a = true
    · have e : nd (a :: m) = nd m + 1 := if_pos d
      rw [e, List.take_succ_cons] at hc; rcases List.mem_cons.1 hc with rfl | hc
      · exact d
      · exact eN m c hc
    · have e : nd (a :: m) = 0 := if_neg d
      rw [e] at hc; simp at hc
theorem gY {b : Bool} {m : List UInt8} (n0 : 0 < nd m) (h : m.drop (nd m) = []) : Lv.bw b m = if (val (m ++ [48, 48, 48, 48]) : Int) ≤ 9223372036854775807 then (sg b (val (m ++ [48, 48, 48, 48]) : Int), 0) else (0, 3) := by
  unfold Lv.bw; have e : m.take (nd m) = m := List.take_of_length_le (List.drop_eq_nil_iff.1 h); rw [if_neg (by omega), h, e]; show (if (val (m ++ [48, 48, 48, 48]) : Int) + 0 ≤ _ then (sg b ((val (m ++ [48, 48, 48, 48]) : Int) + 0), 0) else _) = _; rw [Int.add_zero]
theorem fO {b : Bool} {m r : List UInt8} (n0 : 0 < nd m) (h : m.drop (nd m) = 46 :: r) (hr : 0 < r.length) (hd : nd r = r.length) :
    (53 ≤ (ed r).toNat → Lv.bw b m = if (val (m.take (nd m) ++ br r) : Int) + 1 ≤ 9223372036854775807 then (sg b ((val (m.take (nd m) ++ br r) : Int) + 1), 0) else (0, 3)) ∧
    (¬ 53 ≤ (ed r).toNat → Lv.bw b m = if (val (m.take (nd m) ++ br r) : Int) ≤ 9223372036854775807 then (sg b (val (m.take (nd m) ++ br r) : Int), 0) else (0, 3)) := by
  unfold Lv.bw; rw [if_neg (by omega), h, xB hr hd]; refine ⟨fun h5 => ?_, fun h5 => ?_⟩
  · simp only [if_pos h5]
  · simp only [if_neg h5, Int.add_zero]
theorem gZ (r : List UInt8) (h : 4 < (ByteArray.mk (pad r).toArray).size) : (ByteArray.mk (pad r).toArray)[4] = ed r := by
  show (pad r)[4]'h = (pad r).getD 4 48; rw [List.getD_eq_getElem?_getD, List.getElem?_eq_getElem h]; rfl
theorem fE (r : List UInt8) : (pad r).length = r.length + 5 := by unfold pad; simp
theorem dk (r : List UInt8) : (br r).length = 4 := by unfold br; rw [List.length_take, fE]; omega
theorem xC (m : List UInt8) (w : World) (hs : m.length ≤ 2000) : Calls Tryz.prog 175 #[.string ⟨(45 :: m).toArray⟩] w fun e w' => e = .returned (.tuple #[.int .i64 (Lv.bw true m).1, .int .i64 (Lv.bw true m).2]) ∧ Kept w w' := by
  have ln : nd m ≤ m.length := dL m; rcases ht : m.drop (nd m) with _ | ⟨c, _ | ⟨c2, r2⟩⟩
  · by_cases n0 : nd m = 0
    · exact se m _ _ w hs rfl rfl ht (Lib.hid n0)
    · have lm : m.length = nd m := by have := List.drop_eq_nil_iff.1 ht; omega
      exact rZ m _ w hs rfl (by rw [← lm, List.take_length]) ht (by omega) _ rfl (by simp; omega) lm (by intro c hc; rcases List.mem_append.1 hc with h | h; exact lG lm.symm c h; simp at h; subst h; rfl) (Lib.hid (gY (by omega) ht))
  · by_cases n0 : nd m = 0
    · exact pN m _ [] c _ w hs rfl rfl ht (Lib.hid n0)
    · exact pQ m _ [] c _ w hs rfl rfl ht (by omega)
  · have hr : 0 < (c2 :: r2).length := by simp
    generalize c2 :: r2 = r at *
    by_cases n0 : nd m = 0
    · by_cases hc : c = 46
      · by_cases hd : nd r = r.length
        · exact rX m _ r c _ w hs rfl rfl ht (Lib.hid n0) hr hc hd
        · exact pP m _ r c _ w hs rfl rfl ht (Lib.hid n0) hr hc hd
      · exact pO m _ r c _ w hs rfl rfl ht (Lib.hid n0) hr hc
    · by_cases hc : c = 46
      · by_cases hd : nd r = r.length
        · subst hc
          have rp := fO (b := true) (by omega) ht hr hd; have dg : ∀ c ∈ m.take (nd m) ++ br r, isD c = true := fun c hc => by rcases List.mem_append.1 hc with h | h; exact eN m c h; exact jm hd c h
          have ll : (m.take (nd m) ++ br r).length = nd m + 4 := by rw [List.length_append, dk, List.length_take]; omega
          have lw : (m.take (nd m)).length = nd m := by rw [List.length_take]; omega
          by_cases h5 : 53 ≤ (ed r).toNat
          · exact qb m _ r 46 _ w hs rfl rfl ht (by omega) hr rfl hd (pad r) (br r) _ rfl (fE r) rfl rfl ll lw (dk r) (ed r).toNat (fun h => by rw [gZ]) (by omega) dg (Lib.hid (rp.1 h5))
          · exact pZ m _ r 46 _ w hs rfl rfl ht (by omega) hr rfl hd (pad r) (br r) _ rfl (fE r) rfl rfl ll lw (dk r) (ed r).toNat (fun h => by rw [gZ]) (by omega) dg (Lib.hid (rp.2 h5))
        · exact pS m _ r c _ w hs rfl rfl ht (by omega) hr hc hd
      · exact pR m _ r c _ w hs rfl rfl ht (by omega) hr hc
theorem xD (m : List UInt8) (w : World) (hs : m.length ≤ 2000) (hb : ∀ h, ((((ByteArray.mk m.toArray)[0]'h).toNat : Int) == 45) = false) (hl0 : 0 < m.length) : Calls Tryz.prog 175 #[.string ⟨m.toArray⟩] w fun e w' => e = .returned (.tuple #[.int .i64 (Lv.bw false m).1, .int .i64 (Lv.bw false m).2]) ∧ Kept w w' := by
  have ln : nd m ≤ m.length := dL m; rcases ht : m.drop (nd m) with _ | ⟨c, _ | ⟨c2, r2⟩⟩
  · by_cases n0 : nd m = 0
    · exfalso; rw [n0, List.drop_zero] at ht; subst ht; simp at hl0
    · have lm : m.length = nd m := by have := List.drop_eq_nil_iff.1 ht; omega
      exact sd m _ w hs rfl (by rw [← lm, List.take_length]) ht hb (by omega) (by omega) _ rfl (by simp; omega) lm (by intro c hc; rcases List.mem_append.1 hc with h | h; exact lG lm.symm c h; simp at h; subst h; rfl) (Lib.hid (gY (by omega) ht))
  · by_cases n0 : nd m = 0
    · exact pT m _ [] c _ w hs rfl rfl ht hb (by omega) (Lib.hid n0)
    · exact pW m _ [] c _ w hs rfl rfl ht hb (by omega) (by omega)
  · have hr : 0 < (c2 :: r2).length := by simp
    generalize c2 :: r2 = r at *
    by_cases n0 : nd m = 0
    · by_cases hc : c = 46
      · by_cases hd : nd r = r.length
        · exact rY m _ r c _ w hs rfl rfl ht hb (by omega) (Lib.hid n0) hr hc hd
        · exact pV m _ r c _ w hs rfl rfl ht hb (by omega) (Lib.hid n0) hr hc hd
      · exact pU m _ r c _ w hs rfl rfl ht hb (by omega) (Lib.hid n0) hr hc
    · by_cases hc : c = 46
      · by_cases hd : nd r = r.length
        · subst hc
          have rp := fO (b := false) (by omega) ht hr hd; have dg : ∀ c ∈ m.take (nd m) ++ br r, isD c = true := fun c hc => by rcases List.mem_append.1 hc with h | h; exact eN m c h; exact jm hd c h
          have ll : (m.take (nd m) ++ br r).length = nd m + 4 := by rw [List.length_append, dk, List.length_take]; omega
          have lw : (m.take (nd m)).length = nd m := by rw [List.length_take]; omega
          by_cases h5 : 53 ≤ (ed r).toNat
          · exact qd m _ r 46 _ w hs rfl rfl ht hb (by omega) (by omega) hr rfl hd (pad r) (br r) _ rfl (fE r) rfl rfl ll lw (dk r) (ed r).toNat (fun h => by rw [gZ]) (by omega) dg (Lib.hid (rp.1 h5))
          · exact qc m _ r 46 _ w hs rfl rfl ht hb (by omega) (by omega) hr rfl hd (pad r) (br r) _ rfl (fE r) rfl rfl ll lw (dk r) (ed r).toNat (fun h => by rw [gZ]) (by omega) dg (Lib.hid (rp.2 h5))
        · exact pY m _ r c _ w hs rfl rfl ht hb (by omega) (by omega) hr hc hd
      · exact pX m _ r c _ w hs rfl rfl ht hb (by omega) (by omega) hr hc
theorem xE (l : List UInt8) (w : World) (hs : l.length ≤ 2000) : Calls Tryz.prog 175 #[.string ⟨l.toArray⟩] w fun e w' => e = .returned (.tuple #[.int .i64 (cW l).1, .int .i64 (cW l).2]) ∧ Kept w w' := by
  unfold cW; rcases l with _ | ⟨c, m⟩
  · exact sf w
  · by_cases hc : c = 45
    · subst hc
      rw [if_pos (by rfl)]; exact xC m w (by simp at hs; omega)
    · rw [if_neg (by simpa using hc)]
      refine xD (c :: m) w hs (fun h => ?_) (by simp); rw [beq_eq_false_iff_ne]; intro e; apply hc; apply UInt8.toNat_inj.1; exact Int.ofNat_inj.1 e
end
section
open Go.RowKit Lv
theorem lK (a : Int) (w : World) (h : i64 a) : Calls Tryz.prog 145 #[.int .i64 a] w fun e w' => e = .returned (.int .u64 (Lv.abs a)) ∧ w = w' := by
  obtain ⟨h1, h2⟩ := h
  by_cases c : a < 0
  · have e1 : Lv.abs a = -(a + 1) + 1 := by unfold Lv.abs; rw [if_pos c]; omega
    have E := Lib.hid e1; clear e1; go_enter Tryz.func145, Tryz.ntmps145; go_wp2; go_ret; exact ⟨ak E.out.symm, rfl⟩
  · have e1 : Lv.abs a = a := by unfold Lv.abs; rw [if_neg c]
    have E := Lib.hid e1; clear e1; go_enter Tryz.func145, Tryz.ntmps145; go_wp2; go_ret; exact ⟨ak E.out.symm, rfl⟩
theorem Eb {a b c d : Int} (a1 : 0 ≤ a) (a2 : a ≤ 18446744073709551615) (b1 : 0 ≤ b) (b2 : b ≤ 18446744073709551615) (c1 : 0 ≤ c) (c2 : c ≤ 18446744073709551615) (d1 : 0 ≤ d) (d2 : d ≤ 18446744073709551615) :
    (IntKind.u64.wrap (b + d) = aK (wd a b + wd c d)) ∧ (IntKind.u64.wrap (b + d) < b → IntKind.u64.wrap (IntKind.u64.wrap (a + c) + 1) = aF (wd a b + wd c d)) ∧ (b ≤ IntKind.u64.wrap (b + d) → IntKind.u64.wrap (a + c) = aF (wd a b + wd c d)) := by
  simp only [gW, aK, aF, wd]
  refine ⟨by omega, fun h => by omega, fun h => by omega⟩
theorem bE (a b c d : Int) (w : World) (ha : u64 a) (hb : u64 b) (hc : u64 c) (hd : u64 d) :
    Calls Tryz.prog 124 #[.agg #[.int .u64 a, .int .u64 b], .agg #[.int .u64 c, .int .u64 d]] w fun e w' => e = .returned (.agg #[.int .u64 (aF (wd a b + wd c d)), .int .u64 (aK (wd a b + wd c d))]) ∧ Kept w w' := by
  obtain ⟨a1, a2⟩ := ha; obtain ⟨b1, b2⟩ := hb; obtain ⟨c1, c2⟩ := hc; obtain ⟨d1, d2⟩ := hd; have H := Lib.hid (Eb a1 a2 b1 b2 c1 c2 d1 d2); go_enter Tryz.func124, Tryz.ntmps124; go_wp2
  · exact bodyPost_ret (v := .agg #[_, _]) (by simp [results, Tryz.results124, go_sem]) rfl ⟨lj (H.out.2.1 (by assumption)) H.out.1, kpt⟩
  · exact bodyPost_ret (v := .agg #[_, _]) (by simp [results, Tryz.results124, go_sem]) rfl ⟨lj (H.out.2.2 (by assumption)) H.out.1, kpt⟩
theorem bm (hi lo : Int) (ng : Bool) (w : World) (h : u64 hi) (h' : u64 lo) :
    Calls Tryz.prog 126 #[.agg #[.int .u64 hi, .int .u64 lo], .bool ng] w fun e w' => e = .returned (.tuple #[.int .i64 (fit (sg ng (wd hi lo))).1, .bool (fit (sg ng (wd hi lo))).2]) ∧ Kept w w' := by
  obtain ⟨h1, h2⟩ := h; obtain ⟨h3, h4⟩ := h'
  by_cases c : hi = 0
  · subst c
    by_cases c2 : lo ≤ 9223372036854775807
    · have e1 : fit (sg ng (wd 0 lo)) = (sg ng lo, true) := by
        rw [show wd 0 lo = lo by unfold wd; omega]
        cases ng
        · exact dF (by simp [sg]; omega) (by simp [sg]; omega)
        · exact dF (by simp [sg]; omega) (by simp [sg]; omega)
      rw [e1]
      cases ng
      · go_enter Tryz.func126, Tryz.ntmps126
        go_wp2; go_ret2; exact ⟨rfl, kpt⟩
      · go_enter Tryz.func126, Tryz.ntmps126
        go_wp2; go_ret2; exact ⟨rfl, kpt⟩
    · have e1 : fit (sg ng (wd 0 lo)) = (0, false) := by
        refine dB ?_; unfold wd; cases ng <;> simp only [sg] <;> simp <;> omega
      rw [e1]; go_enter Tryz.func126, Tryz.ntmps126; go_wp2; go_ret2; exact ⟨rfl, kpt⟩
  · have e1 : fit (sg ng (wd hi lo)) = (0, false) := by
      refine dB ?_; unfold wd; cases ng <;> simp only [sg] <;> simp <;> omega
    rw [e1]; have c' : (hi != 0) = true := by rw [bne_iff_ne]; exact c
    go_enter Tryz.func126, Tryz.ntmps126; go_wp2; go_ret2; exact ⟨rfl, kpt⟩
theorem xF {p q r s : Int} (p0 : 0 ≤ p) (p1 : p ≤ 18446744065119617025) (q0 : 0 ≤ q) (q1 : q ≤ 18446744065119617025) (r0 : 0 ≤ r) (r1 : r ≤ 18446744065119617025) (s0 : 0 ≤ s) (s1 : s ≤ 18446744065119617025)
    (h : p * 18446744073709551616 + (q + r) * 4294967296 + s < 340282366920938463463374607431768211456) :
    wd (aF (wd p s + wd (q / 4294967296) (q % 4294967296 * 4294967296))) (aK (wd p s + wd (q / 4294967296) (q % 4294967296 * 4294967296))) + wd (r / 4294967296) (r % 4294967296 * 4294967296) = p * 18446744073709551616 + (q + r) * 4294967296 + s := by
  rw [xp]; unfold wd
  omega
theorem jn {a b : Int} (a0 : 0 ≤ a) (a1 : a ≤ 4294967295) (b0 : 0 ≤ b) (b1 : b ≤ 4294967295) : 0 ≤ a * b ∧ a * b ≤ 18446744065119617025 := prod_bound a b a0 a1 b0 b1
theorem cx (a b : Int) (w : World) (ha : u64 a) (hb : u64 b) :
    Calls Tryz.prog 125 #[.int .u64 a, .int .u64 b] w fun e w' => e = .returned (.agg #[.int .u64 (aF (a * b)), .int .u64 (aK (a * b))]) ∧ Kept w w' := by
  obtain ⟨a1, a2⟩ := ha; obtain ⟨b1, b2⟩ := hb; have al0 : 0 ≤ a % 4294967296 := by omega
  have al1 : a % 4294967296 ≤ 4294967295 := by omega
  have ah0 : 0 ≤ a / 4294967296 := by omega
  have ah1 : a / 4294967296 ≤ 4294967295 := by omega
  have bl0 : 0 ≤ b % 4294967296 := by omega
  have bl1 : b % 4294967296 ≤ 4294967295 := by omega
  have bh0 : 0 ≤ b / 4294967296 := by omega
  have bh1 : b / 4294967296 ≤ 4294967295 := by omega
  have p := jn ah0 ah1 bh0 bh1; have q := jn ah0 ah1 bl0 bl1; have r := jn al0 al1 bh0 bh1; have s := jn al0 al1 bl0 bl1; obtain ⟨p0, p1⟩ := p; obtain ⟨q0, q1⟩ := q; obtain ⟨r0, r1⟩ := r; obtain ⟨s0, s1⟩ := s
  have e : a * b = (a / 4294967296 * (b / 4294967296)) * 18446744073709551616 + (a / 4294967296 * (b % 4294967296) + a % 4294967296 * (b / 4294967296)) * 4294967296 + a % 4294967296 * (b % 4294967296) := by
    have h1 : a = a / 4294967296 * 4294967296 + a % 4294967296 := by omega
    have h2 : b = b / 4294967296 * 4294967296 + b % 4294967296 := by omega
    generalize a / 4294967296 = x1 at *; generalize a % 4294967296 = x0 at *; generalize b / 4294967296 = y1 at *; generalize b % 4294967296 = y0 at *; subst h1; subst h2
    grind
  have lt : a * b < 340282366920938463463374607431768211456 := by
    have h1 : a * b ≤ a * 18446744073709551615 := Int.mul_le_mul_of_nonneg_left b2 a1
    omega
  rw [e] at lt; have T := Lib.hid (xF p0 p1 q0 q1 r0 r1 s0 s1 lt); rw [← e] at T; clear e lt; go_enter Tryz.func125, Tryz.ntmps125; go_wp2_with fail; refine (bE _ _ _ _ _ ⟨by omega, by omega⟩ ⟨by omega, by omega⟩ ⟨by omega, by omega⟩ ⟨by omega, by omega⟩).mono ?_; rintro e w1 ⟨rfl, hk1⟩; obtain ⟨hk1c, hk1f⟩ := bP hk1; have hk1z := Below.size hk1
  try simp only [World.size_alloc, World.size_setCell] at hk1z hk1c hk1f
  try have hk1x : w.heap.size ≤ w1.heap.size := by omega
  try have hk1y := Nat.lt_of_succ_le hk1z
  try have hk1x2 : w.heap.size < w1.heap.size := by omega
  try have hk1w : w.heap.size + 1 < w1.heap.size := by omega
  go_wp2_with fail; refine (bE _ _ _ _ _ (aQ _) (aO _) ⟨by omega, by omega⟩ ⟨by omega, by omega⟩).mono ?_; rintro e w2 ⟨rfl, hk2⟩; obtain ⟨hk2c, hk2f⟩ := bP hk2; have hk2z := Below.size hk2
  try simp only [World.size_alloc, World.size_setCell] at hk2z hk2c hk2f
  try have hk2x : w.heap.size ≤ w2.heap.size := by omega
  try have hk2y := Nat.lt_of_succ_le hk2z
  try have hk2x2 : w.heap.size < w2.heap.size := by omega
  try have hk2w : w.heap.size + 1 < w2.heap.size := by omega
  have T' := T.out; have q0 : w2.cell? ⟨w.heap.size, 0, none⟩ = some (.int .u64 0) := by rw [hk2c _ _ (by omega)]; go_simp
  have q1 : w2.cell? ⟨w.heap.size, 1, none⟩ = some (.int .u64 0) := by rw [hk2c _ _ (by omega)]; go_simp
  go_wp2_with fail; exact bodyPost_ret (v := .agg #[.int .u64 (aF (a * b)), .int .u64 (aK (a * b))]) (by simp [results, Tryz.results125, go_sem, q0, q1]) rfl ⟨rfl, kpt⟩
end
section
open Go.RowKit Lv
