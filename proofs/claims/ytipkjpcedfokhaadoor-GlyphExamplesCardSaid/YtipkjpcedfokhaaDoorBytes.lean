/- Slices of bytes that a call makes itself: appended to, and turned into strings. -/
import Derived.Test.YtipkjpcedfokhaaDoorProg
import Derived.Test.YtipkjpcedfokhaaDoorBase3
import Derived.Lib.AppendStr
import Derived.Laws.BytesArg
import Derived.Laws.AppendOwn
import Derived.Laws.OwnMore
import Derived.OwnWalk
namespace Go.Proofs.YtipkjpcedfokhaaDoor
set_option linter.unusedVariables false
set_option linter.unusedSimpArgs false
open Go.RowKit

/-- a slice value of the call's own that holds these bytes -/
def OwnB (w : World) (base : Nat) (v : Value) (l : List UInt8) : Prop := w.ownsRow base 5 1 v l.length (l.map fun b => Value.int .u8 b.toNat)
theorem OwnB.nil (w : World) (base : Nat) : OwnB w base (.slice none 0 0) [] := World.ownsRow_nil w base _ 1
theorem OwnB.kept {w w' : World} {base : Nat} {v : Value} {l : List UInt8} (h : OwnB w base v l) (k : Kept w w') : OwnB w' base v l := by
  obtain ⟨h1, h2⟩ := h
  refine ⟨h1, ?_⟩
  rcases h2 with h2 | ⟨g, cap, cur, hv, hg, hh, r⟩
  · exact Or.inl h2
  · have hlt : g < w.heap.size := (Array.getElem?_eq_some_iff.1 hh).1
    exact Or.inr ⟨g, cap, cur, hv, hg, (k.block g hlt).trans hh, r⟩
theorem OwnB.alloc {w : World} {base : Nat} {v : Value} {l : List UInt8} (h : OwnB w base v l) (o : Obj) : OwnB (w.alloc o) base v l := h.kept ((Kept.refl w).alloc o)
theorem OwnB.drew {w : World} {base : Nat} {v : Value} {l : List UInt8} (h : OwnB w base v l) : OwnB w.drew base v l := h.kept ((Kept.refl w).drew)
theorem OwnB.drewN {w : World} {base : Nat} {v : Value} {l : List UInt8} (h : OwnB w base v l) (n : Nat) : OwnB (w.drewN n) base v l := h.kept ((Kept.refl w).drewN n)
theorem OwnB.grown {a w w' : World} {base : Nat} {v : Value} {l : List UInt8} (h : OwnB w base v l) (hb : a.heap.size ≤ base) (k : Kept a w) (g : w.grownBy w' v.ownBlock) : Kept a w' :=
  Below.grown k g k.size (fun x hx => Nat.le_trans hb (World.ownsRow.lt h x hx).1)

theorem strOfNums_list (S : List UInt8) : strOfNums (S.map (fun b => (b.toNat : Int))) = ⟨S.toArray⟩ := by
  unfold strOfNums
  congr 1
  congr 1
  rw [List.map_map]
  conv => rhs; rw [← List.map_id S]
  refine List.map_congr_left fun b _ => ?_
  simp
theorem info_u8 : ∃ i, Tryd.prog.info? 5 = some i ∧ i.zero = some (.int .u8 0) ∧ i.size = 1 ∧ i.bytes = 1 := by
  have h : (Tryd.prog.info? 5).map (fun i => (i.zero, i.size, i.bytes)) = some (some (.int .u8 0), 1, 1) := by kernel_rfl
  cases hi : Tryd.prog.info? 5 with
  | none => rw [hi] at h; cases h
  | some i =>
    rw [hi] at h
    simp at h
    exact ⟨i, rfl, h.1, h.2.1, h.2.2⟩

theorem strCells_of (l : List UInt8) : Lib.strCells ⟨l.toArray⟩ = l.map fun b => Value.int .u8 b.toNat := rfl

/-- 'append(v, c)' of one byte -/
theorem append_byte {ops : Array Oper} {rest : List Oper} {o : Oper} {a : Act} {w : World} {Q : Exit → Act → World → Prop} (hgd : o.guard = none) (s x : Operand)
    (ho : o.op = .call { callee := .builtin .append, args := #[s, x], argTypes := #[70, 70] })
    (base : Nat) (v : Value) (l : List UInt8) (hs : a.eval s = v) (hown : OwnB w base v l) (g c : Nat) (n : Int) (b : UInt8) (hb : n = b.toNat)
    (hx : a.eval x = .slice (some ⟨g, 0, none⟩) 1 c) (hc : w.cell? ⟨g, 0, none⟩ = some (.int .u8 n)) (hl : l.length + 1 ≤ 140737488355328) (hbase : base ≤ w.heap.size)
    (h : ∀ v' w', OwnB w' base v' (l ++ [b]) → w.grownBy w' v.ownBlock → wpList Tryd.prog ops Q rest (a.put o.dst v') w') : wpList Tryd.prog ops Q (o :: rest) a w := by
  obtain ⟨i, hi, hz, h1, h2⟩ := info_u8
  refine wpList_append_own w hgd s x 70 ho base 5 i (.int .u8 0) 1 1 Tryd.underlying70 hi hz h1 h2 rfl (by decide) v l.length _ hs hown ⟨g, 0, none⟩ 1 c [.int .u8 n] hx rfl ?_ ?_ ?_ ?_ hbase ?_
  · intro j u hj
    match j, hj with
    | 0, hj => simp at hj; subst hj; exact hc
  · intro u hu; simp at hu; subst hu; rfl
  · simp only [maxLen]; omega
  · omega
  · intro v' w' ho' hg _
    refine h v' w' ?_ hg
    unfold OwnB
    rw [List.length_append, List.map_append]
    subst hb
    exact ho'

/-- 'append(v, s...)' of a string's bytes -/
theorem append_string {ops : Array Oper} {rest : List Oper} {o : Oper} {a : Act} {w : World} {Q : Exit → Act → World → Prop} (hgd : o.guard = none) (sl x : Operand)
    (ho : o.op = .call { callee := .builtin .append, args := #[sl, x], argTypes := #[70, 9] })
    (base : Nat) (v : Value) (l m : List UInt8) (hs : a.eval sl = v) (hown : OwnB w base v l) (hx : a.eval x = .string ⟨m.toArray⟩) (hl : l.length + m.length ≤ 140737488355328) (hbase : base ≤ w.heap.size)
    (h : ∀ v' w', OwnB w' base v' (l ++ m) → w.grownBy w' v.ownBlock → wpList Tryd.prog ops Q rest (a.put o.dst v') w') : wpList Tryd.prog ops Q (o :: rest) a w := by
  obtain ⟨i, hi, hz, h1, h2⟩ := info_u8
  have hsz : (ByteArray.mk m.toArray).size = m.length := by simp [ByteArray.size]
  refine Lib.wpList_append_own_string w hgd sl x 70 9 ho base 5 i Tryd.underlying70 Tryd.underlying9 hi hz h1 h2 v l.length _ hs hown ⟨m.toArray⟩ hx (by rw [hsz]; simp only [maxLen]; omega) (by rw [hsz]; omega) hbase ?_
  intro v' w' ho' hg _
  refine h v' w' ?_ hg
  unfold OwnB
  rw [List.length_append, List.map_append, ← strCells_of, ← strCells_of, ← hsz]
  exact ho'

/-- the same, the string as it is -/
theorem append_str {ops : Array Oper} {rest : List Oper} {o : Oper} {a : Act} {w : World} {Q : Exit → Act → World → Prop} (hgd : o.guard = none) (sl x : Operand)
    (ho : o.op = .call { callee := .builtin .append, args := #[sl, x], argTypes := #[70, 9] })
    (base : Nat) (v : Value) (l : List UInt8) (s : ByteArray) (hs : a.eval sl = v) (hown : OwnB w base v l) (hx : a.eval x = .string s) (hl : l.length + s.size ≤ 140737488355328) (hbase : base ≤ w.heap.size)
    (h : ∀ v' w', OwnB w' base v' (l ++ s.data.toList) → w.grownBy w' v.ownBlock → wpList Tryd.prog ops Q rest (a.put o.dst v') w') : wpList Tryd.prog ops Q (o :: rest) a w :=
  append_string hgd sl x ho base v l s.data.toList hs hown hx (by show l.length + s.data.toList.length ≤ _; rw [Array.length_toList]; exact hl) hbase h

/-- a string's bytes: the last one, and all but the last -/
theorem bytes_of {s : ByteArray} {l : List UInt8} (h : s.data.toList = l) : s = ⟨l.toArray⟩ := by subst h; rfl
theorem size_of_list (l : List UInt8) : (ByteArray.mk l.toArray).size = l.length := rfl
theorem get_of_list (l : List UInt8) (i : Nat) (h : i < (ByteArray.mk l.toArray).size) : (ByteArray.mk l.toArray)[i] = l[i]'h := rfl
theorem last_byte {s : ByteArray} {m : List UInt8} {c : UInt8} (h : s.data.toList = m ++ [c]) (hp : s.size - 1 < s.size) : s[s.size - 1] = c := by
  obtain rfl := bytes_of h
  rw [get_of_list]
  have e : (ByteArray.mk (m ++ [c]).toArray).size - 1 = m.length := by rw [size_of_list, List.length_append]; rfl
  simp only [e]
  exact List.getElem_concat_length rfl _
theorem extract_list (l : List UInt8) (i j : Nat) : ((ByteArray.mk l.toArray).extract i j).data.toList = (l.take j).drop i := by
  rw [ByteArray.data_extract, Array.toList_extract]
  show (l.extract i j) = _
  rw [List.extract_eq_take_drop, List.drop_take]
theorem but_last {s : ByteArray} {m : List UInt8} {c : UInt8} (h : s.data.toList = m ++ [c]) : (s.extract 0 (s.size - 1)).data.toList = m := by
  obtain rfl := bytes_of h
  rw [extract_list, size_of_list, List.length_append, List.length_singleton, Nat.add_sub_cancel, List.drop_zero, List.take_left']
  rfl
theorem size_apart {s : ByteArray} {m : List UInt8} {c : UInt8} (h : s.data.toList = m ++ [c]) : s.size = m.length + 1 := by
  obtain rfl := bytes_of h
  rw [size_of_list, List.length_append]; rfl
theorem size_toList (s : ByteArray) : s.data.toList.length = s.size := rfl
theorem tail_bytes (c : UInt8) (f : List UInt8) : ((⟨(c :: f).toArray⟩ : ByteArray).extract 1 (f.length + 1)).data.toList = f := by
  rw [extract_list, List.take_of_length_le (by simp)]; rfl
/-- 'string(v)' -/
theorem conv_own {w : World} {base : Nat} {v : Value} {l : List UInt8} (h : OwnB w base v l) : (convert 70 9 v).run Tryd.prog w = .ok (.string ⟨l.toArray⟩) w := by
  rcases h.2 with ⟨rfl, h0⟩ | ⟨g, cap, cur, rfl, _, hh, h4, h5, h6, h7⟩
  · have : l = [] := List.eq_nil_of_length_eq_zero h0
    subst this
    exact run_convert_bytes_nil w 70 5 Tryd.underlying70 Tryd.underlying5 0 0 9 Tryd.underlying9
  · have hcells := World.ownsRow.cells h (g := g) rfl
    have := run_convert_bytes_arg (P := Tryd.prog) w 70 5 Tryd.underlying70 Tryd.underlying5 g 0 l.length cap (l.map fun b => (b.toNat : Int)) (by simp)
      (fun i hi => by
        have hc := hcells i (.int .u8 (l.getD i 0).toNat) (by simp [hi])
        rw [Go.WideShapes.add_plain] at hc
        rw [hc]
        simp [hi]) 9 Tryd.underlying9
    rw [this, strOfNums_list]
end Go.Proofs.YtipkjpcedfokhaaDoor
