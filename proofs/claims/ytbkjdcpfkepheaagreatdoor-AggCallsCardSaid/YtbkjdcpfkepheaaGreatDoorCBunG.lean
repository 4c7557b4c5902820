/- BunG: the texts Strs, GClose, GUpper, GPlain, GRef1, GQuote, GComp, GTrim, GWithout, GRef2, GUnq, GMany together. -/
import Derived.Test.YtbkjdcpfkepheaaGreatDoorCBunW
import Derived.Lib.ConvBytes
import Derived.Shelf.Abstract
import Derived.Test.YtbkjdcpfkepheaaGreatDoorCBunM
import Derived.Test.YtbkjdcpfkepheaaGreatDoorCShelf
import Derived.Lib.ReplaceLaws
import Derived.Laws.Cover1
import Derived.WalkMore
set_option linter.unusedVariables false
set_option linter.unusedSimpArgs false
set_option maxHeartbeats 800000
set_option maxRecDepth 100000
namespace Go.Proofs.YtbkjdcpfkepheaaGreatDoor
section
open Go.RowKit
abbrev vx (p : List UInt8) : Value := .string ⟨p.toArray⟩
def OwnS (w : World) (base : Nat) (v : Value) (l : List (List UInt8)) : Prop := w.ownsRow base 9 1 v l.length (l.map vx)
theorem OwnS.nil (w : World) (base : Nat) : OwnS w base (.slice none 0 0) [] := World.ownsRow_nil w base _ 1
theorem OwnS.kept {w w' : World} {base : Nat} {v : Value} {l : List (List UInt8)} (h : OwnS w base v l) (k : Kept w w') : OwnS w' base v l := by
  obtain ⟨h1, h2⟩ := h; refine ⟨h1, ?_⟩; rcases h2 with h2 | ⟨g, cap, cur, hv, hg, hh, r⟩
  · exact Or.inl h2
  · have hlt : g < w.heap.size := (Array.getElem?_eq_some_iff.1 hh).1
    exact Or.inr ⟨g, cap, cur, hv, hg, (k.block g hlt).trans hh, r⟩
theorem OwnS.alloc {w : World} {base : Nat} {v : Value} {l : List (List UInt8)} (h : OwnS w base v l) (o : Obj) : OwnS (w.alloc o) base v l := h.kept ((Kept.refl w).alloc o)
theorem OwnS.grown {a w w' : World} {base : Nat} {v : Value} {l : List (List UInt8)} (h : OwnS w base v l) (hb : a.heap.size ≤ base) (k : Kept a w) (g : w.grownBy w' v.ownBlock) : Kept a w' :=
  Below.grown k g k.size (fun x hx => Nat.le_trans hb (World.ownsRow.lt h x hx).1)
theorem Br : ∃ i, Tryz.prog.info? 9 = some i ∧ i.zero = some (.string ⟨#[]⟩) ∧ i.size = 1 ∧ i.bytes = 16 := by
  have h : (Tryz.prog.info? 9).map (fun i => (i.zero, i.size, i.bytes)) = some (some (.string ⟨#[]⟩), 1, 16) := by kernel_rfl
  cases hi : Tryz.prog.info? 9 with
  | none => rw [hi] at h; cases h
  | some i =>
    rw [hi] at h
    simp at h
    exact ⟨i, rfl, h.1, h.2.1, h.2.2⟩
theorem mU {ops : Array Oper} {rest : List Oper} {o : Oper} {a : Act} {w : World} {Q : Exit → Act → World → Prop} (hgd : o.guard = none) (s x : Operand)
    (ho : o.op = .call { callee := .builtin .append, args := #[s, x], argTypes := #[206, 206] })
    (base : Nat) (v : Value) (l : List (List UInt8)) (hs : a.eval s = v) (hown : OwnS w base v l) (g c : Nat) (p : List UInt8)
    (hx : a.eval x = .slice (some ⟨g, 0, none⟩) 1 c) (hc : w.cell? ⟨g, 0, none⟩ = some (vx p)) (hl : l.length + 1 ≤ 2000000) (hbase : base ≤ w.heap.size)
    (h : ∀ v' w', OwnS w' base v' (l ++ [p]) → w.grownBy w' v.ownBlock → wpList Tryz.prog ops Q rest (a.put o.dst v') w') : wpList Tryz.prog ops Q (o :: rest) a w := by
  obtain ⟨i, hi, hz, h1, h2⟩ := Br; refine wpList_append_own w hgd s x 206 ho base 9 i (.string ⟨#[]⟩) 1 16 Tryz.underlying206 hi hz h1 h2 rfl (by decide) v l.length _ hs hown ⟨g, 0, none⟩ 1 c [vx p] hx rfl ?_ ?_ ?_ ?_ hbase ?_
  · intro j u hj
    match j, hj with
    | 0, hj => simp at hj; subst hj; exact hc
  · intro u hu; simp at hu; subst hu; rfl
  · simp only [maxLen]; omega
  · omega
  · intro v' w' ho' hg _
    refine h v' w' ?_ hg; unfold OwnS; rw [List.length_append, List.map_append]; exact ho'
theorem OwnS.row {w : World} {base : Nat} {v : Value} {l : List (List UInt8)} (h : OwnS w base v l) :
    (l = [] ∧ v = .slice none 0 0) ∨ ∃ g cap, v = .slice (some ⟨g, 0, none⟩) l.length cap ∧ l.length ≤ cap ∧ g < w.heap.size ∧ ∀ j p, l[j]? = some p → w.cell? ⟨g, 0 + j, none⟩ = some (vx p) := by
  rcases h.2 with ⟨rfl, h0⟩ | ⟨g, cap, cur, rfl, _, hh, h4, h5, h6, h7⟩
  · exact Or.inl ⟨List.eq_nil_of_length_eq_zero h0, rfl⟩
  · have hcells := World.ownsRow.cells h (g := g) rfl
    refine Or.inr ⟨g, cap, rfl, h4, (Array.getElem?_eq_some_iff.1 hh).1, fun j p hj => ?_⟩; have hc := hcells j (vx p) (by simp [hj]); rw [Go.WideShapes.add_plain] at hc; exact hc
end
section
open Go.RowKit
def Lot (w : World) (g : Nat) (t : TypeId) (cs : Array Value) (f : Nat) : Prop := ∃ e, w.heap[g]? = some (.cells cs t (f, e))
section
variable {w w' : World} {g f : Nat} {t : TypeId} {cs : Array Value}
theorem Lot.inside (h : Lot w g t cs f) : g < w.heap.size := by obtain ⟨e, h⟩ := h; exact (Array.getElem?_eq_some_iff.1 h).1
theorem Lot.cell (h : Lot w g t cs f) (i : Nat) : w.cell? ⟨g, i, none⟩ = cs[i]? := by obtain ⟨e, h⟩ := h; exact cell_of_row w g i cs t (f, e) h
theorem Lot.loose (h : Lot w g t cs f) {i : Nat} (hi : i < f) : w.frozen? ⟨g, i, none⟩ = false := by
  obtain ⟨e, h⟩ := h
  simp only [World.frozen?, h]
  simp; omega
theorem Lot.drew (h : Lot w g t cs f) : Lot w.drew g t cs f := h
theorem Lot.drewN (h : Lot w g t cs f) (n : Nat) : Lot (w.drewN n) g t cs f := by
  induction n with
  | zero => exact h
  | succ n ih => exact ih
theorem Lot.alloc (h : Lot w g t cs f) (o : Obj) : Lot (w.alloc o) g t cs f := by
  have hi := h.inside; obtain ⟨e, h⟩ := h; exact ⟨e, (Below.heap_alloc w o g hi).trans h⟩
theorem Lot.kept (k : Kept w w') (h : Lot w g t cs f) : Lot w' g t cs f := by
  have hi := h.inside; obtain ⟨e, h⟩ := h; exact ⟨e, (k.block g hi).trans h⟩
theorem Lot.at_ (h : Lot w g t cs f) (i : Nat) (u : Value) : Lot (w.setCell ⟨g, i, none⟩ u) g t (cs.setIfInBounds i u) f := by
  obtain ⟨e, h⟩ := h; refine ⟨e, ?_⟩
  simp only [World.setCell, Array.getElem?_modify, h]
  simp
end
def Tells (cs : Array Value) (n : Nat) (f : Nat → Nat) : Prop := ∀ j, j < n → cs[j]? = some (.int .u8 (f j))
theorem Tells.set {cs : Array Value} {n k : Nat} {f : Nat → Nat} (h : Tells cs n f) (hk : k < n) (x : Nat) : Tells (cs.setIfInBounds k (.int .u8 x)) n (fun j => if j = k then x else f j) := fun j hj => by
  have hs : k < cs.size := by
    have := h k hk; exact (Array.getElem?_eq_some_iff.1 this).1
  by_cases e : j = k
  · subst e
    simp [Array.getElem?_setIfInBounds_self, hs]
  · rw [Array.getElem?_setIfInBounds_ne (by omega)]
    simp only [if_neg e]
    exact h j hj
theorem Ge (c : Nat) (w : World) (hc : c ≤ 255) : Calls Tryz.prog 129 #[.int .u8 c] w fun e w' => e = .returned (.int .u8 ((if c < 32 ∨ 126 < c then 0 else 32 : Nat) : Int)) ∧ w = w' := by
  by_cases h1 : c < 32
  · rw [if_pos (Or.inl h1)]
    go_enter Tryz.func129, Tryz.ntmps129; go_wp2_with fail; go_ret; exact ⟨rfl, rfl⟩
  · by_cases h2 : 126 < c
    · rw [if_pos (Or.inr h2)]
      go_enter Tryz.func129, Tryz.ntmps129; go_wp2_with fail; go_ret; exact ⟨rfl, rfl⟩
    · rw [if_neg (by omega)]
      go_enter Tryz.func129, Tryz.ntmps129; go_wp2_with fail; go_ret; exact ⟨rfl, rfl⟩
theorem Gf (c : Nat) (w : World) : Calls Tryz.prog 130 #[.int .i32 c] w fun e w' => e = .returned (.bool (decide (c = 0))) ∧ w = w' := by
  by_cases h1 : c = 0
  · subst h1
    go_enter Tryz.func130, Tryz.ntmps130; go_wp2_with fail; go_ret; exact ⟨rfl, rfl⟩
  · have h2 : ((c : Int) == 0) = false := by rw [beq_eq_false_iff_ne]; omega
    rw [decide_eq_false h1]; go_enter Tryz.func130, Tryz.ntmps130; go_wp2_with fail; go_ret; exact ⟨rfl, rfl⟩
theorem lL (w : World) (l : List UInt8) : ∃ cs f, l.length ≤ f ∧ Lot (Lib.bytesWorld w 5 ⟨l.toArray⟩) w.heap.size 5 cs f ∧ Tells cs l.length (fun j => (l.getD j 0).toNat) := by
  refine ⟨_, _, ?_, ⟨_, Lib.bytesWorld_at_new w _ _⟩, fun j hj => ?_⟩
  · rcases Nat.lt_or_ge (Lib.bytesCells w 5 ⟨l.toArray⟩).size l.length with h | h
    · exfalso
      have hc := Lib.bytesWorld_cell w 5 ⟨l.toArray⟩ (Lib.bytesCells w 5 ⟨l.toArray⟩).size h; rw [cell_of_row _ _ _ _ _ _ (Lib.bytesWorld_at_new w _ _)] at hc
      simp at hc
    · exact h
  · have hc := Lib.bytesWorld_cell w 5 ⟨l.toArray⟩ j hj
    rw [cell_of_row _ _ _ _ _ _ (Lib.bytesWorld_at_new w _ _)] at hc; exact hc
theorem vy (F : Nat → Nat) (l : List UInt8) (w : World) (hl : l.length ≤ 1000000)
    (hp : Hid (∀ W (c : Nat), c ≤ 255 → Kept w W → Calls Tryz.prog 129 #[.int .u8 c] W fun e w' => e = .returned (.int .u8 (F c)) ∧ Kept W w')) (hF : ∀ c, c ≤ 255 → F c ≤ 255) :
    Calls Tryz.prog 128 #[.string ⟨l.toArray⟩, .func (.func 129) #[] #[]] w fun e w' => ∃ cap cs f, e = .returned (.slice (some ⟨w.heap.size, 0, none⟩) l.length cap) ∧ Kept w w' ∧ Lot w' w.heap.size 5 cs f ∧ Tells cs l.length (fun j => F (l.getD j 0).toNat) := by
  have Z := af; have CV := dd; have eg : ∀ args w, (callFunc 129 args).run Tryz.prog w = .ok (.enter 129 args) w := enters_of Tryz.func129 (by kernel_rfl) rfl; obtain ⟨cs0, f, hf, lot0, tel0⟩ := lL w l; have k0 := df w 5 ⟨l.toArray⟩; have HT0 := Lib.hid tel0; have HL0 := Lib.hid lot0; have HF := Lib.hid hF; clear tel0 lot0 hF; go_enter Tryz.func128, Tryz.ntmps128; go_wp2_with fail; generalize Lib.bytesWorld w 5 ⟨l.toArray⟩ = w0 at *; clear CV
  go_loopw [12] (fun i wr => ∃ (k : Nat) (cs : Array Value), k ≤ l.length ∧ i = .int .i64 k ∧ Kept w wr ∧ Lot wr w.heap.size 5 cs f ∧ Tells cs l.length (fun j => if j < k then F (l.getD j 0).toNat else (l.getD j 0).toNat)) (fun i _ => l.length - (intOf i).toNat)
  case atStart => exact ⟨0, cs0, by omega, rfl, k0, HL0.out, fun j hj => by rw [HT0.out j hj]; rfl⟩
  case round =>
    obtain ⟨k, cs, hk, rfl, hkept, lot, tel⟩ := hrel
    by_cases c : k < l.length
    · have hc := (lot.cell k).trans (tel k c)
      simp only [Nat.lt_irrefl, if_false] at hc
      have hb : (l.getD k 0).toNat ≤ 255 := by have := (l.getD k 0).toNat_lt; omega
      have HT := Lib.hid tel; have HL := Lib.hid lot; have hq := Lib.hid (hp.out wr (l.getD k 0).toNat hb hkept); have hFb := HF.out _ hb; obtain ⟨ch, hch⟩ : ∃ ch, ch = (l.getD k 0).toNat := ⟨_, rfl⟩; rw [← hch] at hc hb hq hFb; have HC := Lib.hid hch; obtain ⟨fc, hfc⟩ : ∃ fc, fc = F ch := ⟨_, rfl⟩; rw [← hfc] at hq hFb; have HFC := Lib.hid hfc; clear tel lot hch hfc; go_wp2_with fail; clear Z
      go_simp
      refine hq.out.mono ?_; rintro e w1 ⟨rfl, k1⟩; have hl1 := (HL.out.kept k1).loose (i := k) (by omega); have hl2 := ((HL.out.kept k1).cell k).trans (HT.out k c); go_wp2_with fail
      go_roundw
      case rel =>
        refine ⟨k + 1, _, by omega, by go_num, Kept.setCell (hkept.trans k1) (by simp) _, (HL.out.kept k1).at_ k _, fun j hj => ?_⟩; rw [(HT.out.set c fc) j hj]
        by_cases e : j = k
        · subst e
          simp only [if_true, if_pos (Nat.lt_succ_self j)]
          rw [HFC.out, HC.out]
        · simp only [if_neg e]
          by_cases e2 : j < k
          · rw [if_pos e2, if_pos (by omega)]
          · rw [if_neg e2, if_neg (by omega)]
      case measure => (simp [intOf]; try omega)
    · obtain rfl : k = l.length := by omega
      have HT := Lib.hid tel; clear tel; go_wp2_with fail; go_ret; exact ⟨_, cs, f, rfl, hkept, lot, fun j hj => by rw [HT.out j hj]; simp only [if_pos hj]⟩
theorem vz (p q : Addr) (F : Nat → Nat) (l : List UInt8) (w : World) (hl : l.length ≤ 1000000)
    (hp : Hid (∀ W (c : Nat), c ≤ 255 → Kept w W → Calls Tryz.prog 147 #[.int .u8 c, .pointer (some p), .pointer (some q)] W fun e w' => e = .returned (.int .u8 (F c)) ∧ Kept W w')) (hF : ∀ c, c ≤ 255 → F c ≤ 255) :
    Calls Tryz.prog 128 #[.string ⟨l.toArray⟩, .func (.func 147) #[] #[.pointer (some p), .pointer (some q)]] w fun e w' => ∃ cap cs f, e = .returned (.slice (some ⟨w.heap.size, 0, none⟩) l.length cap) ∧ Kept w w' ∧ Lot w' w.heap.size 5 cs f ∧ Tells cs l.length (fun j => F (l.getD j 0).toNat) := by
  have Z := af; have CV := dd; have eg : ∀ args w, (callFunc 147 args).run Tryz.prog w = .ok (.enter 147 args) w := enters_of Tryz.func147 (by kernel_rfl) rfl; obtain ⟨cs0, f, hf, lot0, tel0⟩ := lL w l; have k0 := df w 5 ⟨l.toArray⟩; have HT0 := Lib.hid tel0; have HL0 := Lib.hid lot0; have HF := Lib.hid hF; clear tel0 lot0 hF; go_enter Tryz.func128, Tryz.ntmps128; go_wp2_with fail; generalize Lib.bytesWorld w 5 ⟨l.toArray⟩ = w0 at *; clear CV
  go_loopw [12] (fun i wr => ∃ (k : Nat) (cs : Array Value), k ≤ l.length ∧ i = .int .i64 k ∧ Kept w wr ∧ Lot wr w.heap.size 5 cs f ∧ Tells cs l.length (fun j => if j < k then F (l.getD j 0).toNat else (l.getD j 0).toNat)) (fun i _ => l.length - (intOf i).toNat)
  case atStart => exact ⟨0, cs0, by omega, rfl, k0, HL0.out, fun j hj => by rw [HT0.out j hj]; rfl⟩
  case round =>
    obtain ⟨k, cs, hk, rfl, hkept, lot, tel⟩ := hrel
    by_cases c : k < l.length
    · have hc := (lot.cell k).trans (tel k c)
      simp only [Nat.lt_irrefl, if_false] at hc
      have hb : (l.getD k 0).toNat ≤ 255 := by have := (l.getD k 0).toNat_lt; omega
      have HT := Lib.hid tel; have HL := Lib.hid lot; have hq := Lib.hid (hp.out wr (l.getD k 0).toNat hb hkept); have hFb := HF.out _ hb; obtain ⟨ch, hch⟩ : ∃ ch, ch = (l.getD k 0).toNat := ⟨_, rfl⟩; rw [← hch] at hc hb hq hFb; have HC := Lib.hid hch; obtain ⟨fc, hfc⟩ : ∃ fc, fc = F ch := ⟨_, rfl⟩; rw [← hfc] at hq hFb; have HFC := Lib.hid hfc; clear tel lot hch hfc; go_wp2_with fail; clear Z
      go_simp
      refine hq.out.mono ?_; rintro e w1 ⟨rfl, k1⟩; have hl1 := (HL.out.kept k1).loose (i := k) (by omega); have hl2 := ((HL.out.kept k1).cell k).trans (HT.out k c); go_wp2_with fail
      go_roundw
      case rel =>
        refine ⟨k + 1, _, by omega, by go_num, Kept.setCell (hkept.trans k1) (by simp) _, (HL.out.kept k1).at_ k _, fun j hj => ?_⟩; rw [(HT.out.set c fc) j hj]
        by_cases e : j = k
        · subst e
          simp only [if_true, if_pos (Nat.lt_succ_self j)]
          rw [HFC.out, HC.out]
        · simp only [if_neg e]
          by_cases e2 : j < k
          · rw [if_pos e2, if_pos (by omega)]
          · rw [if_neg e2, if_neg (by omega)]
      case measure => (simp [intOf]; try omega)
    · obtain rfl : k = l.length := by omega
      have HT := Lib.hid tel; clear tel; go_wp2_with fail; go_ret; exact ⟨_, cs, f, rfl, hkept, lot, fun j hj => by rw [HT.out j hj]; simp only [if_pos hj]⟩
end
section
open Go.RowKit Lv
theorem H2 (p q c : Nat) (w : World) (hc : c ≤ 255) (h1 : w.cell? ⟨p, 0, none⟩ = some (.int .u8 97)) (h2 : w.cell? ⟨q, 0, none⟩ = some (.int .i64 (-32))) :
    Calls Tryz.prog 147 #[.int .u8 c, .pointer (some ⟨p, 0, none⟩), .pointer (some ⟨q, 0, none⟩)] w fun e w' => e = .returned (.int .u8 (up8 c : Nat)) ∧ Kept w w' := by
  by_cases c1 : 97 ≤ c
  · by_cases c2 : c ≤ 122
    · have e : Hid (((up8 c : Nat) : Int) = (c : Int) + (-32)) := by show _ = _; unfold up8; rw [if_pos ⟨c1, c2⟩]; omega
      go_enter Tryz.func147, Tryz.ntmps147; go_wp2_with fail; go_ret; exact ⟨ak e.out.symm, kpt⟩
    · have e : Hid (((up8 c : Nat) : Int) = (c : Int)) := by show _ = _; unfold up8; rw [if_neg (by omega)]
      go_enter Tryz.func147, Tryz.ntmps147; go_wp2_with fail; go_ret; exact ⟨ak e.out.symm, kpt⟩
  · have e : Hid (((up8 c : Nat) : Int) = (c : Int)) := by show _ = _; unfold up8; rw [if_neg (by omega)]
    go_enter Tryz.func147, Tryz.ntmps147; go_wp2_with fail; go_ret; exact ⟨ak e.out.symm, kpt⟩
theorem Gg {l m : List UInt8} (h : l = m) : Ending.returned (.string ⟨l.toArray⟩) = .returned (.string ⟨m.toArray⟩) := by rw [h]
theorem oi {w : World} {g f cap : Nat} {cs : Array Value} (l : List UInt8) (lot : Lot w g 5 cs f) (tel : Tells cs l.length (fun j => (l.getD j 0).toNat)) :
    (convert 146 9 (.slice (some ⟨g, 0, none⟩) l.length cap)).run Tryz.prog w = .ok (.string ⟨l.toArray⟩) w := by
  have := run_convert_bytes_arg (P := Tryz.prog) w 146 5 Tryz.underlying146 Tryz.underlying5 g 0 l.length cap (l.map fun b => (b.toNat : Int)) (by simp)
    (fun i hi => by
      rw [Nat.zero_add, lot.cell i, tel i hi]
      simp [hi]) 9 Tryz.underlying9
  rw [this, iv]
theorem lM {cs : Array Value} {l : List UInt8} {F : Nat → Nat} {g : UInt8 → UInt8} (hg : ∀ c : UInt8, (g c).toNat = F c.toNat) (h : Tells cs l.length (fun j => F (l.getD j 0).toNat)) : Tells cs (l.map g).length (fun j => ((l.map g).getD j 0).toNat) := fun j hj => by
  rw [List.length_map] at hj; rw [h j hj]; have e : (l.map g).getD j 0 = g (l.getD j 0) := by simp [List.getD, hj]
  simp only [e, hg]
theorem Bs (l : List UInt8) (w : World) (hl : l.length ≤ 1000000) : Calls Tryz.prog 120 #[.string ⟨l.toArray⟩, .int .u8 97, .int .i64 (-32)] w fun e w' => e = .returned (.string ⟨(l.map upB).toArray⟩) ∧ Kept w w' := by
  have hp : Hid (∀ W (c : Nat), c ≤ 255 → Kept ((w.alloc (.cells #[.int .u8 97] 5)).alloc (.cells #[.int .i64 (-32)] 3)) W → Calls Tryz.prog 147 #[.int .u8 c, .pointer (some ⟨w.heap.size, 0, none⟩), .pointer (some ⟨w.heap.size + 1, 0, none⟩)] W fun e w' => e = .returned (.int .u8 (up8 c : Nat)) ∧ Kept W w') := fun W c hc hW => by
    have hb := bP hW; refine H2 _ _ c W hc ?_ ?_
    · rw [hb.1 _ _ (by simp; omega)]; simp
    · rw [hb.1 _ _ (by simp)]; simp
  have HK : Kept w ((w.alloc (.cells #[.int .u8 97] 5)).alloc (.cells #[.int .i64 (-32)] 3)) := kpt; go_enter Tryz.func120, Tryz.ntmps120; go_wp2_with fail; refine (vz _ _ up8 l _ hl hp (fun c hc => by unfold up8; split <;> omega)).mono ?_; rintro e w1 ⟨cap, cs, f, rfl, k1, lot, tel⟩; have hcv := oi (cap := cap) (l.map upB) lot (lM pF tel); rw [List.length_map] at hcv
  simp only [World.size_alloc] at hcv
  clear hp lot tel; go_wp2_with fail; go_ret; exact ⟨rfl, HK.trans k1⟩
theorem qe (l : List UInt8) (w : World) (hl : l.length ≤ 1000000) : Calls Tryz.prog 87 #[.string ⟨l.toArray⟩] w fun e w' => e = .returned (.string ⟨(gB l).toArray⟩) ∧ Kept w w' := by
  have M := Lib.hid (fun w => Bs l w hl); have E : Hid (l.map upB = gB l) := rfl; generalize l.map upB = m at *; go_enter Tryz.func87, Tryz.ntmps87; go_wp2_with fail; refine (M.out _).mono ?_; rintro e w' ⟨rfl, k1⟩; go_wp2_with fail; go_ret; exact ⟨Gg E.out, kpt⟩
end
section
open Go.RowKit Lv
theorem Ec (w : World) : PredAt Tryz.prog 130 #[] encR (fun n => decide (n = 0)) w := fun W x _ =>
  (Gf x W).mono fun _ _ ⟨h1, h2⟩ => ⟨h1, 0, h2.symm⟩
theorem xG : ∀ args w, (callFunc 130 args).run Tryz.prog w = .ok (.enter 130 args) w := enters_of Tryz.func130 (by kernel_rfl) rfl
theorem oj (l : List UInt8) (w : World) (hl : l.length ≤ 1000000) : Calls Tryz.prog 92 #[.string ⟨l.toArray⟩] w fun e w' => e = .returned (.bool (eG l)) ∧ Kept w w' := by
  have E := Lib.hid (xm l); have I := Lib.hid (fun w => Tryz.strings_IndexFunc 130 #[] xG (fun n => decide (n = 0)) ⟨(l.map prB).toArray⟩ w (Ec w)); go_enter Tryz.func92, Tryz.ntmps92; go_wp2_with fail; refine (vy pr8 l _ hl (Lib.hid fun W c hc _ => (Ge c W hc).mono fun _ _ ⟨h1, h2⟩ => ⟨h1, by subst h2; exact Kept.refl _⟩) (fun c hc => by unfold pr8; split <;> omega)).mono ?_; rintro e w1 ⟨cap, cs, f, rfl, k1, lot, tel⟩; have hcv := oi (cap := cap) (l.map prB) lot (lM pG tel); rw [List.length_map] at hcv; clear lot tel; go_wp2_with fail; refine (I.out _).mono ?_; rintro e w2 ⟨rfl, k2⟩; go_wp2_with fail; go_ret; exact ⟨dM E.out, k1.trans k2⟩
def fF (l : List UInt8) : Int := if 256 < l.length then 5 else if eG l then 0 else 4
theorem xH (l : List UInt8) (w : World) (hl : l.length ≤ 1000000) : Calls Tryz.prog 59 #[.string ⟨l.toArray⟩] w fun e w' => e = .returned (.int .i64 (fF l)) ∧ Kept w w' := by
  have Z := af; have P := Lib.hid (fun w => oj l w hl); have E : Hid (fF l = if 256 < l.length then 5 else if eG l then 0 else 4) := rfl; generalize fF l = d at *
  by_cases c : 256 < l.length
  · rw [if_pos c] at E
    go_enter Tryz.func59, Tryz.ntmps59; go_wp2_with fail; go_ret; exact ⟨ak E.out.symm, kpt⟩
  · rw [if_neg c] at E
    generalize eG l = b at *
    cases b
    · go_enter Tryz.func59, Tryz.ntmps59
      go_wp2_with fail; refine (P.out _).mono ?_; rintro e w' ⟨rfl, k1⟩; go_wp2_with fail; go_ret; exact ⟨ak E.out.symm, kpt⟩
    · go_enter Tryz.func59, Tryz.ntmps59
      go_wp2_with fail; refine (P.out _).mono ?_; rintro e w' ⟨rfl, k1⟩; go_wp2_with fail; go_ret; exact ⟨ak E.out.symm, kpt⟩
end
section
open Go.RowKit Lv
theorem vA {l : List UInt8} {k : Nat} (h : k < l.length) (d : okB l[k] = true) : eG (l.drop k) = eG (l.drop (k + 1)) := by
  rw [List.drop_eq_getElem_cons h]; unfold eG; rw [List.all_cons, d, Bool.true_and]
theorem vB {l : List UInt8} {k : Nat} (h : k < l.length) (d : okB l[k] = false) : eG (l.drop k) = false := by
  rw [List.drop_eq_getElem_cons h]; unfold eG; rw [List.all_cons, d, Bool.false_and]
theorem vC (l : List UInt8) (w : World) (hl : l.length ≤ 1000000) : Calls Tryz.prog 118 #[.string ⟨l.toArray⟩] w fun e w' => e = .returned (.bool (eG l)) ∧ w = w' := by
  have Z := af; have E0 : Hid (eG l = eG (l.drop 0)) := by rw [List.drop_zero]; rfl
  go_enter Tryz.func118, Tryz.ntmps118; go_wp2_with fail
  go_loop [3] (fun i => ∃ k : Nat, k ≤ l.length ∧ i = .int .i64 k ∧ eG l = eG (l.drop k)) (fun i => l.length - (intOf i).toNat)
  case atStart => exact ⟨0, by omega, rfl, E0.out⟩
  case round =>
    obtain ⟨k, hk, rfl, hn⟩ := hrel; have N := Lib.hid hn; clear hn
    by_cases c : k < l.length
    · have ge : ∀ h, (ByteArray.mk l.toArray)[k]'h = l[k] := fun h => rfl
      obtain ⟨ch, hch⟩ : ∃ ch, ch = l[k] := ⟨_, rfl⟩; have q : ∀ h, (((ByteArray.mk l.toArray)[k]'h).toNat : Int) = ch.toNat := fun h => by rw [ge, hch]
      by_cases d : okB ch = true
      · have S := Lib.hid (vA c (by rw [← hch]; exact d))
        have e := of_decide_eq_true d; obtain ⟨e1, e2⟩ := e; clear d ge hch; go_wp2_with fail
        go_round
        case rel => exact ⟨k + 1, by omega, by go_num, by rw [N.out, S.out]⟩
        case measure => (simp [intOf]; try omega)
      · have d' : okB ch = false := by simpa using d
        have S : Hid (eG l = false) := by show _ = _; rw [N.out, vB c (by rw [← hch]; exact d')]
        have e := of_decide_eq_false d'; clear d d' ge hch
        by_cases e1 : ch.toNat < 32
        · clear e
          go_wp2_with fail; go_ret; exact ⟨dM S.out.symm, rfl⟩
        · have e2 : 126 < ch.toNat := by omega
          clear e; go_wp2_with fail; go_ret; exact ⟨dM S.out.symm, rfl⟩
    · obtain rfl : k = l.length := by omega
      have S : Hid (eG l = true) := by show _ = _; rw [N.out, List.drop_length]; rfl
      go_wp2_with fail; go_ret; exact ⟨dM S.out.symm, rfl⟩
theorem vD (l : List UInt8) (w : World) (hl : l.length ≤ 1000000) : Calls Tryz.prog 84 #[.string ⟨l.toArray⟩] w fun e w' => e = .returned (.int .i64 (fF l)) ∧ w = w' := by
  have Z := af; have P := Lib.hid (fun w => vC l w hl); have E : Hid (fF l = if 256 < l.length then 5 else if eG l then 0 else 4) := rfl; generalize fF l = d at *
  by_cases c : 256 < l.length
  · rw [if_pos c] at E
    go_enter Tryz.func84, Tryz.ntmps84; go_wp2_with fail; go_ret; exact ⟨ak E.out.symm, rfl⟩
  · rw [if_neg c] at E
    generalize eG l = b at *
    cases b
    · go_enter Tryz.func84, Tryz.ntmps84
      go_wp2_with fail; refine (P.out _).mono ?_; rintro e w' ⟨rfl, rfl⟩; go_wp2_with fail; go_ret; exact ⟨ak E.out.symm, rfl⟩
    · go_enter Tryz.func84, Tryz.ntmps84
      go_wp2_with fail; refine (P.out _).mono ?_; rintro e w' ⟨rfl, rfl⟩; go_wp2_with fail; go_ret; exact ⟨ak E.out.symm, rfl⟩
theorem nu (l : List UInt8) (w : World) (hl : l.length ≤ 1000000) : Calls Tryz.prog 171 #[.string ⟨l.toArray⟩] w fun e w' => e = .returned (.string ⟨(gB l).toArray⟩) ∧ Kept w w' := by
  have Z := af; have CV := dd; obtain ⟨cs0, f, hf, lot0, tel0⟩ := lL w l; have k0 := df w 5 ⟨l.toArray⟩; have HT0 := Lib.hid tel0; have HL0 := Lib.hid lot0; clear tel0 lot0; go_enter Tryz.func171, Tryz.ntmps171; go_wp2_with fail; generalize Lib.bytesWorld w 5 ⟨l.toArray⟩ = w0 at *; clear CV
  go_loopw [4] (fun i wr => ∃ (k : Nat) (cs : Array Value), k ≤ l.length ∧ i = .int .i64 k ∧ Kept w wr ∧ Lot wr w.heap.size 5 cs f ∧ Tells cs l.length (fun j => if j < k then up8 (l.getD j 0).toNat else (l.getD j 0).toNat)) (fun i _ => l.length - (intOf i).toNat)
  case atStart => exact ⟨0, cs0, by omega, rfl, k0, HL0.out, fun j hj => by rw [HT0.out j hj]; rfl⟩
  case round =>
    obtain ⟨k, cs, hk, rfl, hkept, lot, tel⟩ := hrel
    by_cases c : k < l.length
    · have hc := (lot.cell k).trans (tel k c)
      simp only [Nat.lt_irrefl, if_false] at hc
      have hb : (l.getD k 0).toNat ≤ 255 := by have := (l.getD k 0).toNat_lt; omega
      have hfr := lot.loose (i := k) (by omega); have HT := Lib.hid tel; have HL := Lib.hid lot; obtain ⟨ch, hch⟩ : ∃ ch, ch = (l.getD k 0).toNat := ⟨_, rfl⟩; rw [← hch] at hc hb; have HC := Lib.hid hch; clear tel lot hch
      by_cases c1 : 97 ≤ ch
      · by_cases c2 : ch ≤ 122
        · go_wp2_with fail
          go_roundw
          case rel =>
            refine ⟨k + 1, _, by omega, by go_num, Kept.setCell hkept (by simp) _, HL.out.at_ k _, fun j hj => ?_⟩; rw [show (.int .u8 ((ch : Int) - 32) : Value) = .int .u8 ((ch - 32 : Nat) : Int) by congr 1 <;> omega, (HT.out.set c (ch - 32)) j hj]
            by_cases e : j = k
            · subst e
              simp only [if_true, if_pos (Nat.lt_succ_self j)]
              rw [← HC.out]; unfold up8; rw [if_pos ⟨c1, c2⟩]
            · simp only [if_neg e]
              by_cases e2 : j < k
              · rw [if_pos e2, if_pos (by omega)]
              · rw [if_neg e2, if_neg (by omega)]
          case measure => (simp [intOf]; try omega)
        · go_wp2_with fail
          go_roundw
          case rel =>
            refine ⟨k + 1, cs, by omega, by go_num, hkept, HL.out, fun j hj => ?_⟩; rw [HT.out j hj]
            by_cases e : j = k
            · subst e
              simp only [Nat.lt_irrefl, if_false, if_pos (Nat.lt_succ_self j)]
              rw [← HC.out]; unfold up8; rw [if_neg (by omega)]
            · by_cases e2 : j < k
              · simp only [if_pos e2, if_pos (Nat.lt_succ_of_lt e2)]
              · simp only [if_neg e2, if_neg (show ¬ j < k + 1 by omega)]
          case measure => (simp [intOf]; try omega)
      · go_wp2_with fail
        go_roundw
        case rel =>
          refine ⟨k + 1, cs, by omega, by go_num, hkept, HL.out, fun j hj => ?_⟩; rw [HT.out j hj]
          by_cases e : j = k
          · subst e
            simp only [Nat.lt_irrefl, if_false, if_pos (Nat.lt_succ_self j)]
            rw [← HC.out]; unfold up8; rw [if_neg (by omega)]
          · by_cases e2 : j < k
            · simp only [if_pos e2, if_pos (Nat.lt_succ_of_lt e2)]
            · simp only [if_neg e2, if_neg (show ¬ j < k + 1 by omega)]
        case measure => (simp [intOf]; try omega)
    · obtain rfl : k = l.length := by omega
      have tel2 : Tells cs l.length (fun j => up8 (l.getD j 0).toNat) := fun j hj => by rw [tel j hj]; simp only [if_pos hj]
      have hcv := fun cap => oi (cap := cap) (l.map upB) lot (lM pF tel2); rw [List.length_map] at hcv; clear tel tel2 lot; go_wp2_with fail; go_ret; exact ⟨rfl, hkept⟩
end
section
open Go.RowKit Lv
abbrev Mx (w : World) (m : Int) : Prop := w.cell? ⟨0, 0, none⟩ = some (.int .i64 m)
theorem Mx.kept {w w' : World} {m : Int} (h : Mx w m) (k : Kept w w') : Mx w' m := (k.cell (p := ⟨0, 0, none⟩) (World.block_lt_of_cell? w _ h)).trans h
end
section
open Go.RowKit Lv
def vE (a b : List UInt8) : Int := Lib.compareBytes (gB a) (gB b)
theorem sh (a b : List UInt8) (w : World) (ha : a.length ≤ 1000000) (hb : b.length ≤ 1000000) : Calls Tryz.prog 54 #[.string ⟨a.toArray⟩, .string ⟨b.toArray⟩] w fun e w' => e = .returned (.int .i64 (vE a b)) ∧ Kept w w' := by
  have U := Lib.hid (fun w => qe a w ha); have V := Lib.hid (fun w => qe b w hb); have C := Lib.hid (fun w => Tryz.strings_Compare ⟨(gB a).toArray⟩ ⟨(gB b).toArray⟩ w); have E : Hid (Lib.compareBytes (gB a) (gB b) = vE a b) := rfl; go_enter Tryz.func54, Tryz.ntmps54; go_wp2_with fail; refine (U.out _).mono ?_; rintro e w' ⟨rfl, k1⟩; go_wp2_with fail; refine (V.out _).mono ?_; rintro e w' ⟨rfl, k2⟩; go_wp2_with fail; refine (C.out _).mono ?_; rintro e w' ⟨rfl, k3⟩; subst k3; go_wp2_with fail; go_ret; exact ⟨ak E.out, kpt⟩
theorem qf (a b : List UInt8) (w : World) (ha : a.length ≤ 1000000) (hb : b.length ≤ 1000000) : Calls Tryz.prog 140 #[.string ⟨a.toArray⟩, .string ⟨b.toArray⟩] w fun e w' => e = .returned (.int .i64 (vE a b)) ∧ Kept w w' := by
  have U := Lib.hid (fun w => nu a w ha); have V := Lib.hid (fun w => nu b w hb); have E : Hid (Lib.compareBytes (gB a) (gB b) = vE a b) := rfl; have S := tJ (gB a) (gB b); generalize gB a = x at *; generalize gB b = y at *; generalize vE a b = r at *; have TL : ∀ l : List UInt8, (ByteArray.mk l.toArray).toList = l := fun l => by rw [Lib.toList_data]
  rcases S with ⟨h1, h2⟩ | ⟨h1, h2, h3⟩ | ⟨h1, h2, h3⟩
  · rw [h2] at E
    clear h2; go_enter Tryz.func140, Tryz.ntmps140; go_wp2_with fail; refine (U.out _).mono ?_; rintro e w' ⟨rfl, k1⟩; go_wp2_with fail; refine (V.out _).mono ?_; rintro e w' ⟨rfl, k2⟩; go_wp2_with fail; go_ret; exact ⟨ak E.out, kpt⟩
  · rw [h3] at E
    subst h2; clear h3; go_enter Tryz.func140, Tryz.ntmps140; go_wp2_with fail; refine (U.out _).mono ?_; rintro e w' ⟨rfl, k1⟩; go_wp2_with fail; refine (V.out _).mono ?_; rintro e w' ⟨rfl, k2⟩; go_wp2_with fail; go_ret; exact ⟨ak E.out, kpt⟩
  · rw [h3] at E
    have h4 : (x == y) = false := by simpa using h2
    clear h3 h2; go_enter Tryz.func140, Tryz.ntmps140; go_wp2_with fail; refine (U.out _).mono ?_; rintro e w' ⟨rfl, k1⟩; go_wp2_with fail; refine (V.out _).mono ?_; rintro e w' ⟨rfl, k2⟩; go_wp2_with fail; go_ret; exact ⟨ak E.out, kpt⟩
end
section
open Go.RowKit Lv
theorem qg (l : List UInt8) : (Lib.splitB ⟨#[32]⟩ 0 (Lib.countB ⟨l.toArray⟩ ⟨#[32]⟩) ⟨l.toArray⟩).map Value.string = (pcs l).map vx := by
  have h := Lib.splitB_data ⟨#[32]⟩ 0 (Lib.countB ⟨l.toArray⟩ ⟨#[32]⟩) ⟨l.toArray⟩; have e : Lib.splitK (ByteArray.mk #[32]).data.toList 0 (Lib.countB ⟨l.toArray⟩ ⟨#[32]⟩) (ByteArray.mk l.toArray).data.toList = pcs l := nh _ l (Nat.le_refl _); rw [e] at h; rw [← h, List.map_map]; refine List.map_congr_left fun s _ => ?_; show Value.string s = .string ⟨s.data.toList.toArray⟩
  rfl
theorem xI (l : List UInt8) : (pcs l).length = Lib.countB ⟨l.toArray⟩ ⟨#[32]⟩ + 1 := by
  have h := Lib.splitB_all ⟨#[32]⟩ (by decide) 0 _ ⟨l.toArray⟩ rfl; have e := congrArg List.length (qg l); rw [List.length_map, List.length_map] at e
  omega
theorem xJ (l : List UInt8) (w : World) (m : Int) (hl : l.length ≤ 1000000) (hm : Mx w m) : Calls Tryz.prog 187 #[.string ⟨l.toArray⟩, .string ⟨#[32]⟩] w fun e w' =>
    e = .returned (.slice (some ⟨w.heap.size, 0, none⟩) (pcs l).length (pcs l).length) ∧ w' = w.alloc (.cells ((pcs l).map vx).toArray 9) := by
  have h := Tryz.strings_Split ⟨l.toArray⟩ ⟨#[32]⟩ m w (by rw [af]; omega) hm (by decide); rw [qg, ← xI] at h; exact h
theorem Bt (v : Value) (xs : List (List UInt8)) (base : Nat) (w : World) (hv : OwnS w base v xs) (hN : xs.length ≤ 2000000) (hj : (Lib.join xs [32]).length ≤ 2000000) :
    Calls Tryz.prog 188 #[v, .string ⟨#[32]⟩] w fun e w' => e = .returned (.string ⟨(Lib.join xs [32]).toArray⟩) ∧ Kept w w' := by
  rcases hv.row with ⟨rfl, rfl⟩ | ⟨g, cap, rfl, hc, hg, cells⟩
  · exact (Tryz.strings_Join_none none 0 ⟨#[32]⟩ w).mono fun e w' ⟨h1, h2⟩ => ⟨by rw [h1]; rfl, by subst h2; exact Kept.refl _⟩
  · have e : (xs.map (fun p => (⟨p.toArray⟩ : ByteArray))).map (·.data.toList) = xs := by rw [List.map_map]; exact List.map_id xs
    have h := Tryz.strings_Join g 0 cap (xs.map (fun p => ⟨p.toArray⟩)) ⟨#[32]⟩ w (fun j x hx => by
      rw [List.getElem?_map] at hx; obtain ⟨p, hp, rfl⟩ := Option.map_eq_some_iff.1 hx; exact cells j p hp) hg (by rw [List.length_map]; omega) (by rw [List.length_map]; exact hc) (by rw [e]; exact Nat.le_trans hj (by omega))
    rw [e, List.length_map] at h; exact h
theorem Bu (l : List UInt8) (w : World) (m : Int) (hl : l.length ≤ 1000000) (hm : Mx w m) : Calls Tryz.prog 176 #[.string ⟨l.toArray⟩] w fun e w' => e = .returned (.string ⟨(eY l).toArray⟩) ∧ Kept w w' := by
  have S := Lib.hid (xJ l w m hl hm); have hn : (pcs l).length ≤ 1000001 := by rw [xI]; have := Lib.countB_le ⟨#[32]⟩ (by decide) l.length ⟨l.toArray⟩ (by rw [af]; omega); rw [af] at this; omega
  have E : Hid (Lib.join ((pcs l).filter (fun p => !p.isEmpty)) [32] = eY l) := rfl; have tl := lg l; have b0 : Box (w.alloc (.cells ((pcs l).map vx).toArray 9)) w.heap.size 9 ((pcs l).map vx).toArray := Box.new _ _ _; have k0 : Kept w (w.alloc (.cells ((pcs l).map vx).toArray 9)) := (Kept.refl w).alloc _; have HB0 := Lib.hid b0; clear b0; generalize pcs l = xs at *; generalize eY l = r at *; go_enter Tryz.func176, Tryz.ntmps176; go_wp2_with fail; refine S.out.mono ?_; rintro e w' ⟨rfl, hw⟩; rw [← hw] at k0 HB0; clear hw S; go_wp2_with fail
  go_loopw [3, 9] (fun s i wr => ∃ k : Nat, k ≤ xs.length ∧ i = .int .i64 k ∧ OwnS wr w'.heap.size s ((xs.take k).filter (fun p => !p.isEmpty)) ∧ Kept w' wr) (fun _ i _ => xs.length - (intOf i).toNat)
  case atStart => exact ⟨0, by omega, rfl, OwnS.nil _ _, Kept.refl _⟩
  case round =>
    obtain ⟨k, hk, rfl, own, hkept⟩ := hrel
    by_cases c : k < xs.length
    · have ts := List.take_succ_eq_append_getElem c
      have hc := ((HB0.out.kept hkept).cell k); rw [show ((xs.map vx).toArray)[k]? = some (vx xs[k]) by simp [c]] at hc; have hl2 : ((xs.take k).filter (fun p => !p.isEmpty)).length ≤ 1000001 := Nat.le_trans (List.length_filter_le _ _) (by rw [List.length_take]; omega); generalize xs[k] = p at *; have TS := Lib.hid ts; clear ts
      by_cases e : p = []
      · subst e
        have HO := Lib.hid own; clear own; go_wp2_with fail
        go_roundw
        case rel => exact ⟨k + 1, by omega, by go_num, by rw [TS.out, List.filter_append]; simpa using HO.out, hkept⟩
        case measure => (simp [intOf]; try omega)
      · have pe : p.isEmpty = false := by simpa using e
        have fe : [p].filter (fun p => !p.isEmpty) = [p] := by
          have : p.isEmpty = false := by simpa using e
          simp [this]
        have ho := Lib.hid (own.alloc (Obj.cells #[vx p] 9)); have FE := Lib.hid fe; clear own e fe; go_wp2_with (refine mU rfl (.tmp 15) (.tmp 17) rfl _ u3 _ rfl ho.out wr.heap.size 1 p rfl (by simp [go_sem]) (by omega) (by have := hkept.size; simp; omega) ?_; intro v1 w1 o1 gr); have k1 := ho.out.grown (Nat.le_refl _) (hkept.alloc _) gr; go_wp2_with fail
        go_roundw
        case rel => exact ⟨k + 1, by omega, by go_num, by rw [TS.out, List.filter_append, FE.out]; exact o1, k1⟩
        case measure => (simp [intOf]; try omega)
    · obtain rfl : k = xs.length := by omega
      rw [List.take_length] at own; have hl2 : (xs.filter (fun p => !p.isEmpty)).length ≤ 1000001 := Nat.le_trans (List.length_filter_le _ _) hn; have J := Bt _ _ _ _ own (by omega) (by rw [E.out]; omega); rw [E.out] at J; have HJ := Lib.hid J; clear J own; go_wp2_with fail; refine HJ.out.mono ?_; rintro e w2 ⟨rfl, k2⟩; go_wp2_with fail; go_ret; exact ⟨rfl, (k0.trans hkept).trans k2⟩
end
section
open Go.RowKit Lv
end
section
open Go.RowKit Lv
theorem nw {a : List UInt8} {j : Nat} (h : j < a.length) (h0 : 0 < j) : (a.take j).getLast? = some (a[j - 1]'(by omega)) := by
  rw [List.getLast?_eq_getElem?, List.length_take, List.getElem?_take, Nat.min_eq_left (by omega), if_pos (by omega), List.getElem?_eq_getElem]
theorem vF {a : List UInt8} {j : Nat} (h : j < a.length) :
    (a[j] = 32 → eY (a.take (j + 1)) = eY (a.take j)) ∧
    (a[j] ≠ 32 → ∀ h0 : 0 < j, a[j - 1]'(by omega) = 32 → 0 < (eY (a.take j)).length → eY (a.take (j + 1)) = eY (a.take j) ++ [32] ++ [a[j]]) ∧
    (a[j] ≠ 32 → (j = 0 ∨ (∃ h0 : 0 < j, a[j - 1]'(by omega) ≠ 32) ∨ (eY (a.take j)).length = 0) → eY (a.take (j + 1)) = eY (a.take j) ++ [a[j]]) := by
  have e : a.take (j + 1) = a.take j ++ [a[j]] := List.take_succ_eq_append_getElem h; refine ⟨fun c => ?_, fun c h0 b n => ?_, fun c z => ?_⟩
  · rw [e, jd, if_pos c]
  · have n2 : eY (a.take j) ≠ [] := List.length_pos_iff.1 n
    rw [e, jd, if_neg c, if_pos ⟨n2, by rw [nw h h0, b]⟩]; simp
  · rw [e, jd, if_neg c, if_neg]
    rintro ⟨x, y⟩; rcases z with z | ⟨h0, z⟩ | z
    · subst z; simp at y
    · rw [nw h h0] at y; exact z (Option.some.inj y)
    · exact x (List.eq_nil_of_length_eq_zero z)
theorem xK {l : List UInt8} {k : Nat} {c : UInt8} (e : l[k]? = some c) : ∀ h, (((ByteArray.mk l.toArray)[k]'h).toNat : Int) = c.toNat := fun h => by
  have e2 : (ByteArray.mk l.toArray)[k]'h = c := by
    show l[k]'h = c; rw [List.getElem?_eq_getElem h] at e; exact Option.some.inj e
  rw [e2]
theorem tT {c : UInt8} {d : Nat} (h : c.toNat ≠ d) : ((c.toNat : Int) == (d : Int)) = false ∧ ((c.toNat : Int) != (d : Int)) = true := by
  have g : (c.toNat : Int) ≠ (d : Int) := fun e => h (Int.ofNat_inj.1 e); exact ⟨beq_eq_false_iff_ne.2 g, bne_iff_ne.2 g⟩
theorem xL {c d : UInt8} (h : c ≠ d) : c.toNat ≠ d.toNat := fun e => h (UInt8.toNat_inj.1 e)
theorem OwnB.form {w : World} {base : Nat} {v : Value} {l : List UInt8} (h : OwnB w base v l) : ∃ p cap, v = .slice p l.length cap := by
  rcases h.2 with ⟨rfl, h0⟩ | ⟨g, cap, cur, rfl, _⟩
  · exact ⟨none, 0, by rw [h0]⟩
  · exact ⟨_, cap, rfl⟩
theorem xM (l : List UInt8) (w : World) (hl : l.length ≤ 1000000) : Calls Tryz.prog 91 #[.string ⟨l.toArray⟩] w fun e w' => e = .returned (.string ⟨(eY l).toArray⟩) ∧ Kept w w' := by
  have Z := af; have PS : Hid (∀ j (h : j < l.length), _) := fun j h => vF (a := l) (j := j) h; go_enter Tryz.func91, Tryz.ntmps91; go_wp2_with fail
  go_loopw [3, 4] (fun s i wr => ∃ k : Nat, k ≤ l.length ∧ i = .int .i64 k ∧ OwnB wr w.heap.size s (eY (l.take k)) ∧ Kept w wr) (fun _ i _ => l.length - (intOf i).toNat)
  case atStart => exact ⟨0, by omega, rfl, OwnB.nil _ _, Kept.refl _⟩
  case round =>
    obtain ⟨k, hk, rfl, own, hkept⟩ := hrel
    by_cases c : k < l.length
    · obtain ⟨s1, s2, s3⟩ := PS.out k c
      obtain ⟨ch, hch⟩ : ∃ ch, ch = l[k] := ⟨_, rfl⟩; have q := xK (l := l) (k := k) (c := ch) (by rw [hch]; exact List.getElem?_eq_getElem c); rw [← hch] at s1 s2 s3; obtain ⟨T, hT⟩ : ∃ T, T = eY (l.take k) := ⟨_, rfl⟩; obtain ⟨T2, hT2⟩ : ∃ T, T = eY (l.take (k + 1)) := ⟨_, rfl⟩; have tl : T.length ≤ k := by rw [hT]; have := lg (l.take k); rw [List.length_take] at this; omega
      rw [← hT] at own s1 s2 s3; rw [← hT2] at s1 s2 s3; have HT2 := Lib.hid hT2; have hs := hkept.size; clear hT hT2 hch
      by_cases e : ch = 32
      · have g1 := Lib.hid (s1 e)
        subst e; have q0 : ∀ h, (((ByteArray.mk l.toArray)[k]'h).toNat : Int) = 32 := q; have HO := Lib.hid own; clear own q s1 s2 s3; go_wp2_with fail
        go_roundw
        case rel => exact ⟨k + 1, by omega, by go_num, by rw [← HT2.out, g1.out]; exact HO.out, hkept⟩
        case measure => (simp [intOf]; try omega)
      · have b1 : ((ch.toNat : Int) != 32) = true := (tT (d := 32) (xL e)).2
        clear s1
        by_cases gap : 0 < T.length ∧ ∃ h0 : 0 < k, l[k - 1]'(by omega) = 32
        · obtain ⟨n0, h0, y⟩ := gap
          have g1 := Lib.hid (s2 e h0 y n0); have q3 : ∀ h, (((ByteArray.mk l.toArray)[k - 1]'h).toNat : Int) = 32 := xK (c := 32) (by rw [List.getElem?_eq_getElem (by omega), y]); have d3 : decide ((0 : Int) < (T.length : Int)) = true := by rw [decide_eq_true_eq]; omega
          have i0 : (0 : Int) ≤ (k : Int) - 1 := by omega
          clear s2 s3 e y; obtain ⟨p, cp, rfl⟩ := own.form; have ho := Lib.hid (own.alloc (Obj.cells #[.int .u8 32] 5)); clear own Z
          go_wp2_with (first
            | (refine fN rfl (.tmp 25) (.tmp 26) rfl w.heap.size (.slice p T.length cp) T rfl ho.out wr.heap.size 1 32 32 rfl rfl (by simp [go_sem]) (by omega) (by have := hkept.size; simp; omega) ?_
               intro v1 w1 o1 gr; have k1 := ho.out.grown (Nat.le_refl _) (hkept.alloc _) gr; have ho1 := Lib.hid (o1.alloc (Obj.cells #[.int .u8 ch.toNat] 5)); clear o1 gr ho)
            | (refine fN rfl (.tmp 28) (.tmp 32) rfl w.heap.size v1 (T ++ [32]) rfl ho1.out w1.heap.size 1 ch.toNat ch rfl rfl (by simp [go_sem]) (by simp; omega) (by have := k1.size; simp; omega) ?_
               intro v2 w2 o2 gr))
          have k2 := ho1.out.grown (Nat.le_refl _) (k1.alloc _) gr; go_wp2_with fail
          go_roundw
          case rel => exact ⟨k + 1, by omega, by go_num, by rw [← HT2.out, g1.out]; exact o2, k2⟩
          case measure => (simp [intOf]; try omega)
        · have g1 := Lib.hid (s3 e (by
            by_cases h0 : 0 < k
            · by_cases y : l[k - 1]'(by omega) = 32
              · exact Or.inr (Or.inr (by
                  by_cases z : 0 < T.length
                  · exact absurd ⟨z, h0, y⟩ gap
                  · omega))
              · exact Or.inr (Or.inl ⟨h0, y⟩)
            · exact Or.inl (by omega)))
          obtain ⟨p, cp, rfl⟩ := own.form; clear s2 s3
          by_cases n0 : 0 < T.length
          · have d3 : decide ((0 : Int) < (T.length : Int)) = true := by rw [decide_eq_true_eq]; omega
            by_cases h0 : 0 < k
            · have y : l[k - 1]'(by omega) ≠ 32 := fun y => gap ⟨n0, h0, y⟩
              have q3 := xK (l := l) (k := k - 1) (List.getElem?_eq_getElem (by omega)); have b2 : (((l[k - 1]'(by omega)).toNat : Int) == 32) = false := (tT (d := 32) (xL y)).1; generalize (l[k - 1]'(by omega)) = c2 at *; have i0 : (0 : Int) ≤ (k : Int) - 1 := by omega
              clear gap e y; have ho := Lib.hid (own.alloc (Obj.cells #[.int .u8 ch.toNat] 5)); clear own Z; go_wp2_with (refine fN rfl (.tmp 28) (.tmp 32) rfl w.heap.size (.slice p T.length cp) T rfl ho.out wr.heap.size 1 ch.toNat ch rfl rfl (by simp [go_sem]) (by simp; omega) (by have := hkept.size; simp; omega) ?_; intro v1 w1 o1 gr); have k1 := ho.out.grown (Nat.le_refl _) (hkept.alloc _) gr; go_wp2_with fail
              go_roundw
              case rel => exact ⟨k + 1, by omega, by go_num, by rw [← HT2.out, g1.out]; exact o1, k1⟩
              case measure => (simp [intOf]; try omega)
            · exfalso; omega
          · have d3 : decide ((0 : Int) < (T.length : Int)) = false := by rw [decide_eq_false_iff_not]; omega
            clear gap e; have ho := Lib.hid (own.alloc (Obj.cells #[.int .u8 ch.toNat] 5)); clear own Z; go_wp2_with (refine fN rfl (.tmp 28) (.tmp 32) rfl w.heap.size (.slice p T.length cp) T rfl ho.out wr.heap.size 1 ch.toNat ch rfl rfl (by simp [go_sem]) (by simp; omega) (by have := hkept.size; simp; omega) ?_; intro v1 w1 o1 gr); have k1 := ho.out.grown (Nat.le_refl _) (hkept.alloc _) gr; go_wp2_with fail
            go_roundw
            case rel => exact ⟨k + 1, by omega, by go_num, by rw [← HT2.out, g1.out]; exact o1, k1⟩
            case measure => (simp [intOf]; try omega)
    · obtain rfl : k = l.length := by omega
      rw [List.take_length] at own; have hcv := Bq own; clear own; go_wp2_with fail; go_ret; exact ⟨rfl, hkept⟩
end
section
open Go.RowKit Lv
end
section
open Go.RowKit Lv
