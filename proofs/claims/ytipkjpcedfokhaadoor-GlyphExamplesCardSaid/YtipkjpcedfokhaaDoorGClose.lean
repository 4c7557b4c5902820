/- Layer 4: the closures that change a byte, and 'changed'. -/
import Derived.Test.YtipkjpcedfokhaaDoorBase3
import Derived.Test.YtipkjpcedfokhaaDoorBytes
import Derived.Lib.ConvBytes
import Derived.Shelf.Abstract
namespace Go.Proofs.YtipkjpcedfokhaaDoor
set_option linter.unusedVariables false
set_option linter.unusedSimpArgs false
open Go.RowKit

theorem ba_extract (l : List UInt8) (i j : Nat) : (ByteArray.mk l.toArray).extract i j = ⟨((l.take j).drop i).toArray⟩ := bytes_of (extract_list l i j)
theorem ba_size (l : List UInt8) : (ByteArray.mk l.toArray).size = l.length := rfl
theorem ba_append (l m : List UInt8) : (ByteArray.mk l.toArray) ++ (ByteArray.mk m.toArray) = ⟨(l ++ m).toArray⟩ := by
  refine bytes_of ?_
  simp

/-- at a call of a function value: whatever the way out -/
theorem wp_anyQ {P : Program} {o : Oper} {a : Act} {w : World} {K : Act → World → Prop} {Q : Exit → Act → World → Prop} (h : ∀ Q, Oper.wp P o a w K Q) : Oper.wp P o a w K Q := h Q
/-- block g is these cells; frozen only from place f on -/
def Lot (w : World) (g : Nat) (t : TypeId) (cs : Array Value) (f : Nat) : Prop := ∃ e, w.heap[g]? = some (.cells cs t (f, e))
section
variable {w w' : World} {g f : Nat} {t : TypeId} {cs : Array Value}
theorem Lot.inside (h : Lot w g t cs f) : g < w.heap.size := by obtain ⟨e, h⟩ := h; exact (Array.getElem?_eq_some_iff.1 h).1
theorem Lot.cell (h : Lot w g t cs f) (i : Nat) : w.cell? ⟨g, i, none⟩ = cs[i]? := by obtain ⟨e, h⟩ := h; exact cell_of_row w g i cs t (f, e) h
theorem Lot.loose (h : Lot w g t cs f) {i : Nat} (hi : i < f) : w.frozen? ⟨g, i, none⟩ = false := by
  obtain ⟨e, h⟩ := h
  simp only [World.frozen?, h]
  simp; omega
theorem Lot.drew (h : Lot w g t cs f) : Lot w.drew g t cs f := h
theorem Lot.drewN (h : Lot w g t cs f) (n : Nat) : Lot (w.drewN n) g t cs f := by
  induction n with
  | zero => exact h
  | succ n ih => exact ih
theorem Lot.alloc (h : Lot w g t cs f) (o : Obj) : Lot (w.alloc o) g t cs f := by
  have hi := h.inside
  obtain ⟨e, h⟩ := h; exact ⟨e, (Below.heap_alloc w o g hi).trans h⟩
theorem Lot.kept (k : Kept w w') (h : Lot w g t cs f) : Lot w' g t cs f := by
  have hi := h.inside
  obtain ⟨e, h⟩ := h; exact ⟨e, (k.block g hi).trans h⟩
theorem Lot.at_ (h : Lot w g t cs f) (i : Nat) (u : Value) : Lot (w.setCell ⟨g, i, none⟩ u) g t (cs.setIfInBounds i u) f := by
  obtain ⟨e, h⟩ := h
  refine ⟨e, ?_⟩
  simp only [World.setCell, Array.getElem?_modify, h]
  simp
end
/-- a row of bytes that f tells -/
def Tells (cs : Array Value) (n : Nat) (f : Nat → Nat) : Prop := ∀ j, j < n → cs[j]? = some (.int .u8 (f j))
theorem Tells.set {cs : Array Value} {n k : Nat} {f : Nat → Nat} (h : Tells cs n f) (hk : k < n) (x : Nat) : Tells (cs.setIfInBounds k (.int .u8 x)) n (fun j => if j = k then x else f j) := fun j hj => by
  have hs : k < cs.size := by
    have := h k hk
    exact (Array.getElem?_eq_some_iff.1 this).1
  by_cases e : j = k
  · subst e
    simp [Array.getElem?_setIfInBounds_self, hs]
  · rw [Array.getElem?_setIfInBounds_ne (by omega)]
    simp only [if_neg e]
    exact h j hj

theorem p1_any (c : Nat) (w : World) (hc : c ≤ 255) : Calls Tryd.prog 119 #[.int .u8 c] w fun e w' => e = .returned (.int .u8 ((if c < 32 ∨ 126 < c then 0 else 32 : Nat) : Int)) ∧ w = w' := by
  by_cases h1 : c < 32
  · rw [if_pos (Or.inl h1)]
    go_enter Tryd.func119, Tryd.ntmps119
    go_wp2_with fail
    go_ret
    exact ⟨rfl, rfl⟩
  · by_cases h2 : 126 < c
    · rw [if_pos (Or.inr h2)]
      go_enter Tryd.func119, Tryd.ntmps119
      go_wp2_with fail
      go_ret
      exact ⟨rfl, rfl⟩
    · rw [if_neg (by omega)]
      go_enter Tryd.func119, Tryd.ntmps119
      go_wp2_with fail
      go_ret
      exact ⟨rfl, rfl⟩
theorem p2_any (c : Nat) (w : World) : Calls Tryd.prog 120 #[.int .i32 c] w fun e w' => e = .returned (.bool (decide (c = 0))) ∧ w = w' := by
  by_cases h1 : c = 0
  · subst h1
    go_enter Tryd.func120, Tryd.ntmps120
    go_wp2_with fail
    go_ret
    exact ⟨rfl, rfl⟩
  · have h2 : ((c : Int) == 0) = false := by rw [beq_eq_false_iff_ne]; omega
    rw [decide_eq_false h1]
    go_enter Tryd.func120, Tryd.ntmps120
    go_wp2_with fail
    go_ret
    exact ⟨rfl, rfl⟩

theorem conv_bytes (s : ByteArray) (w : World) : (convert 9 70 (.string s)).run Tryd.prog w = .ok (.slice (some ⟨w.heap.size, 0, none⟩) s.size (grownCap w s.size 0 5)) (Lib.bytesWorld w 5 s) :=
  Lib.run_convert_string_bytes w _ _ _ s Tryd.underlying9 Tryd.underlying70 Tryd.underlying5
theorem bytes_kept (w : World) (e : TypeId) (s : ByteArray) : Kept w (Lib.bytesWorld w e s) where
  os := rfl
  tape := rfl
  output := rfl
  size := by rw [Lib.bytesWorld_size]; omega
  block := fun k hk => Lib.bytesWorld_at_old w e s k hk
theorem bytes_lot (w : World) (l : List UInt8) : ∃ cs f, l.length ≤ f ∧ Lot (Lib.bytesWorld w 5 ⟨l.toArray⟩) w.heap.size 5 cs f ∧ Tells cs l.length (fun j => (l.getD j 0).toNat) := by
  refine ⟨_, _, ?_, ⟨_, Lib.bytesWorld_at_new w _ _⟩, fun j hj => ?_⟩
  · rcases Nat.lt_or_ge (Lib.bytesCells w 5 ⟨l.toArray⟩).size l.length with h | h
    · exfalso
      have hc := Lib.bytesWorld_cell w 5 ⟨l.toArray⟩ (Lib.bytesCells w 5 ⟨l.toArray⟩).size h
      rw [cell_of_row _ _ _ _ _ _ (Lib.bytesWorld_at_new w _ _)] at hc
      simp at hc
    · exact h
  · have hc := Lib.bytesWorld_cell w 5 ⟨l.toArray⟩ j hj
    rw [cell_of_row _ _ _ _ _ _ (Lib.bytesWorld_at_new w _ _)] at hc
    exact hc

set_option maxHeartbeats 400000 in
set_option maxRecDepth 100000 in
theorem changed_p1 (F : Nat → Nat) (l : List UInt8) (w : World) (hl : l.length ≤ 1000000)
    (hp : Hid (∀ W (c : Nat), c ≤ 255 → Kept w W → Calls Tryd.prog 119 #[.int .u8 c] W fun e w' => e = .returned (.int .u8 (F c)) ∧ Kept W w')) (hF : ∀ c, c ≤ 255 → F c ≤ 255) :
    Calls Tryd.prog 115 #[.string ⟨l.toArray⟩, .func (.func 119) #[] #[]] w fun e w' => ∃ cap cs f, e = .returned (.slice (some ⟨w.heap.size, 0, none⟩) l.length cap) ∧ Kept w w' ∧ Lot w' w.heap.size 5 cs f ∧ Tells cs l.length (fun j => F (l.getD j 0).toNat) := by
  have Z := ba_size
  have CV := conv_bytes
  have eg : ∀ args w, (callFunc 119 args).run Tryd.prog w = .ok (.enter 119 args) w := enters_of Tryd.func119 (by kernel_rfl) rfl
  obtain ⟨cs0, f, hf, lot0, tel0⟩ := bytes_lot w l
  have k0 := bytes_kept w 5 ⟨l.toArray⟩
  have HT0 := Lib.hid tel0
  have HL0 := Lib.hid lot0
  have HF := Lib.hid hF
  clear tel0 lot0 hF
  go_enter Tryd.func115, Tryd.ntmps115
  go_wp2_with fail
  generalize Lib.bytesWorld w 5 ⟨l.toArray⟩ = w0 at *
  clear CV
  go_loopw [12] (fun i wr => ∃ (k : Nat) (cs : Array Value), k ≤ l.length ∧ i = .int .i64 k ∧ Kept w wr ∧ Lot wr w.heap.size 5 cs f ∧ Tells cs l.length (fun j => if j < k then F (l.getD j 0).toNat else (l.getD j 0).toNat)) (fun i _ => l.length - (intOf i).toNat)
  case atStart => exact ⟨0, cs0, by omega, rfl, k0, HL0.out, fun j hj => by rw [HT0.out j hj]; rfl⟩
  case round =>
    obtain ⟨k, cs, hk, rfl, hkept, lot, tel⟩ := hrel
    by_cases c : k < l.length
    · have hc := (lot.cell k).trans (tel k c)
      simp only [Nat.lt_irrefl, if_false] at hc
      have hb : (l.getD k 0).toNat ≤ 255 := by have := (l.getD k 0).toNat_lt; omega
      have HT := Lib.hid tel
      have HL := Lib.hid lot
      have hq := Lib.hid (hp.out wr (l.getD k 0).toNat hb hkept)
      have hFb := HF.out _ hb
      obtain ⟨ch, hch⟩ : ∃ ch, ch = (l.getD k 0).toNat := ⟨_, rfl⟩
      rw [← hch] at hc hb hq hFb
      have HC := Lib.hid hch
      obtain ⟨fc, hfc⟩ : ∃ fc, fc = F ch := ⟨_, rfl⟩
      rw [← hfc] at hq hFb
      have HFC := Lib.hid hfc
      clear tel lot hch hfc
      go_wp2_with fail
      clear Z
      go_simp
      refine hq.out.mono ?_
      rintro e w1 ⟨rfl, k1⟩
      have hl1 := (HL.out.kept k1).loose (i := k) (by omega)
      have hl2 := ((HL.out.kept k1).cell k).trans (HT.out k c)
      go_wp2_with fail
      go_roundw
      case rel =>
        refine ⟨k + 1, _, by omega, by go_num, Kept.setCell (hkept.trans k1) (by simp) _, (HL.out.kept k1).at_ k _, fun j hj => ?_⟩
        rw [(HT.out.set c fc) j hj]
        by_cases e : j = k
        · subst e
          simp only [if_true, if_pos (Nat.lt_succ_self j)]
          rw [HFC.out, HC.out]
        · simp only [if_neg e]
          by_cases e2 : j < k
          · rw [if_pos e2, if_pos (by omega)]
          · rw [if_neg e2, if_neg (by omega)]
      case measure => (simp [intOf]; try omega)
    · obtain rfl : k = l.length := by omega
      have HT := Lib.hid tel
      clear tel
      go_wp2_with fail
      go_ret
      exact ⟨_, cs, f, rfl, hkept, lot, fun j hj => by rw [HT.out j hj]; simp only [if_pos hj]⟩
set_option maxHeartbeats 400000 in
set_option maxRecDepth 100000 in
theorem changed_mv (p q : Addr) (F : Nat → Nat) (l : List UInt8) (w : World) (hl : l.length ≤ 1000000)
    (hp : Hid (∀ W (c : Nat), c ≤ 255 → Kept w W → Calls Tryd.prog 116 #[.int .u8 c, .pointer (some p), .pointer (some q)] W fun e w' => e = .returned (.int .u8 (F c)) ∧ Kept W w')) (hF : ∀ c, c ≤ 255 → F c ≤ 255) :
    Calls Tryd.prog 115 #[.string ⟨l.toArray⟩, .func (.func 116) #[] #[.pointer (some p), .pointer (some q)]] w fun e w' => ∃ cap cs f, e = .returned (.slice (some ⟨w.heap.size, 0, none⟩) l.length cap) ∧ Kept w w' ∧ Lot w' w.heap.size 5 cs f ∧ Tells cs l.length (fun j => F (l.getD j 0).toNat) := by
  have Z := ba_size
  have CV := conv_bytes
  have eg : ∀ args w, (callFunc 116 args).run Tryd.prog w = .ok (.enter 116 args) w := enters_of Tryd.func116 (by kernel_rfl) rfl
  obtain ⟨cs0, f, hf, lot0, tel0⟩ := bytes_lot w l
  have k0 := bytes_kept w 5 ⟨l.toArray⟩
  have HT0 := Lib.hid tel0
  have HL0 := Lib.hid lot0
  have HF := Lib.hid hF
  clear tel0 lot0 hF
  go_enter Tryd.func115, Tryd.ntmps115
  go_wp2_with fail
  generalize Lib.bytesWorld w 5 ⟨l.toArray⟩ = w0 at *
  clear CV
  go_loopw [12] (fun i wr => ∃ (k : Nat) (cs : Array Value), k ≤ l.length ∧ i = .int .i64 k ∧ Kept w wr ∧ Lot wr w.heap.size 5 cs f ∧ Tells cs l.length (fun j => if j < k then F (l.getD j 0).toNat else (l.getD j 0).toNat)) (fun i _ => l.length - (intOf i).toNat)
  case atStart => exact ⟨0, cs0, by omega, rfl, k0, HL0.out, fun j hj => by rw [HT0.out j hj]; rfl⟩
  case round =>
    obtain ⟨k, cs, hk, rfl, hkept, lot, tel⟩ := hrel
    by_cases c : k < l.length
    · have hc := (lot.cell k).trans (tel k c)
      simp only [Nat.lt_irrefl, if_false] at hc
      have hb : (l.getD k 0).toNat ≤ 255 := by have := (l.getD k 0).toNat_lt; omega
      have HT := Lib.hid tel
      have HL := Lib.hid lot
      have hq := Lib.hid (hp.out wr (l.getD k 0).toNat hb hkept)
      have hFb := HF.out _ hb
      obtain ⟨ch, hch⟩ : ∃ ch, ch = (l.getD k 0).toNat := ⟨_, rfl⟩
      rw [← hch] at hc hb hq hFb
      have HC := Lib.hid hch
      obtain ⟨fc, hfc⟩ : ∃ fc, fc = F ch := ⟨_, rfl⟩
      rw [← hfc] at hq hFb
      have HFC := Lib.hid hfc
      clear tel lot hch hfc
      go_wp2_with fail
      clear Z
      go_simp
      refine hq.out.mono ?_
      rintro e w1 ⟨rfl, k1⟩
      have hl1 := (HL.out.kept k1).loose (i := k) (by omega)
      have hl2 := ((HL.out.kept k1).cell k).trans (HT.out k c)
      go_wp2_with fail
      go_roundw
      case rel =>
        refine ⟨k + 1, _, by omega, by go_num, Kept.setCell (hkept.trans k1) (by simp) _, (HL.out.kept k1).at_ k _, fun j hj => ?_⟩
        rw [(HT.out.set c fc) j hj]
        by_cases e : j = k
        · subst e
          simp only [if_true, if_pos (Nat.lt_succ_self j)]
          rw [HFC.out, HC.out]
        · simp only [if_neg e]
          by_cases e2 : j < k
          · rw [if_pos e2, if_pos (by omega)]
          · rw [if_neg e2, if_neg (by omega)]
      case measure => (simp [intOf]; try omega)
    · obtain rfl : k = l.length := by omega
      have HT := Lib.hid tel
      clear tel
      go_wp2_with fail
      go_ret
      exact ⟨_, cs, f, rfl, hkept, lot, fun j hj => by rw [HT.out j hj]; simp only [if_pos hj]⟩
end Go.Proofs.YtipkjpcedfokhaaDoor
