/- BunC: the texts GConv1, GConv2, GConv3, GConv4, GConv5, GWords, GShow, GKnown5, GOpen together. -/
import Derived.Test.YtbkjdcpfkepheaaGreatDoorCBunV
import Derived.MapKept
import Derived.WideMake
import Derived.Deep.RegionHeld3
import Derived.Test.YtbkjdcpfkepheaaGreatDoorCBunW
import Derived.Test.YtbkjdcpfkepheaaGreatDoorCBunR
import Derived.Test.YtbkjdcpfkepheaaGreatDoorRows
import Derived.Test.YtbkjdcpfkepheaaGreatDoorTie
import Derived.LaidSub
import Derived.ChangeVars
import Derived.JoinedOf
import Derived.Lib.SmallJoins
import Derived.OpenShut
import Derived.ShutString
set_option linter.unusedVariables false
set_option linter.unusedSimpArgs false
set_option maxHeartbeats 1000000
set_option maxRecDepth 100000
namespace Go.Proofs.YtbkjdcpfkepheaaGreatDoor
section
open Go.RowKit Lv
theorem jt (w : World) (b : Nat) (es : Array MapEntry) (clock k : Nat) (v : Value) (hb : w.heap[b]? = some (.map es clock)) (hk : Instr.findNow (.int .u8) (.int .u8 k) es.toList 0 = some none) :
    ∃ w', (Instr.mapUpdate 164 (.map (some b)) (.int .u8 k) v).run Tryz.prog w = .ok () w' ∧ w'.heap[b]? = some (.map (es.push ⟨.int .u8 k, v, clock⟩) (clock + 1)) ∧ Only b w w' := by
  have hc : (Instr.checkKey false 10000 5 (.int .u8 k)).run Tryz.prog w = .ok () w := MapKept.run_checkKey (k := .int .u8 k) Tryz.underlying5 (by simp [MapKept.IsKey]) false 9999; refine ⟨{ w with heap := w.heap.setIfInBounds b (.map (es.push ⟨.int .u8 k, v, clock⟩) (clock + 1)) }, ?_, (MapKept.heap_set hb).1, ⟨rfl, rfl, rfl, by simp, fun r _ hr => (MapKept.heap_set hb).2 r hr⟩⟩
  simp [Instr.mapUpdate, run_underlying Tryz.underlying164, MapKept.run_getObj_map hb, hc, MapKept.run_findKey Tryz.underlying5 hk, MapKept.run_setObj_map _ hb, Result.andThen]
theorem fU (w : World) (b : Nat) (es : Array MapEntry) (clock k i : Nat) (v : Value) (hb : w.heap[b]? = some (.map es clock)) (hk : Instr.findNow (.int .u8) (.int .u8 k) es.toList 0 = some (some (i, v))) :
    (Instr.lookup 164 (.map (some b)) (.int .u8 k) true).run Tryz.prog w = .ok (.tuple #[v, .bool true]) w := by
  have hc : (Instr.checkKey es.isEmpty 10000 5 (.int .u8 k)).run Tryz.prog w = .ok () w := MapKept.run_checkKey (k := .int .u8 k) Tryz.underlying5 (by simp [MapKept.IsKey]) _ 9999
  simp [Instr.lookup, run_underlying Tryz.underlying164, MapKept.run_getObj_map hb, hc, MapKept.run_findKey Tryz.underlying5 hk, Result.andThen]
theorem yc (w : World) : (zeroValue 165).run Tryz.prog w = .ok .nilFunc w := by kernel_rfl
theorem yd (w : World) (b : Nat) (es : Array MapEntry) (clock k : Nat) (hb : w.heap[b]? = some (.map es clock)) (hk : Instr.findNow (.int .u8) (.int .u8 k) es.toList 0 = some none) :
    ∃ v, (Instr.lookup 164 (.map (some b)) (.int .u8 k) true).run Tryz.prog w = .ok (.tuple #[v, .bool false]) w := by
  have hc : (Instr.checkKey es.isEmpty 10000 5 (.int .u8 k)).run Tryz.prog w = .ok () w := MapKept.run_checkKey (k := .int .u8 k) Tryz.underlying5 (by simp [MapKept.IsKey]) _ 9999; exact ⟨.nilFunc, by simp [Instr.lookup, run_underlying Tryz.underlying164, MapKept.run_getObj_map hb, hc, MapKept.run_findKey Tryz.underlying5 hk, Result.andThen, yc]⟩
abbrev F2 (f0 f1 f2 f3 f4 : Nat) (x0 x : Value) : Array MapEntry :=
  #[⟨.int .u8 0, .func (.func f0) #[x0] #[], 0⟩, ⟨.int .u8 1, .func (.func f1) #[x] #[], 1⟩, ⟨.int .u8 2, .func (.func f2) #[x] #[], 2⟩, ⟨.int .u8 3, .func (.func f3) #[x] #[], 3⟩, ⟨.int .u8 4, .func (.func f4) #[x] #[], 4⟩]
theorem Bz (w : World) (b f0 f1 f2 f3 f4 : Nat) (x0 x : Value) (hb : w.heap[b]? = some (.map #[] 0)) :
    ∃ w1 w2 w3 w4 w5, ((Instr.mapUpdate 164 (.map (some b)) (.int .u8 0) (.func (.func f0) #[x0] #[])).run Tryz.prog w = .ok () w1 ∧ (Instr.mapUpdate 164 (.map (some b)) (.int .u8 1) (.func (.func f1) #[x] #[])).run Tryz.prog w1 = .ok () w2 ∧
      (Instr.mapUpdate 164 (.map (some b)) (.int .u8 2) (.func (.func f2) #[x] #[])).run Tryz.prog w2 = .ok () w3 ∧ (Instr.mapUpdate 164 (.map (some b)) (.int .u8 3) (.func (.func f3) #[x] #[])).run Tryz.prog w3 = .ok () w4 ∧
      (Instr.mapUpdate 164 (.map (some b)) (.int .u8 4) (.func (.func f4) #[x] #[])).run Tryz.prog w4 = .ok () w5) ∧ (Only b w w1 ∧ Only b w w2 ∧ Only b w w3 ∧ Only b w w4 ∧ Only b w w5) ∧ w5.heap[b]? = some (.map (F2 f0 f1 f2 f3 f4 x0 x) 5) := by
  obtain ⟨w1, r1, h1, o1⟩ := jt w b #[] 0 0 (.func (.func f0) #[x0] #[]) hb rfl; obtain ⟨w2, r2, h2, o2⟩ := jt w1 b _ _ 1 (.func (.func f1) #[x] #[]) h1 rfl; obtain ⟨w3, r3, h3, o3⟩ := jt w2 b _ _ 2 (.func (.func f2) #[x] #[]) h2 rfl; obtain ⟨w4, r4, h4, o4⟩ := jt w3 b _ _ 3 (.func (.func f3) #[x] #[]) h3 rfl; obtain ⟨w5, r5, h5, o5⟩ := jt w4 b _ _ 4 (.func (.func f4) #[x] #[]) h4 rfl; exact ⟨w1, w2, w3, w4, w5, ⟨r1, r2, r3, r4, r5⟩, ⟨o1, o1.trans o2, (o1.trans o2).trans o3, ((o1.trans o2).trans o3).trans o4, (((o1.trans o2).trans o3).trans o4).trans o5⟩, h5⟩
def Tabled (w : World) (b : Nat) (es : Array MapEntry) : Prop := w.heap[b]? = some (.map es 5)
theorem fm (k : Nat) (n : Int) (t : List UInt8) (w : World) :
    Calls Tryz.prog 149 #[.agg #[.int .u8 k, .int .i64 n, .string ⟨t.toArray⟩]] w fun e w' => e = .returned (.map (some (w.heap.size + 1))) ∧ Kept w w' ∧ Tabled w' (w.heap.size + 1) (F2 150 151 150 152 151 (.agg #[.int .u8 k, .int .i64 n, .string ⟨t.toArray⟩]) (.agg #[.int .u8 k, .int .i64 n, .string ⟨t.toArray⟩])) := by
  have mk := fun w => run_makeMap_plain (P := Tryz.prog) w 164; have B0 : Box ((w.alloc (.cells #[.int .u8 k, .int .i64 n, .string ⟨t.toArray⟩] 163)).alloc (.map #[] 0)) w.heap.size 163 #[.int .u8 k, .int .i64 n, .string ⟨t.toArray⟩] := (Box.new w _ _).alloc _
  have hb : ((w.alloc (.cells #[.int .u8 k, .int .i64 n, .string ⟨t.toArray⟩] 163)).alloc (.map #[] 0)).heap[w.heap.size + 1]? = some (.map #[] 0) := by
    have := Go.heap_alloc_new (w.alloc (.cells #[.int .u8 k, .int .i64 n, .string ⟨t.toArray⟩] 163)) (.map #[] 0)
    rwa [World.size_alloc] at this
  have kw : Kept w ((w.alloc (.cells #[.int .u8 k, .int .i64 n, .string ⟨t.toArray⟩] 163)).alloc (.map #[] 0)) := ((Kept.refl w).alloc _).alloc _; obtain ⟨w1, w2, w3, w4, w5, ⟨r1, r2, r3, r4, r5⟩, ⟨o1, o2, o3, o4, o5⟩, h5⟩ := Bz _ (w.heap.size + 1) 150 151 150 152 151 (.agg #[.int .u8 k, .int .i64 n, .string ⟨t.toArray⟩]) (.agg #[.int .u8 k, .int .i64 n, .string ⟨t.toArray⟩]) hb; have k5 := o5.kept kw (by omega); have c1 := o1.box B0 (by omega); have c2 := o2.box B0 (by omega); have c3 := o3.box B0 (by omega); have c4 := o4.box B0 (by omega); have a1 := c1.cell 0; have a2 := c1.cell 1; have a3 := c1.cell 2; have b1 := c2.cell 0; have b2 := c2.cell 1; have b3 := c2.cell 2; have d1 := c3.cell 0; have d2 := c3.cell 1; have d3 := c3.cell 2; have e1 := c4.cell 0; have e2 := c4.cell 1; have e3 := c4.cell 2; have H5 : Hid (Tabled w5 _ _) := h5; clear h5 o1 o2 o3 o4 o5 c1 c2 c3 c4 B0 hb; have K5 := Lib.hid k5; go_enter Tryz.func149, Tryz.ntmps149; go_wp2_with fail; go_ret; exact ⟨rfl, K5.out, H5.out⟩
end
section
open Go.RowKit Lv
theorem tX (k : Nat) (n : Int) (t : List UInt8) (w : World) : Calls Tryz.prog 151 #[.agg #[.int .u8 k, .int .i64 n, .string ⟨t.toArray⟩]] w fun e w' => e = .returned (ae ⟨k, n, t⟩) ∧ Kept w w' := by
  go_enter Tryz.func151, Tryz.ntmps151; go_wp2_with fail; exact bodyPost_ret (v := ae ⟨k, n, t⟩) (by simp [results, Tryz.results151, go_sem]) rfl ⟨rfl, kpt⟩
theorem ke (k : Nat) (n : Int) (t : List UInt8) (w : World) (h1 : 0 ≤ n) (h2 : n ≤ 1) : Calls Tryz.prog 150 #[.agg #[.int .u8 k, .int .i64 n, .string ⟨t.toArray⟩]] w fun e w' => e = .returned (ae (ay (n * 10000))) ∧ Kept w w' := by
  have M := Lib.hid (fun w => dx (n * 10000) w (by omega) (by omega)); generalize ay (n * 10000) = f at *; go_enter Tryz.func150, Tryz.ntmps150; go_wp2_with fail; refine (M.out _).mono ?_; rintro e w1 ⟨rfl, k1⟩; obtain ⟨k1c, k1f⟩ := bP k1; have k1z := Below.size k1
  try simp only [World.size_alloc, World.size_setCell] at k1z k1c k1f
  try have k1x : w.heap.size ≤ w1.heap.size := by omega
  try have k1y := Nat.lt_of_succ_le k1z
  try have k1x2 : w.heap.size < w1.heap.size := by omega
  try have k1w : w.heap.size + 1 < w1.heap.size := by omega
  go_wp2_with fail; exact bodyPost_ret (v := ae f) (by simp [results, Tryz.results150, go_sem, k1c]) rfl ⟨rfl, kpt⟩
theorem ye (b : Bool) (v : Int) (h : 0 ≤ v) : -9223372036854775808 ≤ (if v ≤ 9223372036854775807 then (sg b v, (0 : Int)) else (0, 3)).1 ∧ (if v ≤ 9223372036854775807 then (sg b v, (0 : Int)) else (0, 3)).1 ≤ 9223372036854775807 := by
  by_cases c : v ≤ 9223372036854775807
  · rw [if_pos c]
    unfold sg
    cases b <;> simp <;> omega
  · rw [if_neg c]; exact ⟨by simp, by simp⟩
theorem vP (b : Bool) (l : List UInt8) : -9223372036854775808 ≤ (Lv.bw b l).1 ∧ (Lv.bw b l).1 ≤ 9223372036854775807 := by
  unfold Lv.bw
  by_cases n0 : nd l = 0
  · rw [if_pos n0]; exact ⟨by simp, by simp⟩
  · rw [if_neg n0]
    cases xi (l.drop (nd l)) with
    | none => exact ⟨by simp, by simp⟩
    | some r => exact ye b _ (by split <;> omega)
theorem lW (l : List UInt8) : -9223372036854775808 ≤ (cW l).1 ∧ (cW l).1 ≤ 9223372036854775807 := by
  unfold cW
  split <;> exact vP _ _
theorem yf (k : Nat) (n : Int) (t : List UInt8) (w : World) (m : Int) (hm : Mx w m) (ht : t.length ≤ 2000) : Calls Tryz.prog 152 #[.agg #[.int .u8 k, .int .i64 n, .string ⟨t.toArray⟩]] w fun e w' => e = .returned (ae (iC t)) ∧ Kept w w' := by
  have T := Lib.hid (fun w h => Bu t w m (by omega) h); have tl := lg t; have P := Lib.hid (fun w => xE (eY t) w (by omega)); have HM := Lib.hid hm; have R : iC t = if (cW (eY t)).2 = 0 then ay (cW (eY t)).1 else if (cW (eY t)).2 = 3 then aG 3 else aG 2 := rfl
  have pr := lW (eY t); generalize iC t = r at *; generalize cW (eY t) = p at *; generalize eY t = u at *; obtain ⟨p1, p2⟩ := p
  simp only at R pr
  clear hm
  by_cases c : p2 = 0
  · subst c
    rw [if_pos rfl] at R; have E := Lib.hid R; have M := Lib.hid (fun w => dx p1 w pr.1 pr.2); clear R; generalize ay p1 = f at *; go_enter Tryz.func152, Tryz.ntmps152; go_wp2_with fail; refine (T.out _ (HM.out.kept (((Kept.refl _).alloc _).alloc _))).mono ?_; rintro e w0 ⟨rfl, k0⟩; obtain ⟨k0c, k0f⟩ := bP k0; have k0z := Below.size k0
    simp only [World.size_alloc] at k0z k0c k0f
    have k0x : w.heap.size + 1 < w0.heap.size := by omega
    go_wp2_with fail; refine (P.out _).mono ?_; rintro e w1 ⟨rfl, k1⟩; obtain ⟨k1c, k1f⟩ := bP k1; have k1z := Below.size k1
    try simp only [World.size_alloc, World.size_setCell] at k1z k1c k1f
    try have k1x : w.heap.size ≤ w1.heap.size := by omega
    try have k1y := Nat.lt_of_succ_le k1z
    try have k1x2 : w.heap.size < w1.heap.size := by omega
    try have k1w : w.heap.size + 1 < w1.heap.size := by omega
    go_wp2_with fail; refine (M.out _).mono ?_; rintro e w2 ⟨rfl, k2⟩; obtain ⟨k2c, k2f⟩ := bP k2; have k2z := Below.size k2
    try simp only [World.size_alloc, World.size_setCell] at k2z k2c k2f
    try have k2x : w.heap.size ≤ w2.heap.size := by omega
    try have k2y := Nat.lt_of_succ_le k2z
    try have k2x2 : w.heap.size < w2.heap.size := by omega
    try have k2w : w.heap.size + 1 < w2.heap.size := by omega
    go_wp2_with fail; exact bodyPost_ret (v := ae f) (by simp [results, Tryz.results152, go_sem, k0c, k1c, k2c, k0x, k1w, k2w]) rfl ⟨by rw [E.out], kpt⟩
  have b0 : (p2 == 0) = false := by simpa using c
  rw [if_neg c] at R
  by_cases d : p2 = 3
  · subst d
    rw [if_pos rfl] at R; have E := Lib.hid R; have M := Lib.hid (fun w => cz 3 w); clear R c b0; generalize aG 3 = f at *; go_enter Tryz.func152, Tryz.ntmps152; go_wp2_with fail; refine (T.out _ (HM.out.kept (((Kept.refl _).alloc _).alloc _))).mono ?_; rintro e w0 ⟨rfl, k0⟩; obtain ⟨k0c, k0f⟩ := bP k0; have k0z := Below.size k0
    simp only [World.size_alloc] at k0z k0c k0f
    have k0x : w.heap.size + 1 < w0.heap.size := by omega
    go_wp2_with fail; refine (P.out _).mono ?_; rintro e w1 ⟨rfl, k1⟩; obtain ⟨k1c, k1f⟩ := bP k1; have k1z := Below.size k1
    try simp only [World.size_alloc, World.size_setCell] at k1z k1c k1f
    try have k1x : w.heap.size ≤ w1.heap.size := by omega
    try have k1y := Nat.lt_of_succ_le k1z
    try have k1x2 : w.heap.size < w1.heap.size := by omega
    try have k1w : w.heap.size + 1 < w1.heap.size := by omega
    go_wp2_with fail; refine (M.out _).mono ?_; rintro e w2 ⟨rfl, k2⟩; obtain ⟨k2c, k2f⟩ := bP k2; have k2z := Below.size k2
    try simp only [World.size_alloc, World.size_setCell] at k2z k2c k2f
    try have k2x : w.heap.size ≤ w2.heap.size := by omega
    try have k2y := Nat.lt_of_succ_le k2z
    try have k2x2 : w.heap.size < w2.heap.size := by omega
    try have k2w : w.heap.size + 1 < w2.heap.size := by omega
    go_wp2_with fail; exact bodyPost_ret (v := ae f) (by simp [results, Tryz.results152, go_sem, k0c, k1c, k2c, k0x, k1w, k2w]) rfl ⟨by rw [E.out], kpt⟩
  · have b3 : (p2 == 3) = false := by simpa using d
    rw [if_neg d] at R; have E := Lib.hid R; have M := Lib.hid (fun w => cz 2 w); clear R c d; generalize aG 2 = f at *; go_enter Tryz.func152, Tryz.ntmps152; go_wp2_with fail; refine (T.out _ (HM.out.kept (((Kept.refl _).alloc _).alloc _))).mono ?_; rintro e w0 ⟨rfl, k0⟩; obtain ⟨k0c, k0f⟩ := bP k0; have k0z := Below.size k0
    simp only [World.size_alloc] at k0z k0c k0f
    have k0x : w.heap.size + 1 < w0.heap.size := by omega
    go_wp2_with fail; refine (P.out _).mono ?_; rintro e w1 ⟨rfl, k1⟩; obtain ⟨k1c, k1f⟩ := bP k1; have k1z := Below.size k1
    try simp only [World.size_alloc, World.size_setCell] at k1z k1c k1f
    try have k1x : w.heap.size ≤ w1.heap.size := by omega
    try have k1y := Nat.lt_of_succ_le k1z
    try have k1x2 : w.heap.size < w1.heap.size := by omega
    try have k1w : w.heap.size + 1 < w1.heap.size := by omega
    go_wp2_with fail; refine (M.out _).mono ?_; rintro e w2 ⟨rfl, k2⟩; obtain ⟨k2c, k2f⟩ := bP k2; have k2z := Below.size k2
    try simp only [World.size_alloc, World.size_setCell] at k2z k2c k2f
    try have k2x : w.heap.size ≤ w2.heap.size := by omega
    try have k2y := Nat.lt_of_succ_le k2z
    try have k2x2 : w.heap.size < w2.heap.size := by omega
    try have k2w : w.heap.size + 1 < w2.heap.size := by omega
    go_wp2_with fail; exact bodyPost_ret (v := ae f) (by simp [results, Tryz.results152, go_sem, k0c, k1c, k2c, k0x, k1w, k2w]) rfl ⟨by rw [E.out], kpt⟩
end
section
open Go.RowKit Lv
theorem iQ {W : World} {p : Nat} {u v x : Value} (h0 : W.cell? ⟨p, 0, none⟩ = some u) (h1 : W.cell? ⟨p, 1, none⟩ = some v) (h2 : W.cell? ⟨p, 2, none⟩ = some x) : Kept W W.drew ∧ W.drew.cell? ⟨p, 0, none⟩ = some u ∧ W.drew.cell? ⟨p, 1, none⟩ = some v ∧ W.drew.cell? ⟨p, 2, none⟩ = some x := ⟨(Kept.refl W).drew, h0, h1, h2⟩
theorem kg {W a b : World} {p : Nat} {u v x : Value} (h : Kept W a ∧ a.cell? ⟨p, 0, none⟩ = some u ∧ a.cell? ⟨p, 1, none⟩ = some v ∧ a.cell? ⟨p, 2, none⟩ = some x) (k : Kept a b) : Kept W b ∧ b.cell? ⟨p, 0, none⟩ = some u ∧ b.cell? ⟨p, 1, none⟩ = some v ∧ b.cell? ⟨p, 2, none⟩ = some x := by
  obtain ⟨h, h0, h1, h2⟩ := h; have hb := bP k; exact ⟨h.trans k, by rw [hb.1 _ _ (World.block_lt_of_cell? a _ h0)]; exact h0, by rw [hb.1 _ _ (World.block_lt_of_cell? a _ h0)]; exact h1, by rw [hb.1 _ _ (World.block_lt_of_cell? a _ h0)]; exact h2⟩
theorem One3.of {w2 z : World} {p : Nat} {a : Vl} (h : Box w2 p 25 (cn a)) (k : Kept w2 z) : Kept w2 z ∧ z.cell? ⟨p, 0, none⟩ = some (.int .u8 a.k) ∧ z.cell? ⟨p, 1, none⟩ = some (.int .i64 a.n) ∧ z.cell? ⟨p, 2, none⟩ = some (.string ⟨a.t.toArray⟩) :=
  have b := h.kept k
  ⟨k, b.cell 0, b.cell 1, b.cell 2⟩
theorem BC {f0 f1 f2 f3 f4 : Nat} {x0 x : Value} (k : Nat) (h : 5 ≤ k) : Instr.findNow (.int .u8) (.int .u8 k) (F2 f0 f1 f2 f3 f4 x0 x).toList 0 = some none := by
  have c0 : ((k : Int) == 0) = false := by rw [beq_eq_false_iff_ne]; omega
  have c1 : ((k : Int) == 1) = false := by rw [beq_eq_false_iff_ne]; omega
  have c2 : ((k : Int) == 2) = false := by rw [beq_eq_false_iff_ne]; omega
  have c3 : ((k : Int) == 3) = false := by rw [beq_eq_false_iff_ne]; omega
  have c4 : ((k : Int) == 4) = false := by rw [beq_eq_false_iff_ne]; omega
  simp [Instr.findNow, Instr.sameNow, c0, c1, c2, c3, c4]
theorem yg {f0 f1 f2 f3 f4 : Nat} {x0 x : Value} (k : Nat) (h : k < 5) : ∃ v, Instr.findNow (.int .u8) (.int .u8 k) (F2 f0 f1 f2 f3 f4 x0 x).toList 0 = some (some (k, v)) :=
  match k, h with
  | 0, _ => ⟨_, rfl⟩
  | 1, _ => ⟨_, rfl⟩
  | 2, _ => ⟨_, rfl⟩
  | 3, _ => ⟨_, rfl⟩
  | 4, _ => ⟨_, rfl⟩
theorem fo {F b : Nat} {x : Value} {es : Array MapEntry} {w : World} (h : Calls Tryz.prog F #[x] w fun e w' => e = .returned (.map (some b)) ∧ Kept w w' ∧ Tabled w' b es) :
    Calls Tryz.prog F #[x] w fun e w' => ∃ b, e = .returned (.map (some b)) ∧ Kept w w' ∧ Tabled w' b es := h.mono fun _ _ ⟨h1, h2, h3⟩ => ⟨_, h1, h2, h3⟩
theorem Tabled.kept {w w2 : World} {b : Nat} {es : Array MapEntry} (h : Tabled w b es) (k : Kept w w2) : Tabled w2 b es := (k.block b (Array.getElem?_eq_some_iff.1 h).1).trans h
abbrev sn (es : Array MapEntry) (k : Nat) (fv : Value) : Prop := ∀ w b, Tabled w b es → (Instr.lookup 164 (.map (some b)) (.int .u8 k) true).run Tryz.prog w = .ok (.tuple #[fv, .bool true]) w
abbrev Dr (es : Array MapEntry) (k : Nat) : Prop := ∀ w b, Tabled w b es → ∃ fv, (Instr.lookup 164 (.map (some b)) (.int .u8 k) true).run Tryz.prog w = .ok (.tuple #[fv, .bool false]) w
theorem BD {f0 f1 f2 f3 f4 : Nat} {x0 x : Value} (k : Nat) : (∃ fv, sn (F2 f0 f1 f2 f3 f4 x0 x) k fv) ∨ Dr (F2 f0 f1 f2 f3 f4 x0 x) k := by
  by_cases h5 : k < 5
  · obtain ⟨v, hv⟩ := yg (f0 := f0) (f1 := f1) (f2 := f2) (f3 := f3) (f4 := f4) (x0 := x0) (x := x) k h5
    exact Or.inl ⟨v, fun w b h => fU w b _ 5 k k v h hv⟩
  · exact Or.inr fun w b h => yd w b _ 5 k h (BC k (by omega))
abbrev Ij (F : Nat) (x : Value) (es : Array MapEntry) : Prop := ∀ w, Calls Tryz.prog F #[x] w fun e w' => ∃ b, e = .returned (.map (some b)) ∧ Kept w w' ∧ Tabled w' b es
abbrev kF (F : Nat) : Prop := ∀ args w, (callFunc F args).run Tryz.prog w = .ok (.enter F args) w
theorem so (F : Nat) (es : Array MapEntry) (k : Nat) (n : Int) (t : List UInt8) (w : World) (h1 : -9223372036854775808 ≤ n) (h2 : n ≤ 9223372036854775807) (ht : t.length ≤ 1000000)
    (eg : kF F) (D : Hid (Ij F (.agg #[.int .u8 k, .int .i64 n, .string ⟨t.toArray⟩]) es)) (hc : vOk ⟨k, n, t⟩ = false) (fv : Value) (LKH : Hid (sn es k fv)) :
    Calls Tryz.prog 148 #[.agg #[.int .u8 k, .int .i64 n, .string ⟨t.toArray⟩], .func (.func F) #[] #[]] w fun e w' => e = .returned (ae (aG 2)) ∧ Kept w w' := by
  have C := Lib.hid (fun w => cY ⟨k, n, t⟩ w ⟨h1, h2⟩ ht); rw [cK hc] at C; have M := Lib.hid (fun w => cz 2 w); generalize aG 2 = f at *; clear hc; have bx : Box ((w.alloc (.cells #[.int .u8 k, .int .i64 n, .string ⟨t.toArray⟩] 25)).alloc jp) w.heap.size 25 (cn ⟨k, n, t⟩) := (Box.new w _ _).alloc _; have by_ : Box ((w.alloc (.cells #[.int .u8 k, .int .i64 n, .string ⟨t.toArray⟩] 25)).alloc jp) (w.heap.size + 1) 25 #[.int .u8 0, .int .i64 0, .string ⟨#[]⟩] := Box.newAt (by simp) _ _; have kk : Kept w ((w.alloc (.cells #[.int .u8 k, .int .i64 n, .string ⟨t.toArray⟩] 25)).alloc jp) := ((Kept.refl w).alloc _).alloc _; have hz : w.heap.size + 2 = ((w.alloc (.cells #[.int .u8 k, .int .i64 n, .string ⟨t.toArray⟩] 25)).alloc jp).heap.size := by simp
  have BY := Lib.hid by_; have HZ := Lib.hid hz; clear by_ hz; go_enter Tryz.func148, Tryz.ntmps148; go_wp2_with fail; generalize ((w.alloc (.cells #[.int .u8 k, .int .i64 n, .string ⟨t.toArray⟩] 25)).alloc (.cells #[.int .u8 0, .int .i64 0, .string ⟨#[]⟩] 25)) = wa at *; have s0 : wa.cell? ⟨w.heap.size, 0, none⟩ = some (.int .u8 k) := bx.cell 0; have s1 : wa.cell? ⟨w.heap.size, 1, none⟩ = some (.int .i64 n) := bx.cell 1; have s2 : wa.cell? ⟨w.heap.size, 2, none⟩ = some (.string ⟨t.toArray⟩) := bx.cell 2; have BX := Lib.hid bx; clear bx
  go_region_held3 (fun z => Kept wa z ∧ z.cell? ⟨w.heap.size, 0, none⟩ = some (.int .u8 k) ∧ z.cell? ⟨w.heap.size, 1, none⟩ = some (.int .i64 n) ∧ z.cell? ⟨w.heap.size, 2, none⟩ = some (.string ⟨t.toArray⟩))
    (first | (with_reducible assumption) | (exact iQ s0 s1 s2) | (with_reducible exact kg (by assumption) (by assumption)))
    (first | (refine (D.out _).mono ?_; rintro e w1 ⟨mb, rfl, hk', tb⟩; have LK := LKH.out _ _ tb))
  rename_i hh
  have kw := hh.1; have kk := kk.trans kw; have b1 := BX.out.kept kw; have y1 := BY.out.kept kw; have z1 : w.heap.size + 1 < w1.heap.size := by have := kw.size; have := HZ.out; omega
  have x0 := b1.cell 0; have x1 := b1.cell 1; have x2 := b1.cell 2; have u0 := y1.cell 0; have u1 := y1.cell 1; have u2 := y1.cell 2; have l0 := y1.loose 0; have l1 := y1.loose 1; have l2 := y1.loose 2; clear b1 y1 LK D hh s0 s1 s2; go_wp2_with fail; refine (C.out _).mono ?_; rintro e w2 ⟨rfl, k2⟩; obtain ⟨k2c, k2f⟩ := bP k2; have k2z := Below.size k2; have z2 : w.heap.size + 1 < w2.heap.size := by omega
  have kk := kk.trans k2; go_wp2_with fail; refine (M.out _).mono ?_; rintro e w3 ⟨rfl, k3⟩; obtain ⟨k3c, k3f⟩ := bP k3; have k3z := Below.size k3; have z3 : w.heap.size + 1 < w3.heap.size := by omega
  have kk := kk.trans k3; go_wp2_with fail; exact bodyPost_ret (v := ae f) (by simp [results, Tryz.results148, go_sem, k3c, k2c, z1, z2, z3, u0, u1, u2]) rfl ⟨rfl, kk.set3 (Nat.le_succ _)⟩
theorem yi (F : Nat) (es : Array MapEntry) (k : Nat) (n : Int) (t : List UInt8) (w : World) (h1 : -9223372036854775808 ≤ n) (h2 : n ≤ 9223372036854775807) (ht : t.length ≤ 1000000)
    (eg : kF F) (D : Hid (Ij F (.agg #[.int .u8 k, .int .i64 n, .string ⟨t.toArray⟩]) es)) (LKH : Hid (Dr es k)) :
    Calls Tryz.prog 148 #[.agg #[.int .u8 k, .int .i64 n, .string ⟨t.toArray⟩], .func (.func F) #[] #[]] w fun e w' => e = .returned (ae (aG 2)) ∧ Kept w w' := by
  have M := Lib.hid (fun w => cz 2 w); generalize aG 2 = f at *; have bx : Box ((w.alloc (.cells #[.int .u8 k, .int .i64 n, .string ⟨t.toArray⟩] 25)).alloc jp) w.heap.size 25 (cn ⟨k, n, t⟩) := (Box.new w _ _).alloc _; have by_ : Box ((w.alloc (.cells #[.int .u8 k, .int .i64 n, .string ⟨t.toArray⟩] 25)).alloc jp) (w.heap.size + 1) 25 #[.int .u8 0, .int .i64 0, .string ⟨#[]⟩] := Box.newAt (by simp) _ _; have kk : Kept w ((w.alloc (.cells #[.int .u8 k, .int .i64 n, .string ⟨t.toArray⟩] 25)).alloc jp) := ((Kept.refl w).alloc _).alloc _; have hz : w.heap.size + 2 = ((w.alloc (.cells #[.int .u8 k, .int .i64 n, .string ⟨t.toArray⟩] 25)).alloc jp).heap.size := by simp
  have BY := Lib.hid by_; have HZ := Lib.hid hz; clear by_ hz; go_enter Tryz.func148, Tryz.ntmps148; go_wp2_with fail; generalize ((w.alloc (.cells #[.int .u8 k, .int .i64 n, .string ⟨t.toArray⟩] 25)).alloc (.cells #[.int .u8 0, .int .i64 0, .string ⟨#[]⟩] 25)) = wa at *; have s0 : wa.cell? ⟨w.heap.size, 0, none⟩ = some (.int .u8 k) := bx.cell 0; have s1 : wa.cell? ⟨w.heap.size, 1, none⟩ = some (.int .i64 n) := bx.cell 1; have s2 : wa.cell? ⟨w.heap.size, 2, none⟩ = some (.string ⟨t.toArray⟩) := bx.cell 2; have BX := Lib.hid bx; clear bx
  go_region_held3 (fun z => Kept wa z ∧ z.cell? ⟨w.heap.size, 0, none⟩ = some (.int .u8 k) ∧ z.cell? ⟨w.heap.size, 1, none⟩ = some (.int .i64 n) ∧ z.cell? ⟨w.heap.size, 2, none⟩ = some (.string ⟨t.toArray⟩))
    (first | (with_reducible assumption) | (exact iQ s0 s1 s2) | (with_reducible exact kg (by assumption) (by assumption)))
    (first | (refine (D.out _).mono ?_; rintro e w1 ⟨mb, rfl, hk', tb⟩; obtain ⟨fv, LK⟩ := LKH.out _ _ tb))
  rename_i hh
  have kw := hh.1; have kk := kk.trans kw; have b1 := BX.out.kept kw; have y1 := BY.out.kept kw; have z1 : w.heap.size + 1 < w1.heap.size := by have := kw.size; have := HZ.out; omega
  have x0 := b1.cell 0; have x1 := b1.cell 1; have x2 := b1.cell 2; have u0 := y1.cell 0; have u1 := y1.cell 1; have u2 := y1.cell 2; have l0 := y1.loose 0; have l1 := y1.loose 1; have l2 := y1.loose 2; clear b1 y1 LK D hh s0 s1 s2; go_wp2_with fail; refine (M.out _).mono ?_; rintro e w3 ⟨rfl, k3⟩; obtain ⟨k3c, k3f⟩ := bP k3; have k3z := Below.size k3; have z3 : w.heap.size + 1 < w3.heap.size := by omega
  have kk := kk.trans k3; go_wp2_with fail; exact bodyPost_ret (v := ae f) (by simp [results, Tryz.results148, go_sem, k3c, z1, z3, u0, u1, u2]) rfl ⟨rfl, kk.set3 (Nat.le_succ _)⟩
theorem el (F : Nat) (es : Array MapEntry) (k : Nat) (n : Int) (t : List UInt8) (w : World) (h1 : -9223372036854775808 ≤ n) (h2 : n ≤ 9223372036854775807) (ht : t.length ≤ 1000000)
    (eg : kF F) (D : Hid (Ij F (.agg #[.int .u8 k, .int .i64 n, .string ⟨t.toArray⟩]) es)) (hc : vOk ⟨k, n, t⟩ = true) (g : Nat) (xa : Value) (f : Vl) (LKH : Hid (sn es k (.func (.func g) #[xa] #[]))) (ef : kF g) (HC : Hid (∀ wz, Kept w wz → Calls Tryz.prog g #[xa] wz fun e w' => e = .returned (ae f) ∧ Kept wz w')) :
    Calls Tryz.prog 148 #[.agg #[.int .u8 k, .int .i64 n, .string ⟨t.toArray⟩], .func (.func F) #[] #[]] w fun e w' => e = .returned (ae f) ∧ Kept w w' := by
  have C := Lib.hid (fun w => cY ⟨k, n, t⟩ w ⟨h1, h2⟩ ht); rw [cX hc] at C; clear hc; have bx : Box ((w.alloc (.cells #[.int .u8 k, .int .i64 n, .string ⟨t.toArray⟩] 25)).alloc jp) w.heap.size 25 (cn ⟨k, n, t⟩) := (Box.new w _ _).alloc _; have by_ : Box ((w.alloc (.cells #[.int .u8 k, .int .i64 n, .string ⟨t.toArray⟩] 25)).alloc jp) (w.heap.size + 1) 25 #[.int .u8 0, .int .i64 0, .string ⟨#[]⟩] := Box.newAt (by simp) _ _; have kk : Kept w ((w.alloc (.cells #[.int .u8 k, .int .i64 n, .string ⟨t.toArray⟩] 25)).alloc jp) := ((Kept.refl w).alloc _).alloc _; have hz : w.heap.size + 2 = ((w.alloc (.cells #[.int .u8 k, .int .i64 n, .string ⟨t.toArray⟩] 25)).alloc jp).heap.size := by simp
  have BY := Lib.hid by_; have HZ := Lib.hid hz; clear by_ hz; go_enter Tryz.func148, Tryz.ntmps148; go_wp2_with fail; generalize ((w.alloc (.cells #[.int .u8 k, .int .i64 n, .string ⟨t.toArray⟩] 25)).alloc (.cells #[.int .u8 0, .int .i64 0, .string ⟨#[]⟩] 25)) = wa at *; have s0 : wa.cell? ⟨w.heap.size, 0, none⟩ = some (.int .u8 k) := bx.cell 0; have s1 : wa.cell? ⟨w.heap.size, 1, none⟩ = some (.int .i64 n) := bx.cell 1; have s2 : wa.cell? ⟨w.heap.size, 2, none⟩ = some (.string ⟨t.toArray⟩) := bx.cell 2; have BX := Lib.hid bx; clear bx
  go_region_held3 (fun z => Kept wa z ∧ z.cell? ⟨w.heap.size, 0, none⟩ = some (.int .u8 k) ∧ z.cell? ⟨w.heap.size, 1, none⟩ = some (.int .i64 n) ∧ z.cell? ⟨w.heap.size, 2, none⟩ = some (.string ⟨t.toArray⟩))
    (first | (with_reducible assumption) | (exact iQ s0 s1 s2) | (with_reducible exact kg (by assumption) (by assumption)))
    (first | (refine (D.out _).mono ?_; rintro e w1 ⟨mb, rfl, hk', tb⟩; have LK := LKH.out _ _ tb))
  rename_i hh
  have kw := hh.1; have kk := kk.trans kw; have b1 := BX.out.kept kw; have y1 := BY.out.kept kw; have z1 : w.heap.size + 1 < w1.heap.size := by have := kw.size; have := HZ.out; omega
  have x0 := b1.cell 0; have x1 := b1.cell 1; have x2 := b1.cell 2; have u0 := y1.cell 0; have u1 := y1.cell 1; have u2 := y1.cell 2; have l0 := y1.loose 0; have l1 := y1.loose 1; have l2 := y1.loose 2; clear b1 y1 LK D hh s0 s1 s2; go_wp2_with fail; refine (C.out _).mono ?_; rintro e w2 ⟨rfl, k2⟩; obtain ⟨k2c, k2f⟩ := bP k2; have k2z := Below.size k2; have z2 : w.heap.size + 1 < w2.heap.size := by omega
  have kk := kk.trans k2; go_wp2_with fail
  go_simp
  refine (HC.out _ kk).mono ?_; rintro e w3 ⟨rfl, k3⟩; obtain ⟨k3c, k3f⟩ := bP k3; have k3z := Below.size k3; have z3 : w.heap.size + 1 < w3.heap.size := by omega
  have kk := kk.trans k3; go_wp2_with fail; exact bodyPost_ret (v := ae f) (by simp [results, Tryz.results148, go_sem, k3c, k2c, z1, z2, z3, u0, u1, u2]) rfl ⟨rfl, kk.set3 (Nat.le_succ _)⟩
end
section
open Go.RowKit Lv
theorem BE (k : Nat) (n : Int) (t : List UInt8) (w : World) (m : Int) (hm : Mx w m) (h1 : -9223372036854775808 ≤ n) (h2 : n ≤ 9223372036854775807) (ht : t.length ≤ 2000) :
    Calls Tryz.prog 148 #[.agg #[.int .u8 k, .int .i64 n, .string ⟨t.toArray⟩], .func (.func 149) #[] #[]] w fun e w' => e = .returned (ae (aL ⟨k, n, t⟩)) ∧ Kept w w' := by
  have eg : kF 149 := enters_of Tryz.func149 (by kernel_rfl) rfl; have e_number : kF 150 := enters_of Tryz.func150 (by kernel_rfl) rfl; have e_read : kF 152 := enters_of Tryz.func152 (by kernel_rfl) rfl; have e_same : kF 151 := enters_of Tryz.func151 (by kernel_rfl) rfl
  by_cases hc : vOk ⟨k, n, t⟩ = true
  · rcases fd hc with e | ⟨n', hn, e⟩ | e | e | ⟨t', ho, e⟩ | ⟨c, c1, c2, e⟩
    · injection e with a b d; subst a; subst b; subst d
      have E : aL ⟨0, 0, []⟩ = ay (0 * 10000) := by unfold aL; rw [hc]; rfl
      rw [E]; exact el 149 _ 0 0 [] w (by omega) (by omega) (by simp) eg (Lib.hid (fun w => fo (fm 0 0 [] w))) hc 150 (.agg #[.int .u8 ((0 : Nat) : Int), .int .i64 0, .string ⟨([] : List UInt8).toArray⟩]) (ay (0 * 10000)) (fun w b h => fU w b _ 5 0 0 _ h rfl) e_number (fun wz kz => (ke 0 0 [] wz (by omega) (by omega)))
    · injection e with a b d; subst a; subst b; subst d
      have E : aL ⟨1, n, []⟩ = ⟨1, n, []⟩ := by unfold aL; rw [hc]; rfl
      rw [E]; exact el 149 _ 1 n [] w (by omega) (by omega) (by simp) eg (Lib.hid (fun w => fo (fm 1 n [] w))) hc 151 (.agg #[.int .u8 ((1 : Nat) : Int), .int .i64 n, .string ⟨([] : List UInt8).toArray⟩]) (⟨1, n, []⟩) (fun w b h => fU w b _ 5 1 1 _ h rfl) e_same (fun wz kz => (tX 1 n [] wz))
    · injection e with a b d; subst a; subst d; (obtain rfl : n = 0 := b)
      have E : aL ⟨2, 0, []⟩ = ay (0 * 10000) := by unfold aL; rw [hc]; rfl
      rw [E]; exact el 149 _ 2 0 [] w (by omega) (by omega) (by simp) eg (Lib.hid (fun w => fo (fm 2 0 [] w))) hc 150 (.agg #[.int .u8 ((2 : Nat) : Int), .int .i64 0, .string ⟨([] : List UInt8).toArray⟩]) (ay (0 * 10000)) (fun w b h => fU w b _ 5 2 2 _ h rfl) e_number (fun wz kz => (ke 2 0 [] wz (by omega) (by omega)))
    · injection e with a b d; subst a; subst d; (obtain rfl : n = 1 := b)
      have E : aL ⟨2, 1, []⟩ = ay (1 * 10000) := by unfold aL; rw [hc]; rfl
      rw [E]; exact el 149 _ 2 1 [] w (by omega) (by omega) (by simp) eg (Lib.hid (fun w => fo (fm 2 1 [] w))) hc 150 (.agg #[.int .u8 ((2 : Nat) : Int), .int .i64 1, .string ⟨([] : List UInt8).toArray⟩]) (ay (1 * 10000)) (fun w b h => fU w b _ 5 2 2 _ h rfl) e_number (fun wz kz => (ke 2 1 [] wz (by omega) (by omega)))
    · injection e with a b d; subst a; subst b; subst d
      have E : aL ⟨3, 0, t⟩ = iC t := by unfold aL; rw [hc]; rfl
      rw [E]; exact el 149 _ 3 0 t w (by omega) (by omega) (by omega) eg (Lib.hid (fun w => fo (fm 3 0 t w))) hc 152 (.agg #[.int .u8 ((3 : Nat) : Int), .int .i64 0, .string ⟨(t : List UInt8).toArray⟩]) (iC t) (fun w b h => fU w b _ 5 3 3 _ h rfl) e_read (fun wz kz => (yf 3 0 t wz m (hm.kept kz) ht))
    · injection e with a b d; subst a; subst b; subst d
      have E : aL ⟨4, n, []⟩ = ⟨4, n, []⟩ := by unfold aL; rw [hc]; rfl
      rw [E]; exact el 149 _ 4 n [] w (by omega) (by omega) (by simp) eg (Lib.hid (fun w => fo (fm 4 n [] w))) hc 151 (.agg #[.int .u8 ((4 : Nat) : Int), .int .i64 n, .string ⟨([] : List UInt8).toArray⟩]) (⟨4, n, []⟩) (fun w b h => fU w b _ 5 4 4 _ h rfl) e_same (fun wz kz => (tX 4 n [] wz))
  · have hc' : vOk ⟨k, n, t⟩ = false := by simpa using hc
    have E : aL ⟨k, n, t⟩ = aG 2 := by unfold aL; rw [if_pos hc']
    rw [E]; rcases BD (f0 := 150) (f1 := 151) (f2 := 150) (f3 := 152) (f4 := 151) (x0 := (.agg #[.int .u8 k, .int .i64 n, .string ⟨t.toArray⟩])) (x := (.agg #[.int .u8 k, .int .i64 n, .string ⟨t.toArray⟩])) k with ⟨fv, h⟩ | h
    · exact so 149 _ k n t w h1 h2 (by omega) eg (Lib.hid (fun w => fo (fm k n t w))) hc' fv h
    · exact yi 149 _ k n t w h1 h2 (by omega) eg (Lib.hid (fun w => fo (fm k n t w))) h
theorem qn (v : Vl) (w : World) (m : Int) (hm : Mx w m) (hn : i64 v.n) (ht : v.t.length ≤ 2000) : Calls Tryz.prog 122 #[ae v] w fun e w' => e = .returned (ae (aL v)) ∧ Kept w w' := by
  obtain ⟨k, n, t⟩ := v; have C := Lib.hid (fun w (h : Mx w m) => BE k n t w m h hn.1 hn.2 ht); generalize aL ⟨k, n, t⟩ = f at *; have HM := Lib.hid hm; clear hm; go_enter Tryz.func122, Tryz.ntmps122; go_wp2_with fail; refine (C.out _ (HM.out.kept (((Kept.refl _).alloc _).alloc _))).mono ?_; rintro e w1 ⟨rfl, k1⟩; obtain ⟨k1c, k1f⟩ := bP k1; have k1z := Below.size k1
  try simp only [World.size_alloc] at k1z k1c k1f
  have k1w : w.heap.size + 1 < w1.heap.size := by omega
  go_wp2_with fail; exact bodyPost_ret (v := ae f) (by simp [results, Tryz.results122, go_sem, k1c, k1w]) rfl ⟨rfl, kpt⟩
end
section
open Go.RowKit Lv
theorem nG (v : Vl) (w : World) (hn : i64 v.n) (ht : v.t.length ≤ 2000) : Calls Tryz.prog 58 #[ae v] w fun e w' => e = .returned (ae (aL v)) ∧ Kept w w' := by
  have C := Lib.hid (fun w => cZ v w hn (by omega))
  by_cases hc : vOk v = true
  · rw [cX hc] at C
    rcases fd hc with e | ⟨n, hn', e⟩ | e | e | ⟨t, ho, e⟩ | ⟨c, c1, c2, e⟩
    · subst e
      have E : Hid (aL ⟨0, 0, []⟩ = ay 0) := by
        show _ = _; unfold aL; rw [hc]; rfl
      have C2 : Hid (∀ w, Calls Tryz.prog 47 #[.agg #[.int .u8 0, .int .i64 0, .string ⟨#[]⟩]] w fun e w' => e = .returned (.int .i64 0) ∧ Kept w w') := C.out; clear hc C; have M := Lib.hid (fun w => cm 0 w (by omega) (by omega)); generalize ay 0 = f at *; show Calls _ _ #[.agg #[.int .u8 0, .int .i64 0, .string ⟨#[]⟩]] w _; go_enter Tryz.func58, Tryz.ntmps58; go_wp2_with fail; refine (C2.out _).mono ?_; rintro e w1 ⟨rfl, k1⟩; obtain ⟨k1c, k1f⟩ := bP k1; have k1z := Below.size k1
      try simp only [World.size_alloc, World.size_setCell] at k1z k1c k1f
      try have k1x : w.heap.size ≤ w1.heap.size := by omega
      try have k1y := Nat.lt_of_succ_le k1z
      try have k1x2 : w.heap.size < w1.heap.size := by omega
      try have k1w : w.heap.size + 1 < w1.heap.size := by omega
      go_wp2_with fail; refine (M.out _).mono ?_; rintro e w2 ⟨rfl, k2⟩; obtain ⟨k2c, k2f⟩ := bP k2; have k2z := Below.size k2
      try simp only [World.size_alloc, World.size_setCell] at k2z k2c k2f
      try have k2x : w.heap.size ≤ w2.heap.size := by omega
      try have k2y := Nat.lt_of_succ_le k2z
      try have k2x2 : w.heap.size < w2.heap.size := by omega
      try have k2w : w.heap.size + 1 < w2.heap.size := by omega
      go_wp2_with fail; exact bodyPost_ret (v := ae f) (by simp [results, Tryz.results58, go_sem, k1c, k1w, k1x2, k2c, k2w, k2x2]) rfl ⟨by rw [E.out], kpt⟩
    · subst e
      have E : Hid (aL ⟨1, n, []⟩ = ⟨1, n, []⟩) := by
        show _ = _; unfold aL; rw [hc]; rfl
      have C2 : Hid (∀ w, Calls Tryz.prog 47 #[.agg #[.int .u8 1, .int .i64 n, .string ⟨#[]⟩]] w fun e w' => e = .returned (.int .i64 0) ∧ Kept w w') := C.out; clear hc C; show Calls _ _ #[.agg #[.int .u8 1, .int .i64 n, .string ⟨#[]⟩]] w _; go_enter Tryz.func58, Tryz.ntmps58; go_wp2_with fail; refine (C2.out _).mono ?_; rintro e w1 ⟨rfl, k1⟩; obtain ⟨k1c, k1f⟩ := bP k1; have k1z := Below.size k1
      try simp only [World.size_alloc, World.size_setCell] at k1z k1c k1f
      try have k1x : w.heap.size ≤ w1.heap.size := by omega
      try have k1y := Nat.lt_of_succ_le k1z
      try have k1x2 : w.heap.size < w1.heap.size := by omega
      try have k1w : w.heap.size + 1 < w1.heap.size := by omega
      go_wp2_with fail; exact bodyPost_ret (v := ae ⟨1, n, []⟩) (by simp [results, Tryz.results58, go_sem, k1c, k1w, k1x2]) rfl ⟨by rw [E.out], kpt⟩
    · have e : v = ⟨2, 0, []⟩ := e
      subst e
      have E : Hid (aL ⟨2, 0, []⟩ = ay (0 * 10000)) := by
        show _ = _; unfold aL; rw [hc]; rfl
      have C2 : Hid (∀ w, Calls Tryz.prog 47 #[.agg #[.int .u8 2, .int .i64 0, .string ⟨#[]⟩]] w fun e w' => e = .returned (.int .i64 0) ∧ Kept w w') := C.out; clear hc C; have M : Hid (∀ w, Calls Tryz.prog 50 #[.int .i64 0] w fun e w' => e = .returned (ae (ay (0 * 10000))) ∧ Kept w w') := fun w => cm 0 w (by omega) (by omega); generalize ay (0 * 10000) = f at *; show Calls _ _ #[.agg #[.int .u8 2, .int .i64 0, .string ⟨#[]⟩]] w _; go_enter Tryz.func58, Tryz.ntmps58; go_wp2_with fail; refine (C2.out _).mono ?_; rintro e w1 ⟨rfl, k1⟩; obtain ⟨k1c, k1f⟩ := bP k1; have k1z := Below.size k1
      try simp only [World.size_alloc, World.size_setCell] at k1z k1c k1f
      try have k1x : w.heap.size ≤ w1.heap.size := by omega
      try have k1y := Nat.lt_of_succ_le k1z
      try have k1x2 : w.heap.size < w1.heap.size := by omega
      try have k1w : w.heap.size + 1 < w1.heap.size := by omega
      go_wp2_with fail; refine (M.out _).mono ?_; rintro e w2 ⟨rfl, k2⟩; obtain ⟨k2c, k2f⟩ := bP k2; have k2z := Below.size k2
      try simp only [World.size_alloc, World.size_setCell] at k2z k2c k2f
      try have k2x : w.heap.size ≤ w2.heap.size := by omega
      try have k2y := Nat.lt_of_succ_le k2z
      try have k2x2 : w.heap.size < w2.heap.size := by omega
      try have k2w : w.heap.size + 1 < w2.heap.size := by omega
      go_wp2_with fail; exact bodyPost_ret (v := ae f) (by simp [results, Tryz.results58, go_sem, k1c, k1w, k1x2, k2c, k2w, k2x2]) rfl ⟨by rw [E.out], kpt⟩
    · have e : v = ⟨2, 1, []⟩ := e
      subst e
      have E : Hid (aL ⟨2, 1, []⟩ = ay (1 * 10000)) := by
        show _ = _; unfold aL; rw [hc]; rfl
      have C2 : Hid (∀ w, Calls Tryz.prog 47 #[.agg #[.int .u8 2, .int .i64 1, .string ⟨#[]⟩]] w fun e w' => e = .returned (.int .i64 0) ∧ Kept w w') := C.out; clear hc C; have M : Hid (∀ w, Calls Tryz.prog 50 #[.int .i64 10000] w fun e w' => e = .returned (ae (ay (1 * 10000))) ∧ Kept w w') := fun w => cm 10000 w (by omega) (by omega); generalize ay (1 * 10000) = f at *; show Calls _ _ #[.agg #[.int .u8 2, .int .i64 1, .string ⟨#[]⟩]] w _; go_enter Tryz.func58, Tryz.ntmps58; go_wp2_with fail; refine (C2.out _).mono ?_; rintro e w1 ⟨rfl, k1⟩; obtain ⟨k1c, k1f⟩ := bP k1; have k1z := Below.size k1
      try simp only [World.size_alloc, World.size_setCell] at k1z k1c k1f
      try have k1x : w.heap.size ≤ w1.heap.size := by omega
      try have k1y := Nat.lt_of_succ_le k1z
      try have k1x2 : w.heap.size < w1.heap.size := by omega
      try have k1w : w.heap.size + 1 < w1.heap.size := by omega
      go_wp2_with fail; refine (M.out _).mono ?_; rintro e w2 ⟨rfl, k2⟩; obtain ⟨k2c, k2f⟩ := bP k2; have k2z := Below.size k2
      try simp only [World.size_alloc, World.size_setCell] at k2z k2c k2f
      try have k2x : w.heap.size ≤ w2.heap.size := by omega
      try have k2y := Nat.lt_of_succ_le k2z
      try have k2x2 : w.heap.size < w2.heap.size := by omega
      try have k2w : w.heap.size + 1 < w2.heap.size := by omega
      go_wp2_with fail; exact bodyPost_ret (v := ae f) (by simp [results, Tryz.results58, go_sem, k1c, k1w, k1x2, k2c, k2w, k2x2]) rfl ⟨by rw [E.out], kpt⟩
    · subst e
      have E : Hid (aL ⟨3, 0, t⟩ = iC t) := by
        show _ = _; unfold aL; rw [hc]; rfl
      have C2 : Hid (∀ w, Calls Tryz.prog 47 #[.agg #[.int .u8 3, .int .i64 0, .string ⟨t.toArray⟩]] w fun e w' => e = .returned (.int .i64 0) ∧ Kept w w') := C.out; clear hc C; have T := Lib.hid (fun w => xM t w (by have : t.length ≤ 2000 := ht; omega)); have tl := lg t; have P := Lib.hid (fun w => vO (eY t) w (by have : t.length ≤ 2000 := ht; omega)); have R : iC t = if (cW (eY t)).2 = 0 then ay (cW (eY t)).1 else if (cW (eY t)).2 = 3 then aG 3 else aG 2 := rfl
      have pr := lW (eY t); rw [R] at E; generalize cW (eY t) = p at *; generalize eY t = u at *; obtain ⟨p1, p2⟩ := p
      simp only at E pr
      clear R tl
      by_cases c : p2 = 0
      · subst c
        rw [if_pos rfl] at E; have M := Lib.hid (fun w => cm p1 w pr.1 pr.2); generalize ay p1 = f at *; show Calls _ _ #[.agg #[.int .u8 3, .int .i64 0, .string ⟨t.toArray⟩]] w _; go_enter Tryz.func58, Tryz.ntmps58; go_wp2_with fail; refine (C2.out _).mono ?_; rintro e w1 ⟨rfl, k1⟩; obtain ⟨k1c, k1f⟩ := bP k1; have k1z := Below.size k1
        try simp only [World.size_alloc, World.size_setCell] at k1z k1c k1f
        try have k1x : w.heap.size ≤ w1.heap.size := by omega
        try have k1y := Nat.lt_of_succ_le k1z
        try have k1x2 : w.heap.size < w1.heap.size := by omega
        try have k1w : w.heap.size + 1 < w1.heap.size := by omega
        go_wp2_with fail; refine (T.out _).mono ?_; rintro e w2 ⟨rfl, k2⟩; obtain ⟨k2c, k2f⟩ := bP k2; have k2z := Below.size k2
        try simp only [World.size_alloc, World.size_setCell] at k2z k2c k2f
        try have k2x : w.heap.size ≤ w2.heap.size := by omega
        try have k2y := Nat.lt_of_succ_le k2z
        try have k2x2 : w.heap.size < w2.heap.size := by omega
        try have k2w : w.heap.size + 1 < w2.heap.size := by omega
        go_wp2_with fail; refine (P.out _).mono ?_; rintro e w3 ⟨rfl, k3⟩; obtain ⟨k3c, k3f⟩ := bP k3; have k3z := Below.size k3
        try simp only [World.size_alloc, World.size_setCell] at k3z k3c k3f
        try have k3x : w.heap.size ≤ w3.heap.size := by omega
        try have k3y := Nat.lt_of_succ_le k3z
        try have k3x2 : w.heap.size < w3.heap.size := by omega
        try have k3w : w.heap.size + 1 < w3.heap.size := by omega
        go_wp2_with fail; refine (M.out _).mono ?_; rintro e w4 ⟨rfl, k4⟩; obtain ⟨k4c, k4f⟩ := bP k4; have k4z := Below.size k4
        try simp only [World.size_alloc, World.size_setCell] at k4z k4c k4f
        try have k4x : w.heap.size ≤ w4.heap.size := by omega
        try have k4y := Nat.lt_of_succ_le k4z
        try have k4x2 : w.heap.size < w4.heap.size := by omega
        try have k4w : w.heap.size + 1 < w4.heap.size := by omega
        go_wp2_with fail; exact bodyPost_ret (v := ae f) (by simp [results, Tryz.results58, go_sem, k1c, k1w, k1x2, k2c, k2w, k2x2, k3c, k3w, k3x2, k4c, k4w, k4x2]) rfl ⟨by rw [E.out], kpt⟩
      rw [if_neg c] at E; have b0 : (p2 != 0) = true := by simpa using c
      by_cases d : p2 = 3
      · subst d
        rw [if_pos rfl] at E; clear c b0; have M := Lib.hid (fun w => cC 3 w); generalize aG 3 = f at *; show Calls _ _ #[.agg #[.int .u8 3, .int .i64 0, .string ⟨t.toArray⟩]] w _; go_enter Tryz.func58, Tryz.ntmps58; go_wp2_with fail; refine (C2.out _).mono ?_; rintro e w1 ⟨rfl, k1⟩; obtain ⟨k1c, k1f⟩ := bP k1; have k1z := Below.size k1
        try simp only [World.size_alloc, World.size_setCell] at k1z k1c k1f
        try have k1x : w.heap.size ≤ w1.heap.size := by omega
        try have k1y := Nat.lt_of_succ_le k1z
        try have k1x2 : w.heap.size < w1.heap.size := by omega
        try have k1w : w.heap.size + 1 < w1.heap.size := by omega
        go_wp2_with fail; refine (T.out _).mono ?_; rintro e w2 ⟨rfl, k2⟩; obtain ⟨k2c, k2f⟩ := bP k2; have k2z := Below.size k2
        try simp only [World.size_alloc, World.size_setCell] at k2z k2c k2f
        try have k2x : w.heap.size ≤ w2.heap.size := by omega
        try have k2y := Nat.lt_of_succ_le k2z
        try have k2x2 : w.heap.size < w2.heap.size := by omega
        try have k2w : w.heap.size + 1 < w2.heap.size := by omega
        go_wp2_with fail; refine (P.out _).mono ?_; rintro e w3 ⟨rfl, k3⟩; obtain ⟨k3c, k3f⟩ := bP k3; have k3z := Below.size k3
        try simp only [World.size_alloc, World.size_setCell] at k3z k3c k3f
        try have k3x : w.heap.size ≤ w3.heap.size := by omega
        try have k3y := Nat.lt_of_succ_le k3z
        try have k3x2 : w.heap.size < w3.heap.size := by omega
        try have k3w : w.heap.size + 1 < w3.heap.size := by omega
        go_wp2_with fail; refine (M.out _).mono ?_; rintro e w4 ⟨rfl, k4⟩; obtain ⟨k4c, k4f⟩ := bP k4; have k4z := Below.size k4
        try simp only [World.size_alloc, World.size_setCell] at k4z k4c k4f
        try have k4x : w.heap.size ≤ w4.heap.size := by omega
        try have k4y := Nat.lt_of_succ_le k4z
        try have k4x2 : w.heap.size < w4.heap.size := by omega
        try have k4w : w.heap.size + 1 < w4.heap.size := by omega
        go_wp2_with fail; exact bodyPost_ret (v := ae f) (by simp [results, Tryz.results58, go_sem, k1c, k1w, k1x2, k2c, k2w, k2x2, k3c, k3w, k3x2, k4c, k4w, k4x2]) rfl ⟨by rw [E.out], kpt⟩
      · rw [if_neg d] at E
        have b3 : (p2 == 3) = false := by simpa using d
        clear c d; have M := Lib.hid (fun w => cC 2 w); generalize aG 2 = f at *; show Calls _ _ #[.agg #[.int .u8 3, .int .i64 0, .string ⟨t.toArray⟩]] w _; go_enter Tryz.func58, Tryz.ntmps58; go_wp2_with fail; refine (C2.out _).mono ?_; rintro e w1 ⟨rfl, k1⟩; obtain ⟨k1c, k1f⟩ := bP k1; have k1z := Below.size k1
        try simp only [World.size_alloc, World.size_setCell] at k1z k1c k1f
        try have k1x : w.heap.size ≤ w1.heap.size := by omega
        try have k1y := Nat.lt_of_succ_le k1z
        try have k1x2 : w.heap.size < w1.heap.size := by omega
        try have k1w : w.heap.size + 1 < w1.heap.size := by omega
        go_wp2_with fail; refine (T.out _).mono ?_; rintro e w2 ⟨rfl, k2⟩; obtain ⟨k2c, k2f⟩ := bP k2; have k2z := Below.size k2
        try simp only [World.size_alloc, World.size_setCell] at k2z k2c k2f
        try have k2x : w.heap.size ≤ w2.heap.size := by omega
        try have k2y := Nat.lt_of_succ_le k2z
        try have k2x2 : w.heap.size < w2.heap.size := by omega
        try have k2w : w.heap.size + 1 < w2.heap.size := by omega
        go_wp2_with fail; refine (P.out _).mono ?_; rintro e w3 ⟨rfl, k3⟩; obtain ⟨k3c, k3f⟩ := bP k3; have k3z := Below.size k3
        try simp only [World.size_alloc, World.size_setCell] at k3z k3c k3f
        try have k3x : w.heap.size ≤ w3.heap.size := by omega
        try have k3y := Nat.lt_of_succ_le k3z
        try have k3x2 : w.heap.size < w3.heap.size := by omega
        try have k3w : w.heap.size + 1 < w3.heap.size := by omega
        go_wp2_with fail; refine (M.out _).mono ?_; rintro e w4 ⟨rfl, k4⟩; obtain ⟨k4c, k4f⟩ := bP k4; have k4z := Below.size k4
        try simp only [World.size_alloc, World.size_setCell] at k4z k4c k4f
        try have k4x : w.heap.size ≤ w4.heap.size := by omega
        try have k4y := Nat.lt_of_succ_le k4z
        try have k4x2 : w.heap.size < w4.heap.size := by omega
        try have k4w : w.heap.size + 1 < w4.heap.size := by omega
        go_wp2_with fail; exact bodyPost_ret (v := ae f) (by simp [results, Tryz.results58, go_sem, k1c, k1w, k1x2, k2c, k2w, k2x2, k3c, k3w, k3x2, k4c, k4w, k4x2]) rfl ⟨by rw [E.out], kpt⟩
    · subst e
      have E : Hid (aL ⟨4, c, []⟩ = ⟨4, c, []⟩) := by
        show _ = _; unfold aL; rw [hc]; rfl
      have C2 : Hid (∀ w, Calls Tryz.prog 47 #[.agg #[.int .u8 4, .int .i64 c, .string ⟨#[]⟩]] w fun e w' => e = .returned (.int .i64 0) ∧ Kept w w') := C.out; clear hc C; show Calls _ _ #[.agg #[.int .u8 4, .int .i64 c, .string ⟨#[]⟩]] w _; go_enter Tryz.func58, Tryz.ntmps58; go_wp2_with fail; refine (C2.out _).mono ?_; rintro e w1 ⟨rfl, k1⟩; obtain ⟨k1c, k1f⟩ := bP k1; have k1z := Below.size k1
      try simp only [World.size_alloc, World.size_setCell] at k1z k1c k1f
      try have k1x : w.heap.size ≤ w1.heap.size := by omega
      try have k1y := Nat.lt_of_succ_le k1z
      try have k1x2 : w.heap.size < w1.heap.size := by omega
      try have k1w : w.heap.size + 1 < w1.heap.size := by omega
      go_wp2_with fail; exact bodyPost_ret (v := ae ⟨4, c, []⟩) (by simp [results, Tryz.results58, go_sem, k1c, k1w, k1x2]) rfl ⟨by rw [E.out], kpt⟩
  · have hc' : vOk v = false := by simpa using hc
    have E : Hid (aL v = aG 2) := by
      show _ = _; unfold aL; rw [if_pos hc']
    rw [cK hc'] at C; have M := Lib.hid (fun w => cC 2 w); generalize aG 2 = f at *; generalize aL v = r at *; obtain ⟨k, n, t⟩ := v; clear hc hc'; go_enter Tryz.func58, Tryz.ntmps58; go_wp2_with fail; refine (C.out _).mono ?_; rintro e w1 ⟨rfl, k1⟩; obtain ⟨k1c, k1f⟩ := bP k1; have k1z := Below.size k1
    try simp only [World.size_alloc, World.size_setCell] at k1z k1c k1f
    try have k1x : w.heap.size ≤ w1.heap.size := by omega
    try have k1y := Nat.lt_of_succ_le k1z
    try have k1x2 : w.heap.size < w1.heap.size := by omega
    try have k1w : w.heap.size + 1 < w1.heap.size := by omega
    go_wp2_with fail; refine (M.out _).mono ?_; rintro e w2 ⟨rfl, k2⟩; obtain ⟨k2c, k2f⟩ := bP k2; have k2z := Below.size k2
    try simp only [World.size_alloc, World.size_setCell] at k2z k2c k2f
    try have k2x : w.heap.size ≤ w2.heap.size := by omega
    try have k2y := Nat.lt_of_succ_le k2z
    try have k2x2 : w.heap.size < w2.heap.size := by omega
    try have k2w : w.heap.size + 1 < w2.heap.size := by omega
    go_wp2_with fail; exact bodyPost_ret (v := ae f) (by simp [results, Tryz.results58, go_sem, k1c, k1w, k2c, k2w]) rfl ⟨by rw [E.out], kpt⟩
end
section
open Go.ChangeShapes Go.WideShapes Go.RowKit Lv
end
section
open Go.RowKit Lv
end
section
open Go.RowKit Lv
end
section
open Go.ChangeShapes Go.WideShapes Go.RowKit Go.Joins Lv
theorem qo : Tryz.prog.cellsOf 25 = 3 := by kernel_rfl
