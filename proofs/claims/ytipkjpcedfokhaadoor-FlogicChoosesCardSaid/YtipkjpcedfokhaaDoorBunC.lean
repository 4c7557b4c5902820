/- BunC: the texts GConv1, GConv2, GConv3, GConv4, GConv5, GWords, GShow, GKnown5, GOpen together. -/
import Derived.Test.YtipkjpcedfokhaaDoorBunV
import Derived.MapKept
import Derived.WideMake
import Derived.Deep.RegionHeld3
import Derived.Test.YtipkjpcedfokhaaDoorBunW
import Derived.Test.YtipkjpcedfokhaaDoorBunR
import Derived.Test.YtipkjpcedfokhaaDoorRows
import Derived.Test.YtipkjpcedfokhaaDoorTie
import Derived.LaidSub
import Derived.ChangeVars
import Derived.JoinedOf
import Derived.Lib.SmallJoins
import Derived.OpenShut
import Derived.ShutString
namespace Go.Proofs.YtipkjpcedfokhaaDoor
set_option linter.unusedVariables false
set_option linter.unusedSimpArgs false
open Go.RowKit Lv

abbrev MT : TypeId := 89
/-- one entry more -/
theorem ins_step (w : World) (b : Nat) (es : Array MapEntry) (clock k : Nat) (v : Value) (hb : w.heap[b]? = some (.map es clock)) (hk : Instr.findNow (.int .u8) (.int .u8 k) es.toList 0 = some none) :
    ∃ w', (Instr.mapUpdate 89 (.map (some b)) (.int .u8 k) v).run Tryd.prog w = .ok () w' ∧ w'.heap[b]? = some (.map (es.push ⟨.int .u8 k, v, clock⟩) (clock + 1)) ∧ Only b w w' := by
  have hc : (Instr.checkKey false 10000 5 (.int .u8 k)).run Tryd.prog w = .ok () w := MapKept.run_checkKey (k := .int .u8 k) Tryd.underlying5 (by simp [MapKept.IsKey]) false 9999
  refine ⟨{ w with heap := w.heap.setIfInBounds b (.map (es.push ⟨.int .u8 k, v, clock⟩) (clock + 1)) }, ?_, (MapKept.heap_set hb).1, ⟨rfl, rfl, rfl, by simp, fun r _ hr => (MapKept.heap_set hb).2 r hr⟩⟩
  simp [Instr.mapUpdate, run_underlying Tryd.underlying89, MapKept.run_getObj_map hb, hc, MapKept.run_findKey Tryd.underlying5 hk, MapKept.run_setObj_map _ hb, Result.andThen]
theorem look_hit (w : World) (b : Nat) (es : Array MapEntry) (clock k i : Nat) (v : Value) (hb : w.heap[b]? = some (.map es clock)) (hk : Instr.findNow (.int .u8) (.int .u8 k) es.toList 0 = some (some (i, v))) :
    (Instr.lookup 89 (.map (some b)) (.int .u8 k) true).run Tryd.prog w = .ok (.tuple #[v, .bool true]) w := by
  have hc : (Instr.checkKey es.isEmpty 10000 5 (.int .u8 k)).run Tryd.prog w = .ok () w := MapKept.run_checkKey (k := .int .u8 k) Tryd.underlying5 (by simp [MapKept.IsKey]) _ 9999
  simp [Instr.lookup, run_underlying Tryd.underlying89, MapKept.run_getObj_map hb, hc, MapKept.run_findKey Tryd.underlying5 hk, Result.andThen]
theorem zero_func (w : World) : (zeroValue 90).run Tryd.prog w = .ok .nilFunc w := by kernel_rfl
theorem look_miss (w : World) (b : Nat) (es : Array MapEntry) (clock k : Nat) (hb : w.heap[b]? = some (.map es clock)) (hk : Instr.findNow (.int .u8) (.int .u8 k) es.toList 0 = some none) :
    ∃ v, (Instr.lookup 89 (.map (some b)) (.int .u8 k) true).run Tryd.prog w = .ok (.tuple #[v, .bool false]) w := by
  have hc : (Instr.checkKey es.isEmpty 10000 5 (.int .u8 k)).run Tryd.prog w = .ok () w := MapKept.run_checkKey (k := .int .u8 k) Tryd.underlying5 (by simp [MapKept.IsKey]) _ 9999
  exact ⟨.nilFunc, by simp [Instr.lookup, run_underlying Tryd.underlying89, MapKept.run_getObj_map hb, hc, MapKept.run_findKey Tryd.underlying5 hk, Result.andThen, zero_func]⟩

/-- the table of five conversions -/
abbrev tab5 (f0 f1 f2 f3 f4 : Nat) (x0 x : Value) : Array MapEntry :=
  #[⟨.int .u8 0, .func (.func f0) #[x0] #[], 0⟩, ⟨.int .u8 1, .func (.func f1) #[x] #[], 1⟩, ⟨.int .u8 2, .func (.func f2) #[x] #[], 2⟩, ⟨.int .u8 3, .func (.func f3) #[x] #[], 3⟩, ⟨.int .u8 4, .func (.func f4) #[x] #[], 4⟩]
/-- five entries, one after the other -/
theorem ins_five (w : World) (b f0 f1 f2 f3 f4 : Nat) (x0 x : Value) (hb : w.heap[b]? = some (.map #[] 0)) :
    ∃ w1 w2 w3 w4 w5, ((Instr.mapUpdate 89 (.map (some b)) (.int .u8 0) (.func (.func f0) #[x0] #[])).run Tryd.prog w = .ok () w1 ∧ (Instr.mapUpdate 89 (.map (some b)) (.int .u8 1) (.func (.func f1) #[x] #[])).run Tryd.prog w1 = .ok () w2 ∧
      (Instr.mapUpdate 89 (.map (some b)) (.int .u8 2) (.func (.func f2) #[x] #[])).run Tryd.prog w2 = .ok () w3 ∧ (Instr.mapUpdate 89 (.map (some b)) (.int .u8 3) (.func (.func f3) #[x] #[])).run Tryd.prog w3 = .ok () w4 ∧
      (Instr.mapUpdate 89 (.map (some b)) (.int .u8 4) (.func (.func f4) #[x] #[])).run Tryd.prog w4 = .ok () w5) ∧ (Only b w w1 ∧ Only b w w2 ∧ Only b w w3 ∧ Only b w w4 ∧ Only b w w5) ∧ w5.heap[b]? = some (.map (tab5 f0 f1 f2 f3 f4 x0 x) 5) := by
  obtain ⟨w1, r1, h1, o1⟩ := ins_step w b #[] 0 0 (.func (.func f0) #[x0] #[]) hb rfl
  obtain ⟨w2, r2, h2, o2⟩ := ins_step w1 b _ _ 1 (.func (.func f1) #[x] #[]) h1 rfl
  obtain ⟨w3, r3, h3, o3⟩ := ins_step w2 b _ _ 2 (.func (.func f2) #[x] #[]) h2 rfl
  obtain ⟨w4, r4, h4, o4⟩ := ins_step w3 b _ _ 3 (.func (.func f3) #[x] #[]) h3 rfl
  obtain ⟨w5, r5, h5, o5⟩ := ins_step w4 b _ _ 4 (.func (.func f4) #[x] #[]) h4 rfl
  exact ⟨w1, w2, w3, w4, w5, ⟨r1, r2, r3, r4, r5⟩, ⟨o1, o1.trans o2, (o1.trans o2).trans o3, ((o1.trans o2).trans o3).trans o4, (((o1.trans o2).trans o3).trans o4).trans o5⟩, h5⟩

def Tabled (w : World) (b : Nat) (es : Array MapEntry) : Prop := w.heap[b]? = some (.map es 5)

set_option maxHeartbeats 1000000 in
theorem does_num (k : Nat) (n : Int) (t : List UInt8) (w : World) :
    Calls Tryd.prog 101 #[.agg #[.int .u8 k, .int .i64 n, .string ⟨t.toArray⟩]] w fun e w' => e = .returned (.map (some (w.heap.size + 1))) ∧ Kept w w' ∧ Tabled w' (w.heap.size + 1) (tab5 102 98 102 103 98 (.agg #[.int .u8 k, .int .i64 n, .string ⟨t.toArray⟩]) (.agg #[.int .u8 k, .int .i64 n, .string ⟨t.toArray⟩])) := by
  have mk := fun w => run_makeMap_plain (P := Tryd.prog) w 89
  have B0 : Box ((w.alloc (.cells #[.int .u8 k, .int .i64 n, .string ⟨t.toArray⟩] 88)).alloc (.map #[] 0)) w.heap.size 88 #[.int .u8 k, .int .i64 n, .string ⟨t.toArray⟩] := (Box.new w _ _).alloc _
  have hb : ((w.alloc (.cells #[.int .u8 k, .int .i64 n, .string ⟨t.toArray⟩] 88)).alloc (.map #[] 0)).heap[w.heap.size + 1]? = some (.map #[] 0) := by
    have := Go.heap_alloc_new (w.alloc (.cells #[.int .u8 k, .int .i64 n, .string ⟨t.toArray⟩] 88)) (.map #[] 0)
    rwa [World.size_alloc] at this
  have kw : Kept w ((w.alloc (.cells #[.int .u8 k, .int .i64 n, .string ⟨t.toArray⟩] 88)).alloc (.map #[] 0)) := ((Kept.refl w).alloc _).alloc _
  obtain ⟨w1, w2, w3, w4, w5, ⟨r1, r2, r3, r4, r5⟩, ⟨o1, o2, o3, o4, o5⟩, h5⟩ := ins_five _ (w.heap.size + 1) 102 98 102 103 98 (.agg #[.int .u8 k, .int .i64 n, .string ⟨t.toArray⟩]) (.agg #[.int .u8 k, .int .i64 n, .string ⟨t.toArray⟩]) hb
  have k5 := o5.kept kw (by omega)
  have c1 := o1.box B0 (by omega); have c2 := o2.box B0 (by omega); have c3 := o3.box B0 (by omega); have c4 := o4.box B0 (by omega)
  have a1 := c1.cell 0; have a2 := c1.cell 1; have a3 := c1.cell 2
  have b1 := c2.cell 0; have b2 := c2.cell 1; have b3 := c2.cell 2
  have d1 := c3.cell 0; have d2 := c3.cell 1; have d3 := c3.cell 2
  have e1 := c4.cell 0; have e2 := c4.cell 1; have e3 := c4.cell 2
  have H5 : Hid (Tabled w5 _ _) := h5
  clear h5 o1 o2 o3 o4 o5 c1 c2 c3 c4 B0 hb
  have K5 := Lib.hid k5
  go_enter Tryd.func101, Tryd.ntmps101
  go_wp2_with fail
  go_ret
  exact ⟨rfl, K5.out, H5.out⟩

set_option maxHeartbeats 1000000 in
theorem does_bool (k : Nat) (n : Int) (t : List UInt8) (w : World) :
    Calls Tryd.prog 96 #[.agg #[.int .u8 k, .int .i64 n, .string ⟨t.toArray⟩]] w fun e w' => e = .returned (.map (some (w.heap.size + 1))) ∧ Kept w w' ∧ Tabled w' (w.heap.size + 1) (tab5 97 97 98 99 98 (.agg #[.int .u8 k, .int .i64 n, .string ⟨t.toArray⟩]) (.agg #[.int .u8 k, .int .i64 n, .string ⟨t.toArray⟩])) := by
  have mk := fun w => run_makeMap_plain (P := Tryd.prog) w 89
  have B0 : Box ((w.alloc (.cells #[.int .u8 k, .int .i64 n, .string ⟨t.toArray⟩] 88)).alloc (.map #[] 0)) w.heap.size 88 #[.int .u8 k, .int .i64 n, .string ⟨t.toArray⟩] := (Box.new w _ _).alloc _
  have hb : ((w.alloc (.cells #[.int .u8 k, .int .i64 n, .string ⟨t.toArray⟩] 88)).alloc (.map #[] 0)).heap[w.heap.size + 1]? = some (.map #[] 0) := by
    have := Go.heap_alloc_new (w.alloc (.cells #[.int .u8 k, .int .i64 n, .string ⟨t.toArray⟩] 88)) (.map #[] 0)
    rwa [World.size_alloc] at this
  have kw : Kept w ((w.alloc (.cells #[.int .u8 k, .int .i64 n, .string ⟨t.toArray⟩] 88)).alloc (.map #[] 0)) := ((Kept.refl w).alloc _).alloc _
  obtain ⟨w1, w2, w3, w4, w5, ⟨r1, r2, r3, r4, r5⟩, ⟨o1, o2, o3, o4, o5⟩, h5⟩ := ins_five _ (w.heap.size + 1) 97 97 98 99 98 (.agg #[.int .u8 k, .int .i64 n, .string ⟨t.toArray⟩]) (.agg #[.int .u8 k, .int .i64 n, .string ⟨t.toArray⟩]) hb
  have k5 := o5.kept kw (by omega)
  have c1 := o1.box B0 (by omega); have c2 := o2.box B0 (by omega); have c3 := o3.box B0 (by omega); have c4 := o4.box B0 (by omega)
  have a1 := c1.cell 0; have a2 := c1.cell 1; have a3 := c1.cell 2
  have b1 := c2.cell 0; have b2 := c2.cell 1; have b3 := c2.cell 2
  have d1 := c3.cell 0; have d2 := c3.cell 1; have d3 := c3.cell 2
  have e1 := c4.cell 0; have e2 := c4.cell 1; have e3 := c4.cell 2
  have H5 : Hid (Tabled w5 _ _) := h5
  clear h5 o1 o2 o3 o4 o5 c1 c2 c3 c4 B0 hb
  have K5 := Lib.hid k5
  go_enter Tryd.func96, Tryd.ntmps96
  go_wp2_with fail
  go_ret
  exact ⟨rfl, K5.out, H5.out⟩

set_option maxHeartbeats 1000000 in
theorem does_txt (k : Nat) (n : Int) (t : List UInt8) (w : World) :
    Calls Tryd.prog 105 #[.agg #[.int .u8 k, .int .i64 n, .string ⟨t.toArray⟩]] w fun e w' => e = .returned (.map (some (w.heap.size + 2))) ∧ Kept w w' ∧ Tabled w' (w.heap.size + 2) (tab5 98 106 107 98 98 (.agg #[.int .u8 3, .int .i64 0, .string ⟨#[]⟩]) (.agg #[.int .u8 k, .int .i64 n, .string ⟨t.toArray⟩])) := by
  have mk := fun w => run_makeMap_plain (P := Tryd.prog) w 89
  have B0 : Box (((w.alloc (.cells #[.int .u8 k, .int .i64 n, .string ⟨t.toArray⟩] 88)).alloc (.cells #[.int .u8 3, .int .i64 0, .string ⟨#[]⟩] 88)).alloc (.map #[] 0)) w.heap.size 88 #[.int .u8 k, .int .i64 n, .string ⟨t.toArray⟩] := ((Box.new w _ _).alloc _).alloc _
  have B1 : Box (((w.alloc (.cells #[.int .u8 k, .int .i64 n, .string ⟨t.toArray⟩] 88)).alloc (.cells #[.int .u8 3, .int .i64 0, .string ⟨#[]⟩] 88)).alloc (.map #[] 0)) (w.heap.size + 1) 88 #[.int .u8 3, .int .i64 0, .string ⟨#[]⟩] := (Box.newAt (by simp) _ _).alloc _
  have hb : (((w.alloc (.cells #[.int .u8 k, .int .i64 n, .string ⟨t.toArray⟩] 88)).alloc (.cells #[.int .u8 3, .int .i64 0, .string ⟨#[]⟩] 88)).alloc (.map #[] 0)).heap[w.heap.size + 2]? = some (.map #[] 0) := by
    have := Go.heap_alloc_new ((w.alloc (.cells #[.int .u8 k, .int .i64 n, .string ⟨t.toArray⟩] 88)).alloc (.cells #[.int .u8 3, .int .i64 0, .string ⟨#[]⟩] 88)) (.map #[] 0)
    rwa [World.size_alloc, World.size_alloc] at this
  have kw : Kept w (((w.alloc (.cells #[.int .u8 k, .int .i64 n, .string ⟨t.toArray⟩] 88)).alloc (.cells #[.int .u8 3, .int .i64 0, .string ⟨#[]⟩] 88)).alloc (.map #[] 0)) := (((Kept.refl w).alloc _).alloc _).alloc _
  obtain ⟨w1, w2, w3, w4, w5, ⟨r1, r2, r3, r4, r5⟩, ⟨o1, o2, o3, o4, o5⟩, h5⟩ := ins_five _ (w.heap.size + 2) 98 106 107 98 98 (.agg #[.int .u8 3, .int .i64 0, .string ⟨#[]⟩]) (.agg #[.int .u8 k, .int .i64 n, .string ⟨t.toArray⟩]) hb
  have k5 := o5.kept kw (by omega)
  have c1 := o1.box B0 (by omega); have c2 := o2.box B0 (by omega); have c3 := o3.box B0 (by omega); have c4 := o4.box B0 (by omega)
  have a1 := c1.cell 0; have a2 := c1.cell 1; have a3 := c1.cell 2
  have b1 := c2.cell 0; have b2 := c2.cell 1; have b3 := c2.cell 2
  have d1 := c3.cell 0; have d2 := c3.cell 1; have d3 := c3.cell 2
  have e1 := c4.cell 0; have e2 := c4.cell 1; have e3 := c4.cell 2
  have H5 : Hid (Tabled w5 _ _) := h5
  clear h5 o1 o2 o3 o4 o5 c1 c2 c3 c4 B0 B1 hb
  have K5 := Lib.hid k5
  go_enter Tryd.func105, Tryd.ntmps105
  go_wp2_with fail
  go_ret
  exact ⟨rfl, K5.out, H5.out⟩
end Go.Proofs.YtipkjpcedfokhaaDoor

namespace Go.Proofs.YtipkjpcedfokhaaDoor
set_option linter.unusedVariables false
set_option linter.unusedSimpArgs false
open Go.RowKit Lv

theorem same_any (k : Nat) (n : Int) (t : List UInt8) (w : World) : Calls Tryd.prog 98 #[.agg #[.int .u8 k, .int .i64 n, .string ⟨t.toArray⟩]] w fun e w' => e = .returned (aggV ⟨k, n, t⟩) ∧ Kept w w' := by
  go_enter Tryd.func98, Tryd.ntmps98
  go_wp2_with fail
  exact bodyPost_ret (v := aggV ⟨k, n, t⟩) (by simp [results, Tryd.results98, go_sem]) rfl ⟨rfl, (by repeat (first | with_reducible exact Kept.refl _ | with_reducible apply Kept.drew | with_reducible apply Kept.drewN | with_reducible apply Kept.alloc | (with_reducible refine Kept.setCellX ?_ ?_ _; focus (first | (simp; done) | (simp; omega))) | (with_reducible refine Kept.trans ?_ (by assumption))))⟩
theorem number_any (k : Nat) (n : Int) (t : List UInt8) (w : World) (h1 : 0 ≤ n) (h2 : n ≤ 1) : Calls Tryd.prog 102 #[.agg #[.int .u8 k, .int .i64 n, .string ⟨t.toArray⟩]] w fun e w' => e = .returned (aggV (vMake (n * 10000))) ∧ Kept w w' := by
  have M := Lib.hid (fun w => vmake_any (n * 10000) w (by omega) (by omega))
  generalize vMake (n * 10000) = f at *
  go_enter Tryd.func102, Tryd.ntmps102
  go_wp2_with fail
  refine (M.out _).mono ?_
  rintro e w1 ⟨rfl, k1⟩
  obtain ⟨k1c, k1f⟩ := bcell k1
  have k1z := Below.size k1
  try simp only [World.size_alloc, World.size_setCell] at k1z k1c k1f
  try have k1x : w.heap.size ≤ w1.heap.size := by omega
  try have k1y := Nat.lt_of_succ_le k1z
  try have k1x2 : w.heap.size < w1.heap.size := by omega
  try have k1w : w.heap.size + 1 < w1.heap.size := by omega
  go_wp2_with fail
  exact bodyPost_ret (v := aggV f) (by simp [results, Tryd.results102, go_sem, k1c]) rfl ⟨rfl, (by repeat (first | with_reducible exact Kept.refl _ | with_reducible apply Kept.drew | with_reducible apply Kept.drewN | with_reducible apply Kept.alloc | (with_reducible refine Kept.setCellX ?_ ?_ _; focus (first | (simp; done) | (simp; omega))) | (with_reducible refine Kept.trans ?_ (by assumption))))⟩
theorem truthm_any (k : Nat) (n : Int) (t : List UInt8) (w : World) : Calls Tryd.prog 97 #[.agg #[.int .u8 k, .int .i64 n, .string ⟨t.toArray⟩]] w fun e w' => e = .returned (aggV (vTruth (decide (n ≠ 0)))) ∧ Kept w w' := by
  by_cases c : n = 0
  · subst c
    have M := Lib.hid (fun w => vtruth_any false w)
    have E : Hid (vTruth (decide ((0 : Int) ≠ 0)) = vTruth false) := rfl
    generalize vTruth false = f at *
    go_enter Tryd.func97, Tryd.ntmps97
    go_wp2_with fail
    refine (M.out _).mono ?_
    rintro e w1 ⟨rfl, k1⟩
    obtain ⟨k1c, k1f⟩ := bcell k1
    have k1z := Below.size k1
    try simp only [World.size_alloc, World.size_setCell] at k1z k1c k1f
    try have k1x : w.heap.size ≤ w1.heap.size := by omega
    try have k1y := Nat.lt_of_succ_le k1z
    try have k1x2 : w.heap.size < w1.heap.size := by omega
    try have k1w : w.heap.size + 1 < w1.heap.size := by omega
    go_wp2_with fail
    exact bodyPost_ret (v := aggV f) (by simp [results, Tryd.results97, go_sem, k1c]) rfl ⟨by rw [E.out], (by repeat (first | with_reducible exact Kept.refl _ | with_reducible apply Kept.drew | with_reducible apply Kept.drewN | with_reducible apply Kept.alloc | (with_reducible refine Kept.setCellX ?_ ?_ _; focus (first | (simp; done) | (simp; omega))) | (with_reducible refine Kept.trans ?_ (by assumption))))⟩
  · have M := Lib.hid (fun w => vtruth_any true w)
    have E : Hid (vTruth (decide (n ≠ 0)) = vTruth true) := by
      show _ = _
      rw [decide_eq_true c]
    have c0 : (n != 0) = true := by simpa using c
    generalize vTruth true = f at *
    clear c
    go_enter Tryd.func97, Tryd.ntmps97
    go_wp2_with fail
    refine (M.out _).mono ?_
    rintro e w1 ⟨rfl, k1⟩
    obtain ⟨k1c, k1f⟩ := bcell k1
    have k1z := Below.size k1
    try simp only [World.size_alloc, World.size_setCell] at k1z k1c k1f
    try have k1x : w.heap.size ≤ w1.heap.size := by omega
    try have k1y := Nat.lt_of_succ_le k1z
    try have k1x2 : w.heap.size < w1.heap.size := by omega
    try have k1w : w.heap.size + 1 < w1.heap.size := by omega
    go_wp2_with fail
    exact bodyPost_ret (v := aggV f) (by simp [results, Tryd.results97, go_sem, k1c]) rfl ⟨by rw [E.out], (by repeat (first | with_reducible exact Kept.refl _ | with_reducible apply Kept.drew | with_reducible apply Kept.drewN | with_reducible apply Kept.alloc | (with_reducible refine Kept.setCellX ?_ ?_ _; focus (first | (simp; done) | (simp; omega))) | (with_reducible refine Kept.trans ?_ (by assumption))))⟩
def wordV (n : Int) : Vl := ⟨3, 0, if n = 1 then yesT else noT⟩
theorem word_any (k : Nat) (n : Int) (t : List UInt8) (w : World) : Calls Tryd.prog 107 #[.agg #[.int .u8 k, .int .i64 n, .string ⟨t.toArray⟩]] w fun e w' => e = .returned (aggV (wordV n)) ∧ Kept w w' := by
  by_cases c : n = 1
  · subst c
    go_enter Tryd.func107, Tryd.ntmps107
    go_wp2_with fail
    exact bodyPost_ret (v := aggV ⟨3, 0, yesT⟩) (by simp [results, Tryd.results107, go_sem, yesT]) rfl ⟨rfl, (by repeat (first | with_reducible exact Kept.refl _ | with_reducible apply Kept.drew | with_reducible apply Kept.drewN | with_reducible apply Kept.alloc | (with_reducible refine Kept.setCellX ?_ ?_ _; focus (first | (simp; done) | (simp; omega))) | (with_reducible refine Kept.trans ?_ (by assumption))))⟩
  · have E : Hid (wordV n = ⟨3, 0, noT⟩) := by
      show _ = _
      unfold wordV; rw [if_neg c]
    have c0 : (n == 1) = false := by simpa using c
    clear c
    go_enter Tryd.func107, Tryd.ntmps107
    go_wp2_with fail
    exact bodyPost_ret (v := aggV ⟨3, 0, noT⟩) (by simp [results, Tryd.results107, go_sem, noT]) rfl ⟨by rw [E.out], (by repeat (first | with_reducible exact Kept.refl _ | with_reducible apply Kept.drew | with_reducible apply Kept.drewN | with_reducible apply Kept.alloc | (with_reducible refine Kept.setCellX ?_ ?_ _; focus (first | (simp; done) | (simp; omega))) | (with_reducible refine Kept.trans ?_ (by assumption))))⟩
theorem digitsm_any (k : Nat) (n : Int) (t : List UInt8) (w : World) (hn : i64 n) : Calls Tryd.prog 106 #[.agg #[.int .u8 k, .int .i64 n, .string ⟨t.toArray⟩]] w fun e w' => e = .returned (aggV ⟨3, 0, fmt n⟩) ∧ Kept w w' := by
  have M := Lib.hid (fun w => format_any n w hn)
  generalize fmt n = f at *
  go_enter Tryd.func106, Tryd.ntmps106
  go_wp2_with fail
  refine (M.out _).mono ?_
  rintro e w1 ⟨rfl, k1⟩
  obtain ⟨k1c, k1f⟩ := bcell k1
  have k1z := Below.size k1
  try simp only [World.size_alloc, World.size_setCell] at k1z k1c k1f
  try have k1x : w.heap.size ≤ w1.heap.size := by omega
  try have k1y := Nat.lt_of_succ_le k1z
  try have k1x2 : w.heap.size < w1.heap.size := by omega
  try have k1w : w.heap.size + 1 < w1.heap.size := by omega
  go_wp2_with fail
  exact bodyPost_ret (v := aggV ⟨3, 0, f⟩) (by simp [results, Tryd.results106, go_sem, k1c]) rfl ⟨rfl, (by repeat (first | with_reducible exact Kept.refl _ | with_reducible apply Kept.drew | with_reducible apply Kept.drewN | with_reducible apply Kept.alloc | (with_reducible refine Kept.setCellX ?_ ?_ _; focus (first | (simp; done) | (simp; omega))) | (with_reducible refine Kept.trans ?_ (by assumption))))⟩
theorem named_any (k : Nat) (n : Int) (t : List UInt8) (w : World) (ht : t.length ≤ 1000000) : Calls Tryd.prog 99 #[.agg #[.int .u8 k, .int .i64 n, .string ⟨t.toArray⟩]] w fun e w' => e = .returned (aggV (vNamed t)) ∧ Kept w w' := by
  have U := Lib.hid (fun w => upper_any t w ht)
  by_cases c : upper t = yesT
  · have E : Hid (vNamed t = vTruth true) := by
      show _ = _
      unfold vNamed; rw [if_pos c]
    rw [c] at U
    have U2 : Hid (∀ w, Calls Tryd.prog 27 #[.string ⟨t.toArray⟩] w fun e w' => e = .returned (.string ⟨#[84, 82, 85, 69]⟩) ∧ Kept w w') := U
    have M := Lib.hid (fun w => vtruth_any true w)
    generalize vTruth true = f at *
    clear U c
    go_enter Tryd.func99, Tryd.ntmps99
    go_wp2_with fail
    refine (U2.out _).mono ?_
    rintro e w1 ⟨rfl, k1⟩
    obtain ⟨k1c, k1f⟩ := bcell k1
    have k1z := Below.size k1
    try simp only [World.size_alloc, World.size_setCell] at k1z k1c k1f
    try have k1x : w.heap.size ≤ w1.heap.size := by omega
    try have k1y := Nat.lt_of_succ_le k1z
    try have k1x2 : w.heap.size < w1.heap.size := by omega
    try have k1w : w.heap.size + 1 < w1.heap.size := by omega
    go_wp2_with fail
    refine (M.out _).mono ?_
    rintro e w2 ⟨rfl, k2⟩
    obtain ⟨k2c, k2f⟩ := bcell k2
    have k2z := Below.size k2
    try simp only [World.size_alloc, World.size_setCell] at k2z k2c k2f
    try have k2x : w.heap.size ≤ w2.heap.size := by omega
    try have k2y := Nat.lt_of_succ_le k2z
    try have k2x2 : w.heap.size < w2.heap.size := by omega
    try have k2w : w.heap.size + 1 < w2.heap.size := by omega
    go_wp2_with fail
    exact bodyPost_ret (v := aggV f) (by simp [results, Tryd.results99, go_sem, k1c, k2c, k1y, k2w]) rfl ⟨by rw [E.out], (by repeat (first | with_reducible exact Kept.refl _ | with_reducible apply Kept.drew | with_reducible apply Kept.drewN | with_reducible apply Kept.alloc | (with_reducible refine Kept.setCellX ?_ ?_ _; focus (first | (simp; done) | (simp; omega))) | (with_reducible refine Kept.trans ?_ (by assumption))))⟩
  by_cases d : upper t = noT
  · have E : Hid (vNamed t = vTruth false) := by
      show _ = _
      unfold vNamed; rw [if_neg c, if_pos d]
    rw [d] at U
    have U2 : Hid (∀ w, Calls Tryd.prog 27 #[.string ⟨t.toArray⟩] w fun e w' => e = .returned (.string ⟨#[70, 65, 76, 83, 69]⟩) ∧ Kept w w') := U
    have M := Lib.hid (fun w => vtruth_any false w)
    generalize vTruth false = f at *
    clear U c d
    go_enter Tryd.func99, Tryd.ntmps99
    go_wp2_with fail
    refine (U2.out _).mono ?_
    rintro e w1 ⟨rfl, k1⟩
    obtain ⟨k1c, k1f⟩ := bcell k1
    have k1z := Below.size k1
    try simp only [World.size_alloc, World.size_setCell] at k1z k1c k1f
    try have k1x : w.heap.size ≤ w1.heap.size := by omega
    try have k1y := Nat.lt_of_succ_le k1z
    try have k1x2 : w.heap.size < w1.heap.size := by omega
    try have k1w : w.heap.size + 1 < w1.heap.size := by omega
    go_wp2_with fail
    refine (M.out _).mono ?_
    rintro e w2 ⟨rfl, k2⟩
    obtain ⟨k2c, k2f⟩ := bcell k2
    have k2z := Below.size k2
    try simp only [World.size_alloc, World.size_setCell] at k2z k2c k2f
    try have k2x : w.heap.size ≤ w2.heap.size := by omega
    try have k2y := Nat.lt_of_succ_le k2z
    try have k2x2 : w.heap.size < w2.heap.size := by omega
    try have k2w : w.heap.size + 1 < w2.heap.size := by omega
    go_wp2_with fail
    exact bodyPost_ret (v := aggV f) (by simp [results, Tryd.results99, go_sem, k1c, k2c, k1y, k2w]) rfl ⟨by rw [E.out], (by repeat (first | with_reducible exact Kept.refl _ | with_reducible apply Kept.drew | with_reducible apply Kept.drewN | with_reducible apply Kept.alloc | (with_reducible refine Kept.setCellX ?_ ?_ _; focus (first | (simp; done) | (simp; omega))) | (with_reducible refine Kept.trans ?_ (by assumption))))⟩
  · have E : Hid (vNamed t = vFail 2) := by
      show _ = _
      unfold vNamed; rw [if_neg c, if_neg d]
    have c1 : (upper t == [84, 82, 85, 69]) = false := by rw [beq_eq_false_iff_ne]; exact c
    have d1 : (upper t == [70, 65, 76, 83, 69]) = false := by rw [beq_eq_false_iff_ne]; exact d
    have M := Lib.hid (fun w => vfail_any 2 w)
    generalize vFail 2 = f at *
    generalize upper t = u at *
    clear c d
    go_enter Tryd.func99, Tryd.ntmps99
    go_wp2_with fail
    refine (U.out _).mono ?_
    rintro e w1 ⟨rfl, k1⟩
    obtain ⟨k1c, k1f⟩ := bcell k1
    have k1z := Below.size k1
    try simp only [World.size_alloc, World.size_setCell] at k1z k1c k1f
    try have k1x : w.heap.size ≤ w1.heap.size := by omega
    try have k1y := Nat.lt_of_succ_le k1z
    try have k1x2 : w.heap.size < w1.heap.size := by omega
    try have k1w : w.heap.size + 1 < w1.heap.size := by omega
    go_wp2_with fail
    refine (M.out _).mono ?_
    rintro e w2 ⟨rfl, k2⟩
    obtain ⟨k2c, k2f⟩ := bcell k2
    have k2z := Below.size k2
    try simp only [World.size_alloc, World.size_setCell] at k2z k2c k2f
    try have k2x : w.heap.size ≤ w2.heap.size := by omega
    try have k2y := Nat.lt_of_succ_le k2z
    try have k2x2 : w.heap.size < w2.heap.size := by omega
    try have k2w : w.heap.size + 1 < w2.heap.size := by omega
    go_wp2_with fail
    exact bodyPost_ret (v := aggV f) (by simp [results, Tryd.results99, go_sem, k1c, k2c, k1y, k2w]) rfl ⟨by rw [E.out], (by repeat (first | with_reducible exact Kept.refl _ | with_reducible apply Kept.drew | with_reducible apply Kept.drewN | with_reducible apply Kept.alloc | (with_reducible refine Kept.setCellX ?_ ?_ _; focus (first | (simp; done) | (simp; omega))) | (with_reducible refine Kept.trans ?_ (by assumption))))⟩
theorem fit_range (b : Bool) (v : Int) (h : 0 ≤ v) : -9223372036854775808 ≤ (if v ≤ 9223372036854775807 then (sg b v, (0 : Int)) else (0, 3)).1 ∧ (if v ≤ 9223372036854775807 then (sg b v, (0 : Int)) else (0, 3)).1 ≤ 9223372036854775807 := by
  by_cases c : v ≤ 9223372036854775807
  · rw [if_pos c]
    unfold sg
    cases b <;> simp <;> omega
  · rw [if_neg c]; exact ⟨by simp, by simp⟩
theorem read_range (b : Bool) (l : List UInt8) : -9223372036854775808 ≤ (Lv.read b l).1 ∧ (Lv.read b l).1 ≤ 9223372036854775807 := by
  unfold Lv.read
  by_cases n0 : nd l = 0
  · rw [if_pos n0]; exact ⟨by simp, by simp⟩
  · rw [if_neg n0]
    cases frac (l.drop (nd l)) with
    | none => exact ⟨by simp, by simp⟩
    | some r => exact fit_range b _ (by split <;> omega)
theorem parse_range (l : List UInt8) : -9223372036854775808 ≤ (dParse l).1 ∧ (dParse l).1 ≤ 9223372036854775807 := by
  unfold dParse
  split <;> exact read_range _ _
theorem readm_any (k : Nat) (n : Int) (t : List UInt8) (w : World) (m : Int) (hm : Mx w m) (ht : t.length ≤ 2000) : Calls Tryd.prog 103 #[.agg #[.int .u8 k, .int .i64 n, .string ⟨t.toArray⟩]] w fun e w' => e = .returned (aggV (vRead t)) ∧ Kept w w' := by
  have T := Lib.hid (fun w h => trim_any t w m (by omega) h)
  have tl := trim_len t
  have P := Lib.hid (fun w => parse_any (trim t) w (by omega))
  have HM := Lib.hid hm
  have R : vRead t = if (dParse (trim t)).2 = 0 then vMake (dParse (trim t)).1 else if (dParse (trim t)).2 = 3 then vFail 3 else vFail 2 := rfl
  have pr := parse_range (trim t)
  generalize vRead t = r at *
  generalize dParse (trim t) = p at *
  generalize trim t = u at *
  obtain ⟨p1, p2⟩ := p
  simp only at R pr
  clear hm
  by_cases c : p2 = 0
  · subst c
    rw [if_pos rfl] at R
    have E := Lib.hid R
    have M := Lib.hid (fun w => vmake_any p1 w pr.1 pr.2)
    clear R
    generalize vMake p1 = f at *
    go_enter Tryd.func103, Tryd.ntmps103
    go_wp2_with fail
    refine (T.out _ (HM.out.kept (((Kept.refl _).alloc _).alloc _))).mono ?_
    rintro e w0 ⟨rfl, k0⟩
    obtain ⟨k0c, k0f⟩ := bcell k0
    have k0z := Below.size k0
    simp only [World.size_alloc] at k0z k0c k0f
    have k0x : w.heap.size + 1 < w0.heap.size := by omega
    go_wp2_with fail
    refine (P.out _).mono ?_
    rintro e w1 ⟨rfl, k1⟩
    obtain ⟨k1c, k1f⟩ := bcell k1
    have k1z := Below.size k1
    try simp only [World.size_alloc, World.size_setCell] at k1z k1c k1f
    try have k1x : w.heap.size ≤ w1.heap.size := by omega
    try have k1y := Nat.lt_of_succ_le k1z
    try have k1x2 : w.heap.size < w1.heap.size := by omega
    try have k1w : w.heap.size + 1 < w1.heap.size := by omega
    go_wp2_with fail
    refine (M.out _).mono ?_
    rintro e w2 ⟨rfl, k2⟩
    obtain ⟨k2c, k2f⟩ := bcell k2
    have k2z := Below.size k2
    try simp only [World.size_alloc, World.size_setCell] at k2z k2c k2f
    try have k2x : w.heap.size ≤ w2.heap.size := by omega
    try have k2y := Nat.lt_of_succ_le k2z
    try have k2x2 : w.heap.size < w2.heap.size := by omega
    try have k2w : w.heap.size + 1 < w2.heap.size := by omega
    go_wp2_with fail
    exact bodyPost_ret (v := aggV f) (by simp [results, Tryd.results103, go_sem, k0c, k1c, k2c, k0x, k1w, k2w]) rfl ⟨by rw [E.out], (by repeat (first | with_reducible exact Kept.refl _ | with_reducible apply Kept.drew | with_reducible apply Kept.drewN | with_reducible apply Kept.alloc | (with_reducible refine Kept.setCellX ?_ ?_ _; focus (first | (simp; done) | (simp; omega))) | (with_reducible refine Kept.trans ?_ (by assumption))))⟩
  have b0 : (p2 == 0) = false := by simpa using c
  rw [if_neg c] at R
  by_cases d : p2 = 3
  · subst d
    rw [if_pos rfl] at R
    have E := Lib.hid R
    have M := Lib.hid (fun w => vfail_any 3 w)
    clear R c b0
    generalize vFail 3 = f at *
    go_enter Tryd.func103, Tryd.ntmps103
    go_wp2_with fail
    refine (T.out _ (HM.out.kept (((Kept.refl _).alloc _).alloc _))).mono ?_
    rintro e w0 ⟨rfl, k0⟩
    obtain ⟨k0c, k0f⟩ := bcell k0
    have k0z := Below.size k0
    simp only [World.size_alloc] at k0z k0c k0f
    have k0x : w.heap.size + 1 < w0.heap.size := by omega
    go_wp2_with fail
    refine (P.out _).mono ?_
    rintro e w1 ⟨rfl, k1⟩
    obtain ⟨k1c, k1f⟩ := bcell k1
    have k1z := Below.size k1
    try simp only [World.size_alloc, World.size_setCell] at k1z k1c k1f
    try have k1x : w.heap.size ≤ w1.heap.size := by omega
    try have k1y := Nat.lt_of_succ_le k1z
    try have k1x2 : w.heap.size < w1.heap.size := by omega
    try have k1w : w.heap.size + 1 < w1.heap.size := by omega
    go_wp2_with fail
    refine (M.out _).mono ?_
    rintro e w2 ⟨rfl, k2⟩
    obtain ⟨k2c, k2f⟩ := bcell k2
    have k2z := Below.size k2
    try simp only [World.size_alloc, World.size_setCell] at k2z k2c k2f
    try have k2x : w.heap.size ≤ w2.heap.size := by omega
    try have k2y := Nat.lt_of_succ_le k2z
    try have k2x2 : w.heap.size < w2.heap.size := by omega
    try have k2w : w.heap.size + 1 < w2.heap.size := by omega
    go_wp2_with fail
    exact bodyPost_ret (v := aggV f) (by simp [results, Tryd.results103, go_sem, k0c, k1c, k2c, k0x, k1w, k2w]) rfl ⟨by rw [E.out], (by repeat (first | with_reducible exact Kept.refl _ | with_reducible apply Kept.drew | with_reducible apply Kept.drewN | with_reducible apply Kept.alloc | (with_reducible refine Kept.setCellX ?_ ?_ _; focus (first | (simp; done) | (simp; omega))) | (with_reducible refine Kept.trans ?_ (by assumption))))⟩
  · have b3 : (p2 == 3) = false := by simpa using d
    rw [if_neg d] at R
    have E := Lib.hid R
    have M := Lib.hid (fun w => vfail_any 2 w)
    clear R c d
    generalize vFail 2 = f at *
    go_enter Tryd.func103, Tryd.ntmps103
    go_wp2_with fail
    refine (T.out _ (HM.out.kept (((Kept.refl _).alloc _).alloc _))).mono ?_
    rintro e w0 ⟨rfl, k0⟩
    obtain ⟨k0c, k0f⟩ := bcell k0
    have k0z := Below.size k0
    simp only [World.size_alloc] at k0z k0c k0f
    have k0x : w.heap.size + 1 < w0.heap.size := by omega
    go_wp2_with fail
    refine (P.out _).mono ?_
    rintro e w1 ⟨rfl, k1⟩
    obtain ⟨k1c, k1f⟩ := bcell k1
    have k1z := Below.size k1
    try simp only [World.size_alloc, World.size_setCell] at k1z k1c k1f
    try have k1x : w.heap.size ≤ w1.heap.size := by omega
    try have k1y := Nat.lt_of_succ_le k1z
    try have k1x2 : w.heap.size < w1.heap.size := by omega
    try have k1w : w.heap.size + 1 < w1.heap.size := by omega
    go_wp2_with fail
    refine (M.out _).mono ?_
    rintro e w2 ⟨rfl, k2⟩
    obtain ⟨k2c, k2f⟩ := bcell k2
    have k2z := Below.size k2
    try simp only [World.size_alloc, World.size_setCell] at k2z k2c k2f
    try have k2x : w.heap.size ≤ w2.heap.size := by omega
    try have k2y := Nat.lt_of_succ_le k2z
    try have k2x2 : w.heap.size < w2.heap.size := by omega
    try have k2w : w.heap.size + 1 < w2.heap.size := by omega
    go_wp2_with fail
    exact bodyPost_ret (v := aggV f) (by simp [results, Tryd.results103, go_sem, k0c, k1c, k2c, k0x, k1w, k2w]) rfl ⟨by rw [E.out], (by repeat (first | with_reducible exact Kept.refl _ | with_reducible apply Kept.drew | with_reducible apply Kept.drewN | with_reducible apply Kept.alloc | (with_reducible refine Kept.setCellX ?_ ?_ _; focus (first | (simp; done) | (simp; omega))) | (with_reducible refine Kept.trans ?_ (by assumption))))⟩
end Go.Proofs.YtipkjpcedfokhaaDoor

namespace Go.Proofs.YtipkjpcedfokhaaDoor
set_option linter.unusedVariables false
set_option linter.unusedSimpArgs false
open Go.RowKit Lv

theorem held3_start {W : World} {p : Nat} {u v x : Value} (h0 : W.cell? ⟨p, 0, none⟩ = some u) (h1 : W.cell? ⟨p, 1, none⟩ = some v) (h2 : W.cell? ⟨p, 2, none⟩ = some x) : Kept W W.drew ∧ W.drew.cell? ⟨p, 0, none⟩ = some u ∧ W.drew.cell? ⟨p, 1, none⟩ = some v ∧ W.drew.cell? ⟨p, 2, none⟩ = some x := ⟨(Kept.refl W).drew, h0, h1, h2⟩
theorem held3_next {W a b : World} {p : Nat} {u v x : Value} (h : Kept W a ∧ a.cell? ⟨p, 0, none⟩ = some u ∧ a.cell? ⟨p, 1, none⟩ = some v ∧ a.cell? ⟨p, 2, none⟩ = some x) (k : Kept a b) : Kept W b ∧ b.cell? ⟨p, 0, none⟩ = some u ∧ b.cell? ⟨p, 1, none⟩ = some v ∧ b.cell? ⟨p, 2, none⟩ = some x := by
  obtain ⟨h, h0, h1, h2⟩ := h
  have hb := bcell k
  exact ⟨h.trans k, by rw [hb.1 _ _ (World.block_lt_of_cell? a _ h0)]; exact h0, by rw [hb.1 _ _ (World.block_lt_of_cell? a _ h0)]; exact h1, by rw [hb.1 _ _ (World.block_lt_of_cell? a _ h0)]; exact h2⟩
theorem One3.of {w2 z : World} {p : Nat} {a : Vl} (h : Box w2 p 35 (cellsV a)) (k : Kept w2 z) : Kept w2 z ∧ z.cell? ⟨p, 0, none⟩ = some (.int .u8 a.k) ∧ z.cell? ⟨p, 1, none⟩ = some (.int .i64 a.n) ∧ z.cell? ⟨p, 2, none⟩ = some (.string ⟨a.t.toArray⟩) :=
  have b := h.kept k
  ⟨k, b.cell 0, b.cell 1, b.cell 2⟩
theorem find_far {f0 f1 f2 f3 f4 : Nat} {x0 x : Value} (k : Nat) (h : 5 ≤ k) : Instr.findNow (.int .u8) (.int .u8 k) (tab5 f0 f1 f2 f3 f4 x0 x).toList 0 = some none := by
  have c0 : ((k : Int) == 0) = false := by rw [beq_eq_false_iff_ne]; omega
  have c1 : ((k : Int) == 1) = false := by rw [beq_eq_false_iff_ne]; omega
  have c2 : ((k : Int) == 2) = false := by rw [beq_eq_false_iff_ne]; omega
  have c3 : ((k : Int) == 3) = false := by rw [beq_eq_false_iff_ne]; omega
  have c4 : ((k : Int) == 4) = false := by rw [beq_eq_false_iff_ne]; omega
  simp [Instr.findNow, Instr.sameNow, c0, c1, c2, c3, c4]
theorem find_near {f0 f1 f2 f3 f4 : Nat} {x0 x : Value} (k : Nat) (h : k < 5) : ∃ v, Instr.findNow (.int .u8) (.int .u8 k) (tab5 f0 f1 f2 f3 f4 x0 x).toList 0 = some (some (k, v)) :=
  match k, h with
  | 0, _ => ⟨_, rfl⟩
  | 1, _ => ⟨_, rfl⟩
  | 2, _ => ⟨_, rfl⟩
  | 3, _ => ⟨_, rfl⟩
  | 4, _ => ⟨_, rfl⟩
theorem does_any {F b : Nat} {x : Value} {es : Array MapEntry} {w : World} (h : Calls Tryd.prog F #[x] w fun e w' => e = .returned (.map (some b)) ∧ Kept w w' ∧ Tabled w' b es) :
    Calls Tryd.prog F #[x] w fun e w' => ∃ b, e = .returned (.map (some b)) ∧ Kept w w' ∧ Tabled w' b es := h.mono fun _ _ ⟨h1, h2, h3⟩ => ⟨_, h1, h2, h3⟩
theorem Tabled.kept {w w2 : World} {b : Nat} {es : Array MapEntry} (h : Tabled w b es) (k : Kept w w2) : Tabled w2 b es := (k.block b (Array.getElem?_eq_some_iff.1 h).1).trans h

/-- what a conversion's table is asked for, and gives -/
abbrev LookYes (es : Array MapEntry) (k : Nat) (fv : Value) : Prop := ∀ w b, Tabled w b es → (Instr.lookup 89 (.map (some b)) (.int .u8 k) true).run Tryd.prog w = .ok (.tuple #[fv, .bool true]) w
abbrev LookNo (es : Array MapEntry) (k : Nat) : Prop := ∀ w b, Tabled w b es → ∃ fv, (Instr.lookup 89 (.map (some b)) (.int .u8 k) true).run Tryd.prog w = .ok (.tuple #[fv, .bool false]) w
theorem look_way {f0 f1 f2 f3 f4 : Nat} {x0 x : Value} (k : Nat) : (∃ fv, LookYes (tab5 f0 f1 f2 f3 f4 x0 x) k fv) ∨ LookNo (tab5 f0 f1 f2 f3 f4 x0 x) k := by
  by_cases h5 : k < 5
  · obtain ⟨v, hv⟩ := find_near (f0 := f0) (f1 := f1) (f2 := f2) (f3 := f3) (f4 := f4) (x0 := x0) (x := x) k h5
    exact Or.inl ⟨v, fun w b h => look_hit w b _ 5 k k v h hv⟩
  · exact Or.inr fun w b h => look_miss w b _ 5 k h (find_far k (by omega))
abbrev Does (F : Nat) (x : Value) (es : Array MapEntry) : Prop := ∀ w, Calls Tryd.prog F #[x] w fun e w' => ∃ b, e = .returned (.map (some b)) ∧ Kept w w' ∧ Tabled w' b es
abbrev Enters (F : Nat) : Prop := ∀ args w, (callFunc F args).run Tryd.prog w = .ok (.enter F args) w

set_option maxHeartbeats 1000000 in
set_option maxRecDepth 100000 in
theorem conv_hit_no (F : Nat) (es : Array MapEntry) (k : Nat) (n : Int) (t : List UInt8) (w : World) (h1 : -9223372036854775808 ≤ n) (h2 : n ≤ 9223372036854775807) (ht : t.length ≤ 1000000)
    (eg : Enters F) (D : Hid (Does F (.agg #[.int .u8 k, .int .i64 n, .string ⟨t.toArray⟩]) es)) (hc : vOk ⟨k, n, t⟩ = false) (fv : Value) (LKH : Hid (LookYes es k fv)) :
    Calls Tryd.prog 95 #[.agg #[.int .u8 k, .int .i64 n, .string ⟨t.toArray⟩], .func (.func F) #[] #[]] w fun e w' => e = .returned (aggV (vFail 2)) ∧ Kept w w' := by
  have C := Lib.hid (fun w => vcheck5_any ⟨k, n, t⟩ w ⟨h1, h2⟩ ht)
  rw [chk_no hc] at C
  have M := Lib.hid (fun w => vfail_any 2 w)
  generalize vFail 2 = f at *
  clear hc
  have bx : Box ((w.alloc (.cells #[.int .u8 k, .int .i64 n, .string ⟨t.toArray⟩] 35)).alloc zeroV) w.heap.size 35 (cellsV ⟨k, n, t⟩) := (Box.new w _ _).alloc _
  have by_ : Box ((w.alloc (.cells #[.int .u8 k, .int .i64 n, .string ⟨t.toArray⟩] 35)).alloc zeroV) (w.heap.size + 1) 35 #[.int .u8 0, .int .i64 0, .string ⟨#[]⟩] := Box.newAt (by simp) _ _
  have kk : Kept w ((w.alloc (.cells #[.int .u8 k, .int .i64 n, .string ⟨t.toArray⟩] 35)).alloc zeroV) := ((Kept.refl w).alloc _).alloc _
  have hz : w.heap.size + 2 = ((w.alloc (.cells #[.int .u8 k, .int .i64 n, .string ⟨t.toArray⟩] 35)).alloc zeroV).heap.size := by simp
  have BY := Lib.hid by_
  have HZ := Lib.hid hz
  clear by_ hz
  go_enter Tryd.func95, Tryd.ntmps95
  go_wp2_with fail
  generalize ((w.alloc (.cells #[.int .u8 k, .int .i64 n, .string ⟨t.toArray⟩] 35)).alloc (.cells #[.int .u8 0, .int .i64 0, .string ⟨#[]⟩] 35)) = wa at *
  have s0 : wa.cell? ⟨w.heap.size, 0, none⟩ = some (.int .u8 k) := bx.cell 0
  have s1 : wa.cell? ⟨w.heap.size, 1, none⟩ = some (.int .i64 n) := bx.cell 1
  have s2 : wa.cell? ⟨w.heap.size, 2, none⟩ = some (.string ⟨t.toArray⟩) := bx.cell 2
  have BX := Lib.hid bx
  clear bx
  go_region_held3 (fun z => Kept wa z ∧ z.cell? ⟨w.heap.size, 0, none⟩ = some (.int .u8 k) ∧ z.cell? ⟨w.heap.size, 1, none⟩ = some (.int .i64 n) ∧ z.cell? ⟨w.heap.size, 2, none⟩ = some (.string ⟨t.toArray⟩))
    (first | (with_reducible assumption) | (exact held3_start s0 s1 s2) | (with_reducible exact held3_next (by assumption) (by assumption)))
    (first | (refine (D.out _).mono ?_; rintro e w1 ⟨mb, rfl, hk', tb⟩; have LK := LKH.out _ _ tb))
  rename_i hh
  have kw := hh.1
  have kk := kk.trans kw
  have b1 := BX.out.kept kw
  have y1 := BY.out.kept kw
  have z1 : w.heap.size + 1 < w1.heap.size := by have := kw.size; have := HZ.out; omega
  have x0 := b1.cell 0; have x1 := b1.cell 1; have x2 := b1.cell 2
  have u0 := y1.cell 0; have u1 := y1.cell 1; have u2 := y1.cell 2
  have l0 := y1.loose 0; have l1 := y1.loose 1; have l2 := y1.loose 2
  clear b1 y1 LK D hh s0 s1 s2
  go_wp2_with fail
  refine (C.out _).mono ?_
  rintro e w2 ⟨rfl, k2⟩
  obtain ⟨k2c, k2f⟩ := bcell k2
  have k2z := Below.size k2
  have z2 : w.heap.size + 1 < w2.heap.size := by omega
  have kk := kk.trans k2
  go_wp2_with fail
  refine (M.out _).mono ?_
  rintro e w3 ⟨rfl, k3⟩
  obtain ⟨k3c, k3f⟩ := bcell k3
  have k3z := Below.size k3
  have z3 : w.heap.size + 1 < w3.heap.size := by omega
  have kk := kk.trans k3
  go_wp2_with fail
  exact bodyPost_ret (v := aggV f) (by simp [results, Tryd.results95, go_sem, k3c, k2c, z1, z2, z3, u0, u1, u2]) rfl ⟨rfl, kk.set3 (Nat.le_succ _)⟩

set_option maxHeartbeats 1000000 in
set_option maxRecDepth 100000 in
theorem conv_miss (F : Nat) (es : Array MapEntry) (k : Nat) (n : Int) (t : List UInt8) (w : World) (h1 : -9223372036854775808 ≤ n) (h2 : n ≤ 9223372036854775807) (ht : t.length ≤ 1000000)
    (eg : Enters F) (D : Hid (Does F (.agg #[.int .u8 k, .int .i64 n, .string ⟨t.toArray⟩]) es)) (LKH : Hid (LookNo es k)) :
    Calls Tryd.prog 95 #[.agg #[.int .u8 k, .int .i64 n, .string ⟨t.toArray⟩], .func (.func F) #[] #[]] w fun e w' => e = .returned (aggV (vFail 2)) ∧ Kept w w' := by
  have M := Lib.hid (fun w => vfail_any 2 w)
  generalize vFail 2 = f at *
  have bx : Box ((w.alloc (.cells #[.int .u8 k, .int .i64 n, .string ⟨t.toArray⟩] 35)).alloc zeroV) w.heap.size 35 (cellsV ⟨k, n, t⟩) := (Box.new w _ _).alloc _
  have by_ : Box ((w.alloc (.cells #[.int .u8 k, .int .i64 n, .string ⟨t.toArray⟩] 35)).alloc zeroV) (w.heap.size + 1) 35 #[.int .u8 0, .int .i64 0, .string ⟨#[]⟩] := Box.newAt (by simp) _ _
  have kk : Kept w ((w.alloc (.cells #[.int .u8 k, .int .i64 n, .string ⟨t.toArray⟩] 35)).alloc zeroV) := ((Kept.refl w).alloc _).alloc _
  have hz : w.heap.size + 2 = ((w.alloc (.cells #[.int .u8 k, .int .i64 n, .string ⟨t.toArray⟩] 35)).alloc zeroV).heap.size := by simp
  have BY := Lib.hid by_
  have HZ := Lib.hid hz
  clear by_ hz
  go_enter Tryd.func95, Tryd.ntmps95
  go_wp2_with fail
  generalize ((w.alloc (.cells #[.int .u8 k, .int .i64 n, .string ⟨t.toArray⟩] 35)).alloc (.cells #[.int .u8 0, .int .i64 0, .string ⟨#[]⟩] 35)) = wa at *
  have s0 : wa.cell? ⟨w.heap.size, 0, none⟩ = some (.int .u8 k) := bx.cell 0
  have s1 : wa.cell? ⟨w.heap.size, 1, none⟩ = some (.int .i64 n) := bx.cell 1
  have s2 : wa.cell? ⟨w.heap.size, 2, none⟩ = some (.string ⟨t.toArray⟩) := bx.cell 2
  have BX := Lib.hid bx
  clear bx
  go_region_held3 (fun z => Kept wa z ∧ z.cell? ⟨w.heap.size, 0, none⟩ = some (.int .u8 k) ∧ z.cell? ⟨w.heap.size, 1, none⟩ = some (.int .i64 n) ∧ z.cell? ⟨w.heap.size, 2, none⟩ = some (.string ⟨t.toArray⟩))
    (first | (with_reducible assumption) | (exact held3_start s0 s1 s2) | (with_reducible exact held3_next (by assumption) (by assumption)))
    (first | (refine (D.out _).mono ?_; rintro e w1 ⟨mb, rfl, hk', tb⟩; obtain ⟨fv, LK⟩ := LKH.out _ _ tb))
  rename_i hh
  have kw := hh.1
  have kk := kk.trans kw
  have b1 := BX.out.kept kw
  have y1 := BY.out.kept kw
  have z1 : w.heap.size + 1 < w1.heap.size := by have := kw.size; have := HZ.out; omega
  have x0 := b1.cell 0; have x1 := b1.cell 1; have x2 := b1.cell 2
  have u0 := y1.cell 0; have u1 := y1.cell 1; have u2 := y1.cell 2
  have l0 := y1.loose 0; have l1 := y1.loose 1; have l2 := y1.loose 2
  clear b1 y1 LK D hh s0 s1 s2
  go_wp2_with fail
  refine (M.out _).mono ?_
  rintro e w3 ⟨rfl, k3⟩
  obtain ⟨k3c, k3f⟩ := bcell k3
  have k3z := Below.size k3
  have z3 : w.heap.size + 1 < w3.heap.size := by omega
  have kk := kk.trans k3
  go_wp2_with fail
  exact bodyPost_ret (v := aggV f) (by simp [results, Tryd.results95, go_sem, k3c, z1, z3, u0, u1, u2]) rfl ⟨rfl, kk.set3 (Nat.le_succ _)⟩

set_option maxHeartbeats 1000000 in
set_option maxRecDepth 100000 in
theorem conv_hit_ok (F : Nat) (es : Array MapEntry) (k : Nat) (n : Int) (t : List UInt8) (w : World) (h1 : -9223372036854775808 ≤ n) (h2 : n ≤ 9223372036854775807) (ht : t.length ≤ 1000000)
    (eg : Enters F) (D : Hid (Does F (.agg #[.int .u8 k, .int .i64 n, .string ⟨t.toArray⟩]) es)) (hc : vOk ⟨k, n, t⟩ = true) (g : Nat) (xa : Value) (f : Vl) (LKH : Hid (LookYes es k (.func (.func g) #[xa] #[]))) (ef : Enters g) (HC : Hid (∀ wz, Kept w wz → Calls Tryd.prog g #[xa] wz fun e w' => e = .returned (aggV f) ∧ Kept wz w')) :
    Calls Tryd.prog 95 #[.agg #[.int .u8 k, .int .i64 n, .string ⟨t.toArray⟩], .func (.func F) #[] #[]] w fun e w' => e = .returned (aggV f) ∧ Kept w w' := by
  have C := Lib.hid (fun w => vcheck5_any ⟨k, n, t⟩ w ⟨h1, h2⟩ ht)
  rw [chk_yes hc] at C
  clear hc
  have bx : Box ((w.alloc (.cells #[.int .u8 k, .int .i64 n, .string ⟨t.toArray⟩] 35)).alloc zeroV) w.heap.size 35 (cellsV ⟨k, n, t⟩) := (Box.new w _ _).alloc _
  have by_ : Box ((w.alloc (.cells #[.int .u8 k, .int .i64 n, .string ⟨t.toArray⟩] 35)).alloc zeroV) (w.heap.size + 1) 35 #[.int .u8 0, .int .i64 0, .string ⟨#[]⟩] := Box.newAt (by simp) _ _
  have kk : Kept w ((w.alloc (.cells #[.int .u8 k, .int .i64 n, .string ⟨t.toArray⟩] 35)).alloc zeroV) := ((Kept.refl w).alloc _).alloc _
  have hz : w.heap.size + 2 = ((w.alloc (.cells #[.int .u8 k, .int .i64 n, .string ⟨t.toArray⟩] 35)).alloc zeroV).heap.size := by simp
  have BY := Lib.hid by_
  have HZ := Lib.hid hz
  clear by_ hz
  go_enter Tryd.func95, Tryd.ntmps95
  go_wp2_with fail
  generalize ((w.alloc (.cells #[.int .u8 k, .int .i64 n, .string ⟨t.toArray⟩] 35)).alloc (.cells #[.int .u8 0, .int .i64 0, .string ⟨#[]⟩] 35)) = wa at *
  have s0 : wa.cell? ⟨w.heap.size, 0, none⟩ = some (.int .u8 k) := bx.cell 0
  have s1 : wa.cell? ⟨w.heap.size, 1, none⟩ = some (.int .i64 n) := bx.cell 1
  have s2 : wa.cell? ⟨w.heap.size, 2, none⟩ = some (.string ⟨t.toArray⟩) := bx.cell 2
  have BX := Lib.hid bx
  clear bx
  go_region_held3 (fun z => Kept wa z ∧ z.cell? ⟨w.heap.size, 0, none⟩ = some (.int .u8 k) ∧ z.cell? ⟨w.heap.size, 1, none⟩ = some (.int .i64 n) ∧ z.cell? ⟨w.heap.size, 2, none⟩ = some (.string ⟨t.toArray⟩))
    (first | (with_reducible assumption) | (exact held3_start s0 s1 s2) | (with_reducible exact held3_next (by assumption) (by assumption)))
    (first | (refine (D.out _).mono ?_; rintro e w1 ⟨mb, rfl, hk', tb⟩; have LK := LKH.out _ _ tb))
  rename_i hh
  have kw := hh.1
  have kk := kk.trans kw
  have b1 := BX.out.kept kw
  have y1 := BY.out.kept kw
  have z1 : w.heap.size + 1 < w1.heap.size := by have := kw.size; have := HZ.out; omega
  have x0 := b1.cell 0; have x1 := b1.cell 1; have x2 := b1.cell 2
  have u0 := y1.cell 0; have u1 := y1.cell 1; have u2 := y1.cell 2
  have l0 := y1.loose 0; have l1 := y1.loose 1; have l2 := y1.loose 2
  clear b1 y1 LK D hh s0 s1 s2
  go_wp2_with fail
  refine (C.out _).mono ?_
  rintro e w2 ⟨rfl, k2⟩
  obtain ⟨k2c, k2f⟩ := bcell k2
  have k2z := Below.size k2
  have z2 : w.heap.size + 1 < w2.heap.size := by omega
  have kk := kk.trans k2
  go_wp2_with fail
  go_simp
  refine (HC.out _ kk).mono ?_
  rintro e w3 ⟨rfl, k3⟩
  obtain ⟨k3c, k3f⟩ := bcell k3
  have k3z := Below.size k3
  have z3 : w.heap.size + 1 < w3.heap.size := by omega
  have kk := kk.trans k3
  go_wp2_with fail
  exact bodyPost_ret (v := aggV f) (by simp [results, Tryd.results95, go_sem, k3c, k2c, z1, z2, z3, u0, u1, u2]) rfl ⟨rfl, kk.set3 (Nat.le_succ _)⟩
end Go.Proofs.YtipkjpcedfokhaaDoor

namespace Go.Proofs.YtipkjpcedfokhaaDoor
set_option linter.unusedVariables false
set_option linter.unusedSimpArgs false
open Go.RowKit Lv

theorem conv_num (k : Nat) (n : Int) (t : List UInt8) (w : World) (m : Int) (hm : Mx w m) (h1 : -9223372036854775808 ≤ n) (h2 : n ≤ 9223372036854775807) (ht : t.length ≤ 2000) :
    Calls Tryd.prog 95 #[.agg #[.int .u8 k, .int .i64 n, .string ⟨t.toArray⟩], .func (.func 101) #[] #[]] w fun e w' => e = .returned (aggV (vNum ⟨k, n, t⟩)) ∧ Kept w w' := by
  have eg : Enters 101 := enters_of Tryd.func101 (by kernel_rfl) rfl
  have e_number : Enters 102 := enters_of Tryd.func102 (by kernel_rfl) rfl
  have e_read : Enters 103 := enters_of Tryd.func103 (by kernel_rfl) rfl
  have e_same : Enters 98 := enters_of Tryd.func98 (by kernel_rfl) rfl
  by_cases hc : vOk ⟨k, n, t⟩ = true
  · rcases ok_cases hc with e | ⟨n', hn, e⟩ | e | e | ⟨t', ho, e⟩ | ⟨c, c1, c2, e⟩
    · injection e with a b d; subst a; subst b; subst d
      have E : vNum ⟨0, 0, []⟩ = vMake (0 * 10000) := by unfold vNum; rw [hc]; rfl
      rw [E]
      exact conv_hit_ok 101 _ 0 0 [] w (by omega) (by omega) (by simp) eg (Lib.hid (fun w => does_any (does_num 0 0 [] w))) hc 102 (.agg #[.int .u8 ((0 : Nat) : Int), .int .i64 0, .string ⟨([] : List UInt8).toArray⟩]) (vMake (0 * 10000)) (fun w b h => look_hit w b _ 5 0 0 _ h rfl) e_number (fun wz kz => (number_any 0 0 [] wz (by omega) (by omega)))
    · injection e with a b d; subst a; subst b; subst d
      have E : vNum ⟨1, n, []⟩ = ⟨1, n, []⟩ := by unfold vNum; rw [hc]; rfl
      rw [E]
      exact conv_hit_ok 101 _ 1 n [] w (by omega) (by omega) (by simp) eg (Lib.hid (fun w => does_any (does_num 1 n [] w))) hc 98 (.agg #[.int .u8 ((1 : Nat) : Int), .int .i64 n, .string ⟨([] : List UInt8).toArray⟩]) (⟨1, n, []⟩) (fun w b h => look_hit w b _ 5 1 1 _ h rfl) e_same (fun wz kz => (same_any 1 n [] wz))
    · injection e with a b d; subst a; subst d; (obtain rfl : n = 0 := b)
      have E : vNum ⟨2, 0, []⟩ = vMake (0 * 10000) := by unfold vNum; rw [hc]; rfl
      rw [E]
      exact conv_hit_ok 101 _ 2 0 [] w (by omega) (by omega) (by simp) eg (Lib.hid (fun w => does_any (does_num 2 0 [] w))) hc 102 (.agg #[.int .u8 ((2 : Nat) : Int), .int .i64 0, .string ⟨([] : List UInt8).toArray⟩]) (vMake (0 * 10000)) (fun w b h => look_hit w b _ 5 2 2 _ h rfl) e_number (fun wz kz => (number_any 2 0 [] wz (by omega) (by omega)))
    · injection e with a b d; subst a; subst d; (obtain rfl : n = 1 := b)
      have E : vNum ⟨2, 1, []⟩ = vMake (1 * 10000) := by unfold vNum; rw [hc]; rfl
      rw [E]
      exact conv_hit_ok 101 _ 2 1 [] w (by omega) (by omega) (by simp) eg (Lib.hid (fun w => does_any (does_num 2 1 [] w))) hc 102 (.agg #[.int .u8 ((2 : Nat) : Int), .int .i64 1, .string ⟨([] : List UInt8).toArray⟩]) (vMake (1 * 10000)) (fun w b h => look_hit w b _ 5 2 2 _ h rfl) e_number (fun wz kz => (number_any 2 1 [] wz (by omega) (by omega)))
    · injection e with a b d; subst a; subst b; subst d
      have E : vNum ⟨3, 0, t⟩ = vRead t := by unfold vNum; rw [hc]; rfl
      rw [E]
      exact conv_hit_ok 101 _ 3 0 t w (by omega) (by omega) (by omega) eg (Lib.hid (fun w => does_any (does_num 3 0 t w))) hc 103 (.agg #[.int .u8 ((3 : Nat) : Int), .int .i64 0, .string ⟨(t : List UInt8).toArray⟩]) (vRead t) (fun w b h => look_hit w b _ 5 3 3 _ h rfl) e_read (fun wz kz => (readm_any 3 0 t wz m (hm.kept kz) ht))
    · injection e with a b d; subst a; subst b; subst d
      have E : vNum ⟨4, n, []⟩ = ⟨4, n, []⟩ := by unfold vNum; rw [hc]; rfl
      rw [E]
      exact conv_hit_ok 101 _ 4 n [] w (by omega) (by omega) (by simp) eg (Lib.hid (fun w => does_any (does_num 4 n [] w))) hc 98 (.agg #[.int .u8 ((4 : Nat) : Int), .int .i64 n, .string ⟨([] : List UInt8).toArray⟩]) (⟨4, n, []⟩) (fun w b h => look_hit w b _ 5 4 4 _ h rfl) e_same (fun wz kz => (same_any 4 n [] wz))
  · have hc' : vOk ⟨k, n, t⟩ = false := by simpa using hc
    have E : vNum ⟨k, n, t⟩ = vFail 2 := by unfold vNum; rw [if_pos hc']
    rw [E]
    rcases look_way (f0 := 102) (f1 := 98) (f2 := 102) (f3 := 103) (f4 := 98) (x0 := (.agg #[.int .u8 k, .int .i64 n, .string ⟨t.toArray⟩])) (x := (.agg #[.int .u8 k, .int .i64 n, .string ⟨t.toArray⟩])) k with ⟨fv, h⟩ | h
    · exact conv_hit_no 101 _ k n t w h1 h2 (by omega) eg (Lib.hid (fun w => does_any (does_num k n t w))) hc' fv h
    · exact conv_miss 101 _ k n t w h1 h2 (by omega) eg (Lib.hid (fun w => does_any (does_num k n t w))) h
set_option maxHeartbeats 400000 in
theorem tonum_any (v : Vl) (w : World) (m : Int) (hm : Mx w m) (hn : i64 v.n) (ht : v.t.length ≤ 2000) : Calls Tryd.prog 65 #[aggV v] w fun e w' => e = .returned (aggV (vNum v)) ∧ Kept w w' := by
  obtain ⟨k, n, t⟩ := v
  have C := Lib.hid (fun w (h : Mx w m) => conv_num k n t w m h hn.1 hn.2 ht)
  generalize vNum ⟨k, n, t⟩ = f at *
  have HM := Lib.hid hm
  clear hm
  go_enter Tryd.func65, Tryd.ntmps65
  go_wp2_with fail
  refine (C.out _ (HM.out.kept (((Kept.refl _).alloc _).alloc _))).mono ?_
  rintro e w1 ⟨rfl, k1⟩
  obtain ⟨k1c, k1f⟩ := bcell k1
  have k1z := Below.size k1
  try simp only [World.size_alloc] at k1z k1c k1f
  have k1w : w.heap.size + 1 < w1.heap.size := by omega
  go_wp2_with fail
  exact bodyPost_ret (v := aggV f) (by simp [results, Tryd.results65, go_sem, k1c, k1w]) rfl ⟨rfl, (by repeat (first | with_reducible exact Kept.refl _ | with_reducible apply Kept.drew | with_reducible apply Kept.drewN | with_reducible apply Kept.alloc | (with_reducible refine Kept.setCellX ?_ ?_ _; focus (first | (simp; done) | (simp; omega))) | (with_reducible refine Kept.trans ?_ (by assumption))))⟩
theorem conv_txt (k : Nat) (n : Int) (t : List UInt8) (w : World) (h1 : -9223372036854775808 ≤ n) (h2 : n ≤ 9223372036854775807) (ht : t.length ≤ 2000) :
    Calls Tryd.prog 95 #[.agg #[.int .u8 k, .int .i64 n, .string ⟨t.toArray⟩], .func (.func 105) #[] #[]] w fun e w' => e = .returned (aggV (vTxt ⟨k, n, t⟩)) ∧ Kept w w' := by
  have eg : Enters 105 := enters_of Tryd.func105 (by kernel_rfl) rfl
  have e_digits : Enters 106 := enters_of Tryd.func106 (by kernel_rfl) rfl
  have e_same : Enters 98 := enters_of Tryd.func98 (by kernel_rfl) rfl
  have e_word : Enters 107 := enters_of Tryd.func107 (by kernel_rfl) rfl
  by_cases hc : vOk ⟨k, n, t⟩ = true
  · rcases ok_cases hc with e | ⟨n', hn, e⟩ | e | e | ⟨t', ho, e⟩ | ⟨c, c1, c2, e⟩
    · injection e with a b d; subst a; subst b; subst d
      have E : vTxt ⟨0, 0, []⟩ = ⟨3, 0, []⟩ := by unfold vTxt; rw [hc]; rfl
      rw [E]
      exact conv_hit_ok 105 _ 0 0 [] w (by omega) (by omega) (by simp) eg (Lib.hid (fun w => does_any (does_txt 0 0 [] w))) hc 98 (.agg #[.int .u8 ((3 : Nat) : Int), .int .i64 0, .string ⟨([] : List UInt8).toArray⟩]) (⟨3, 0, []⟩) (fun w b h => look_hit w b _ 5 0 0 _ h rfl) e_same (fun wz kz => (same_any 3 0 [] wz))
    · injection e with a b d; subst a; subst b; subst d
      have E : vTxt ⟨1, n, []⟩ = ⟨3, 0, fmt n⟩ := by unfold vTxt; rw [hc]; rfl
      rw [E]
      exact conv_hit_ok 105 _ 1 n [] w (by omega) (by omega) (by simp) eg (Lib.hid (fun w => does_any (does_txt 1 n [] w))) hc 106 (.agg #[.int .u8 ((1 : Nat) : Int), .int .i64 n, .string ⟨([] : List UInt8).toArray⟩]) (⟨3, 0, fmt n⟩) (fun w b h => look_hit w b _ 5 1 1 _ h rfl) e_digits (fun wz kz => (digitsm_any 1 n [] wz ⟨h1, h2⟩))
    · injection e with a b d; subst a; subst d; (obtain rfl : n = 0 := b)
      have E : vTxt ⟨2, 0, []⟩ = wordV 0 := by unfold vTxt; rw [hc]; rfl
      rw [E]
      exact conv_hit_ok 105 _ 2 0 [] w (by omega) (by omega) (by simp) eg (Lib.hid (fun w => does_any (does_txt 2 0 [] w))) hc 107 (.agg #[.int .u8 ((2 : Nat) : Int), .int .i64 0, .string ⟨([] : List UInt8).toArray⟩]) (wordV 0) (fun w b h => look_hit w b _ 5 2 2 _ h rfl) e_word (fun wz kz => (word_any 2 0 [] wz))
    · injection e with a b d; subst a; subst d; (obtain rfl : n = 1 := b)
      have E : vTxt ⟨2, 1, []⟩ = wordV 1 := by unfold vTxt; rw [hc]; rfl
      rw [E]
      exact conv_hit_ok 105 _ 2 1 [] w (by omega) (by omega) (by simp) eg (Lib.hid (fun w => does_any (does_txt 2 1 [] w))) hc 107 (.agg #[.int .u8 ((2 : Nat) : Int), .int .i64 1, .string ⟨([] : List UInt8).toArray⟩]) (wordV 1) (fun w b h => look_hit w b _ 5 2 2 _ h rfl) e_word (fun wz kz => (word_any 2 1 [] wz))
    · injection e with a b d; subst a; subst b; subst d
      have E : vTxt ⟨3, 0, t⟩ = ⟨3, 0, t⟩ := by unfold vTxt; rw [hc]; rfl
      rw [E]
      exact conv_hit_ok 105 _ 3 0 t w (by omega) (by omega) (by omega) eg (Lib.hid (fun w => does_any (does_txt 3 0 t w))) hc 98 (.agg #[.int .u8 ((3 : Nat) : Int), .int .i64 0, .string ⟨(t : List UInt8).toArray⟩]) (⟨3, 0, t⟩) (fun w b h => look_hit w b _ 5 3 3 _ h rfl) e_same (fun wz kz => (same_any 3 0 t wz))
    · injection e with a b d; subst a; subst b; subst d
      have E : vTxt ⟨4, n, []⟩ = ⟨4, n, []⟩ := by unfold vTxt; rw [hc]; rfl
      rw [E]
      exact conv_hit_ok 105 _ 4 n [] w (by omega) (by omega) (by simp) eg (Lib.hid (fun w => does_any (does_txt 4 n [] w))) hc 98 (.agg #[.int .u8 ((4 : Nat) : Int), .int .i64 n, .string ⟨([] : List UInt8).toArray⟩]) (⟨4, n, []⟩) (fun w b h => look_hit w b _ 5 4 4 _ h rfl) e_same (fun wz kz => (same_any 4 n [] wz))
  · have hc' : vOk ⟨k, n, t⟩ = false := by simpa using hc
    have E : vTxt ⟨k, n, t⟩ = vFail 2 := by unfold vTxt; rw [if_pos hc']
    rw [E]
    rcases look_way (f0 := 98) (f1 := 106) (f2 := 107) (f3 := 98) (f4 := 98) (x0 := (.agg #[.int .u8 3, .int .i64 0, .string ⟨([] : List UInt8).toArray⟩])) (x := (.agg #[.int .u8 k, .int .i64 n, .string ⟨t.toArray⟩])) k with ⟨fv, h⟩ | h
    · exact conv_hit_no 105 _ k n t w h1 h2 (by omega) eg (Lib.hid (fun w => does_any (does_txt k n t w))) hc' fv h
    · exact conv_miss 105 _ k n t w h1 h2 (by omega) eg (Lib.hid (fun w => does_any (does_txt k n t w))) h
set_option maxHeartbeats 400000 in
theorem totxt_any (v : Vl) (w : World) (hn : i64 v.n) (ht : v.t.length ≤ 2000) : Calls Tryd.prog 67 #[aggV v] w fun e w' => e = .returned (aggV (vTxt v)) ∧ Kept w w' := by
  obtain ⟨k, n, t⟩ := v
  have C := Lib.hid (fun w => conv_txt k n t w hn.1 hn.2 ht)
  generalize vTxt ⟨k, n, t⟩ = f at *
  go_enter Tryd.func67, Tryd.ntmps67
  go_wp2_with fail
  refine (C.out _).mono ?_
  rintro e w1 ⟨rfl, k1⟩
  obtain ⟨k1c, k1f⟩ := bcell k1
  have k1z := Below.size k1
  try simp only [World.size_alloc, World.size_setCell] at k1z k1c k1f
  try have k1x : w.heap.size ≤ w1.heap.size := by omega
  try have k1y := Nat.lt_of_succ_le k1z
  try have k1x2 : w.heap.size < w1.heap.size := by omega
  try have k1w : w.heap.size + 1 < w1.heap.size := by omega
  go_wp2_with fail
  exact bodyPost_ret (v := aggV f) (by simp [results, Tryd.results67, go_sem, k1c, k1w]) rfl ⟨rfl, (by repeat (first | with_reducible exact Kept.refl _ | with_reducible apply Kept.drew | with_reducible apply Kept.drewN | with_reducible apply Kept.alloc | (with_reducible refine Kept.setCellX ?_ ?_ _; focus (first | (simp; done) | (simp; omega))) | (with_reducible refine Kept.trans ?_ (by assumption))))⟩
theorem conv_bool (k : Nat) (n : Int) (t : List UInt8) (w : World) (h1 : -9223372036854775808 ≤ n) (h2 : n ≤ 9223372036854775807) (ht : t.length ≤ 2000) :
    Calls Tryd.prog 95 #[.agg #[.int .u8 k, .int .i64 n, .string ⟨t.toArray⟩], .func (.func 96) #[] #[]] w fun e w' => e = .returned (aggV (vBool ⟨k, n, t⟩)) ∧ Kept w w' := by
  have eg : Enters 96 := enters_of Tryd.func96 (by kernel_rfl) rfl
  have e_named : Enters 99 := enters_of Tryd.func99 (by kernel_rfl) rfl
  have e_same : Enters 98 := enters_of Tryd.func98 (by kernel_rfl) rfl
  have e_truth : Enters 97 := enters_of Tryd.func97 (by kernel_rfl) rfl
  by_cases hc : vOk ⟨k, n, t⟩ = true
  · rcases ok_cases hc with e | ⟨n', hn, e⟩ | e | e | ⟨t', ho, e⟩ | ⟨c, c1, c2, e⟩
    · injection e with a b d; subst a; subst b; subst d
      have E : vBool ⟨0, 0, []⟩ = vTruth (decide ((0 : Int) ≠ 0)) := by unfold vBool; rw [hc]; rfl
      rw [E]
      exact conv_hit_ok 96 _ 0 0 [] w (by omega) (by omega) (by simp) eg (Lib.hid (fun w => does_any (does_bool 0 0 [] w))) hc 97 (.agg #[.int .u8 ((0 : Nat) : Int), .int .i64 0, .string ⟨([] : List UInt8).toArray⟩]) (vTruth (decide ((0 : Int) ≠ 0))) (fun w b h => look_hit w b _ 5 0 0 _ h rfl) e_truth (fun wz kz => (truthm_any 0 0 [] wz))
    · injection e with a b d; subst a; subst b; subst d
      have E : vBool ⟨1, n, []⟩ = vTruth (decide (n ≠ 0)) := by unfold vBool; rw [hc]; rfl
      rw [E]
      exact conv_hit_ok 96 _ 1 n [] w (by omega) (by omega) (by simp) eg (Lib.hid (fun w => does_any (does_bool 1 n [] w))) hc 97 (.agg #[.int .u8 ((1 : Nat) : Int), .int .i64 n, .string ⟨([] : List UInt8).toArray⟩]) (vTruth (decide (n ≠ 0))) (fun w b h => look_hit w b _ 5 1 1 _ h rfl) e_truth (fun wz kz => (truthm_any 1 n [] wz))
    · injection e with a b d; subst a; subst d; (obtain rfl : n = 0 := b)
      have E : vBool ⟨2, 0, []⟩ = ⟨2, 0, []⟩ := by unfold vBool; rw [hc]; rfl
      rw [E]
      exact conv_hit_ok 96 _ 2 0 [] w (by omega) (by omega) (by simp) eg (Lib.hid (fun w => does_any (does_bool 2 0 [] w))) hc 98 (.agg #[.int .u8 ((2 : Nat) : Int), .int .i64 0, .string ⟨([] : List UInt8).toArray⟩]) (⟨2, 0, []⟩) (fun w b h => look_hit w b _ 5 2 2 _ h rfl) e_same (fun wz kz => (same_any 2 0 [] wz))
    · injection e with a b d; subst a; subst d; (obtain rfl : n = 1 := b)
      have E : vBool ⟨2, 1, []⟩ = ⟨2, 1, []⟩ := by unfold vBool; rw [hc]; rfl
      rw [E]
      exact conv_hit_ok 96 _ 2 1 [] w (by omega) (by omega) (by simp) eg (Lib.hid (fun w => does_any (does_bool 2 1 [] w))) hc 98 (.agg #[.int .u8 ((2 : Nat) : Int), .int .i64 1, .string ⟨([] : List UInt8).toArray⟩]) (⟨2, 1, []⟩) (fun w b h => look_hit w b _ 5 2 2 _ h rfl) e_same (fun wz kz => (same_any 2 1 [] wz))
    · injection e with a b d; subst a; subst b; subst d
      have E : vBool ⟨3, 0, t⟩ = vNamed t := by unfold vBool; rw [hc]; rfl
      rw [E]
      exact conv_hit_ok 96 _ 3 0 t w (by omega) (by omega) (by omega) eg (Lib.hid (fun w => does_any (does_bool 3 0 t w))) hc 99 (.agg #[.int .u8 ((3 : Nat) : Int), .int .i64 0, .string ⟨(t : List UInt8).toArray⟩]) (vNamed t) (fun w b h => look_hit w b _ 5 3 3 _ h rfl) e_named (fun wz kz => (named_any 3 0 t wz (by omega)))
    · injection e with a b d; subst a; subst b; subst d
      have E : vBool ⟨4, n, []⟩ = ⟨4, n, []⟩ := by unfold vBool; rw [hc]; rfl
      rw [E]
      exact conv_hit_ok 96 _ 4 n [] w (by omega) (by omega) (by simp) eg (Lib.hid (fun w => does_any (does_bool 4 n [] w))) hc 98 (.agg #[.int .u8 ((4 : Nat) : Int), .int .i64 n, .string ⟨([] : List UInt8).toArray⟩]) (⟨4, n, []⟩) (fun w b h => look_hit w b _ 5 4 4 _ h rfl) e_same (fun wz kz => (same_any 4 n [] wz))
  · have hc' : vOk ⟨k, n, t⟩ = false := by simpa using hc
    have E : vBool ⟨k, n, t⟩ = vFail 2 := by unfold vBool; rw [if_pos hc']
    rw [E]
    rcases look_way (f0 := 97) (f1 := 97) (f2 := 98) (f3 := 99) (f4 := 98) (x0 := (.agg #[.int .u8 k, .int .i64 n, .string ⟨t.toArray⟩])) (x := (.agg #[.int .u8 k, .int .i64 n, .string ⟨t.toArray⟩])) k with ⟨fv, h⟩ | h
    · exact conv_hit_no 96 _ k n t w h1 h2 (by omega) eg (Lib.hid (fun w => does_any (does_bool k n t w))) hc' fv h
    · exact conv_miss 96 _ k n t w h1 h2 (by omega) eg (Lib.hid (fun w => does_any (does_bool k n t w))) h
set_option maxHeartbeats 400000 in
theorem tobool_any (v : Vl) (w : World) (hn : i64 v.n) (ht : v.t.length ≤ 2000) : Calls Tryd.prog 53 #[aggV v] w fun e w' => e = .returned (aggV (vBool v)) ∧ Kept w w' := by
  obtain ⟨k, n, t⟩ := v
  have C := Lib.hid (fun w => conv_bool k n t w hn.1 hn.2 ht)
  generalize vBool ⟨k, n, t⟩ = f at *
  go_enter Tryd.func53, Tryd.ntmps53
  go_wp2_with fail
  refine (C.out _).mono ?_
  rintro e w1 ⟨rfl, k1⟩
  obtain ⟨k1c, k1f⟩ := bcell k1
  have k1z := Below.size k1
  try simp only [World.size_alloc, World.size_setCell] at k1z k1c k1f
  try have k1x : w.heap.size ≤ w1.heap.size := by omega
  try have k1y := Nat.lt_of_succ_le k1z
  try have k1x2 : w.heap.size < w1.heap.size := by omega
  try have k1w : w.heap.size + 1 < w1.heap.size := by omega
  go_wp2_with fail
  exact bodyPost_ret (v := aggV f) (by simp [results, Tryd.results53, go_sem, k1c, k1w]) rfl ⟨rfl, (by repeat (first | with_reducible exact Kept.refl _ | with_reducible apply Kept.drew | with_reducible apply Kept.drewN | with_reducible apply Kept.alloc | (with_reducible refine Kept.setCellX ?_ ?_ _; focus (first | (simp; done) | (simp; omega))) | (with_reducible refine Kept.trans ?_ (by assumption))))⟩
end Go.Proofs.YtipkjpcedfokhaaDoor

namespace Go.Proofs.YtipkjpcedfokhaaDoor
set_option linter.unusedVariables false
set_option linter.unusedSimpArgs false
open Go.RowKit Lv

theorem rword_any (n : Int) (w : World) : Calls Tryd.prog 109 #[.int .i64 n] w fun e w' => e = .returned (.string ⟨(wordV n).t.toArray⟩) ∧ Kept w w' := by
  by_cases c : n = 1
  · subst c
    go_enter Tryd.func109, Tryd.ntmps109
    go_wp2_with fail
    go_ret
    exact ⟨rfl, (by repeat (first | with_reducible exact Kept.refl _ | with_reducible apply Kept.drew | with_reducible apply Kept.drewN | with_reducible apply Kept.alloc | (with_reducible refine Kept.setCellX ?_ ?_ _; focus (first | (simp; done) | (simp; omega))) | (with_reducible refine Kept.trans ?_ (by assumption))))⟩
  · have E : Hid ((wordV n).t = noT) := by
      show _ = _
      unfold wordV; rw [if_neg c]
    have c0 : (n == 1) = false := by simpa using c
    clear c
    go_enter Tryd.func109, Tryd.ntmps109
    go_wp2_with fail
    go_ret
    exact ⟨ret_bs E.out.symm, (by repeat (first | with_reducible exact Kept.refl _ | with_reducible apply Kept.drew | with_reducible apply Kept.drewN | with_reducible apply Kept.alloc | (with_reducible refine Kept.setCellX ?_ ?_ _; focus (first | (simp; done) | (simp; omega))) | (with_reducible refine Kept.trans ?_ (by assumption))))⟩

set_option maxHeartbeats 1000000 in
set_option maxRecDepth 100000 in
theorem rtonum_any (v : Vl) (w : World) (hn : i64 v.n) (ht : v.t.length ≤ 2000) : Calls Tryd.prog 66 #[aggV v] w fun e w' => e = .returned (aggV (vNum v)) ∧ Kept w w' := by
  have C := Lib.hid (fun w => rcheck5_any v w hn (by omega))
  by_cases hc : vOk v = true
  · rw [chk_yes hc] at C
    rcases ok_cases hc with e | ⟨n, hn', e⟩ | e | e | ⟨t, ho, e⟩ | ⟨c, c1, c2, e⟩
    · subst e
      have E : Hid (vNum ⟨0, 0, []⟩ = vMake 0) := by
        show _ = _
        unfold vNum; rw [hc]; rfl
      have C2 : Hid (∀ w, Calls Tryd.prog 56 #[.agg #[.int .u8 0, .int .i64 0, .string ⟨#[]⟩]] w fun e w' => e = .returned (.int .i64 0) ∧ Kept w w') := C.out
      clear hc C
      have M := Lib.hid (fun w => rmake_any 0 w (by omega) (by omega))
      generalize vMake 0 = f at *
      show Calls _ _ #[.agg #[.int .u8 0, .int .i64 0, .string ⟨#[]⟩]] w _
      go_enter Tryd.func66, Tryd.ntmps66
      go_wp2_with fail
      refine (C2.out _).mono ?_
      rintro e w1 ⟨rfl, k1⟩
      obtain ⟨k1c, k1f⟩ := bcell k1
      have k1z := Below.size k1
      try simp only [World.size_alloc, World.size_setCell] at k1z k1c k1f
      try have k1x : w.heap.size ≤ w1.heap.size := by omega
      try have k1y := Nat.lt_of_succ_le k1z
      try have k1x2 : w.heap.size < w1.heap.size := by omega
      try have k1w : w.heap.size + 1 < w1.heap.size := by omega
      go_wp2_with fail
      refine (M.out _).mono ?_
      rintro e w2 ⟨rfl, k2⟩
      obtain ⟨k2c, k2f⟩ := bcell k2
      have k2z := Below.size k2
      try simp only [World.size_alloc, World.size_setCell] at k2z k2c k2f
      try have k2x : w.heap.size ≤ w2.heap.size := by omega
      try have k2y := Nat.lt_of_succ_le k2z
      try have k2x2 : w.heap.size < w2.heap.size := by omega
      try have k2w : w.heap.size + 1 < w2.heap.size := by omega
      go_wp2_with fail
      exact bodyPost_ret (v := aggV f) (by simp [results, Tryd.results66, go_sem, k1c, k1w, k1x2, k2c, k2w, k2x2]) rfl ⟨by rw [E.out], (by repeat (first | with_reducible exact Kept.refl _ | with_reducible apply Kept.drew | with_reducible apply Kept.drewN | with_reducible apply Kept.alloc | (with_reducible refine Kept.setCellX ?_ ?_ _; focus (first | (simp; done) | (simp; omega))) | (with_reducible refine Kept.trans ?_ (by assumption))))⟩
    · subst e
      have E : Hid (vNum ⟨1, n, []⟩ = ⟨1, n, []⟩) := by
        show _ = _
        unfold vNum; rw [hc]; rfl
      have C2 : Hid (∀ w, Calls Tryd.prog 56 #[.agg #[.int .u8 1, .int .i64 n, .string ⟨#[]⟩]] w fun e w' => e = .returned (.int .i64 0) ∧ Kept w w') := C.out
      clear hc C
      show Calls _ _ #[.agg #[.int .u8 1, .int .i64 n, .string ⟨#[]⟩]] w _
      go_enter Tryd.func66, Tryd.ntmps66
      go_wp2_with fail
      refine (C2.out _).mono ?_
      rintro e w1 ⟨rfl, k1⟩
      obtain ⟨k1c, k1f⟩ := bcell k1
      have k1z := Below.size k1
      try simp only [World.size_alloc, World.size_setCell] at k1z k1c k1f
      try have k1x : w.heap.size ≤ w1.heap.size := by omega
      try have k1y := Nat.lt_of_succ_le k1z
      try have k1x2 : w.heap.size < w1.heap.size := by omega
      try have k1w : w.heap.size + 1 < w1.heap.size := by omega
      go_wp2_with fail
      exact bodyPost_ret (v := aggV ⟨1, n, []⟩) (by simp [results, Tryd.results66, go_sem, k1c, k1w, k1x2]) rfl ⟨by rw [E.out], (by repeat (first | with_reducible exact Kept.refl _ | with_reducible apply Kept.drew | with_reducible apply Kept.drewN | with_reducible apply Kept.alloc | (with_reducible refine Kept.setCellX ?_ ?_ _; focus (first | (simp; done) | (simp; omega))) | (with_reducible refine Kept.trans ?_ (by assumption))))⟩
    · have e : v = ⟨2, 0, []⟩ := e
      subst e
      have E : Hid (vNum ⟨2, 0, []⟩ = vMake (0 * 10000)) := by
        show _ = _
        unfold vNum; rw [hc]; rfl
      have C2 : Hid (∀ w, Calls Tryd.prog 56 #[.agg #[.int .u8 2, .int .i64 0, .string ⟨#[]⟩]] w fun e w' => e = .returned (.int .i64 0) ∧ Kept w w') := C.out
      clear hc C
      have M : Hid (∀ w, Calls Tryd.prog 58 #[.int .i64 0] w fun e w' => e = .returned (aggV (vMake (0 * 10000))) ∧ Kept w w') := fun w => rmake_any 0 w (by omega) (by omega)
      generalize vMake (0 * 10000) = f at *
      show Calls _ _ #[.agg #[.int .u8 2, .int .i64 0, .string ⟨#[]⟩]] w _
      go_enter Tryd.func66, Tryd.ntmps66
      go_wp2_with fail
      refine (C2.out _).mono ?_
      rintro e w1 ⟨rfl, k1⟩
      obtain ⟨k1c, k1f⟩ := bcell k1
      have k1z := Below.size k1
      try simp only [World.size_alloc, World.size_setCell] at k1z k1c k1f
      try have k1x : w.heap.size ≤ w1.heap.size := by omega
      try have k1y := Nat.lt_of_succ_le k1z
      try have k1x2 : w.heap.size < w1.heap.size := by omega
      try have k1w : w.heap.size + 1 < w1.heap.size := by omega
      go_wp2_with fail
      refine (M.out _).mono ?_
      rintro e w2 ⟨rfl, k2⟩
      obtain ⟨k2c, k2f⟩ := bcell k2
      have k2z := Below.size k2
      try simp only [World.size_alloc, World.size_setCell] at k2z k2c k2f
      try have k2x : w.heap.size ≤ w2.heap.size := by omega
      try have k2y := Nat.lt_of_succ_le k2z
      try have k2x2 : w.heap.size < w2.heap.size := by omega
      try have k2w : w.heap.size + 1 < w2.heap.size := by omega
      go_wp2_with fail
      exact bodyPost_ret (v := aggV f) (by simp [results, Tryd.results66, go_sem, k1c, k1w, k1x2, k2c, k2w, k2x2]) rfl ⟨by rw [E.out], (by repeat (first | with_reducible exact Kept.refl _ | with_reducible apply Kept.drew | with_reducible apply Kept.drewN | with_reducible apply Kept.alloc | (with_reducible refine Kept.setCellX ?_ ?_ _; focus (first | (simp; done) | (simp; omega))) | (with_reducible refine Kept.trans ?_ (by assumption))))⟩
    · have e : v = ⟨2, 1, []⟩ := e
      subst e
      have E : Hid (vNum ⟨2, 1, []⟩ = vMake (1 * 10000)) := by
        show _ = _
        unfold vNum; rw [hc]; rfl
      have C2 : Hid (∀ w, Calls Tryd.prog 56 #[.agg #[.int .u8 2, .int .i64 1, .string ⟨#[]⟩]] w fun e w' => e = .returned (.int .i64 0) ∧ Kept w w') := C.out
      clear hc C
      have M : Hid (∀ w, Calls Tryd.prog 58 #[.int .i64 10000] w fun e w' => e = .returned (aggV (vMake (1 * 10000))) ∧ Kept w w') := fun w => rmake_any 10000 w (by omega) (by omega)
      generalize vMake (1 * 10000) = f at *
      show Calls _ _ #[.agg #[.int .u8 2, .int .i64 1, .string ⟨#[]⟩]] w _
      go_enter Tryd.func66, Tryd.ntmps66
      go_wp2_with fail
      refine (C2.out _).mono ?_
      rintro e w1 ⟨rfl, k1⟩
      obtain ⟨k1c, k1f⟩ := bcell k1
      have k1z := Below.size k1
      try simp only [World.size_alloc, World.size_setCell] at k1z k1c k1f
      try have k1x : w.heap.size ≤ w1.heap.size := by omega
      try have k1y := Nat.lt_of_succ_le k1z
      try have k1x2 : w.heap.size < w1.heap.size := by omega
      try have k1w : w.heap.size + 1 < w1.heap.size := by omega
      go_wp2_with fail
      refine (M.out _).mono ?_
      rintro e w2 ⟨rfl, k2⟩
      obtain ⟨k2c, k2f⟩ := bcell k2
      have k2z := Below.size k2
      try simp only [World.size_alloc, World.size_setCell] at k2z k2c k2f
      try have k2x : w.heap.size ≤ w2.heap.size := by omega
      try have k2y := Nat.lt_of_succ_le k2z
      try have k2x2 : w.heap.size < w2.heap.size := by omega
      try have k2w : w.heap.size + 1 < w2.heap.size := by omega
      go_wp2_with fail
      exact bodyPost_ret (v := aggV f) (by simp [results, Tryd.results66, go_sem, k1c, k1w, k1x2, k2c, k2w, k2x2]) rfl ⟨by rw [E.out], (by repeat (first | with_reducible exact Kept.refl _ | with_reducible apply Kept.drew | with_reducible apply Kept.drewN | with_reducible apply Kept.alloc | (with_reducible refine Kept.setCellX ?_ ?_ _; focus (first | (simp; done) | (simp; omega))) | (with_reducible refine Kept.trans ?_ (by assumption))))⟩
    · subst e
      have E : Hid (vNum ⟨3, 0, t⟩ = vRead t) := by
        show _ = _
        unfold vNum; rw [hc]; rfl
      have C2 : Hid (∀ w, Calls Tryd.prog 56 #[.agg #[.int .u8 3, .int .i64 0, .string ⟨t.toArray⟩]] w fun e w' => e = .returned (.int .i64 0) ∧ Kept w w') := C.out
      clear hc C
      have T := Lib.hid (fun w => rtrim_any t w (by have : t.length ≤ 2000 := ht; omega))
      have tl := trim_len t
      have P := Lib.hid (fun w => rparse_any (trim t) w (by have : t.length ≤ 2000 := ht; omega))
      have R : vRead t = if (dParse (trim t)).2 = 0 then vMake (dParse (trim t)).1 else if (dParse (trim t)).2 = 3 then vFail 3 else vFail 2 := rfl
      have pr := parse_range (trim t)
      rw [R] at E
      generalize dParse (trim t) = p at *
      generalize trim t = u at *
      obtain ⟨p1, p2⟩ := p
      simp only at E pr
      clear R tl
      by_cases c : p2 = 0
      · subst c
        rw [if_pos rfl] at E
        have M := Lib.hid (fun w => rmake_any p1 w pr.1 pr.2)
        generalize vMake p1 = f at *
        show Calls _ _ #[.agg #[.int .u8 3, .int .i64 0, .string ⟨t.toArray⟩]] w _
        go_enter Tryd.func66, Tryd.ntmps66
        go_wp2_with fail
        refine (C2.out _).mono ?_
        rintro e w1 ⟨rfl, k1⟩
        obtain ⟨k1c, k1f⟩ := bcell k1
        have k1z := Below.size k1
        try simp only [World.size_alloc, World.size_setCell] at k1z k1c k1f
        try have k1x : w.heap.size ≤ w1.heap.size := by omega
        try have k1y := Nat.lt_of_succ_le k1z
        try have k1x2 : w.heap.size < w1.heap.size := by omega
        try have k1w : w.heap.size + 1 < w1.heap.size := by omega
        go_wp2_with fail
        refine (T.out _).mono ?_
        rintro e w2 ⟨rfl, k2⟩
        obtain ⟨k2c, k2f⟩ := bcell k2
        have k2z := Below.size k2
        try simp only [World.size_alloc, World.size_setCell] at k2z k2c k2f
        try have k2x : w.heap.size ≤ w2.heap.size := by omega
        try have k2y := Nat.lt_of_succ_le k2z
        try have k2x2 : w.heap.size < w2.heap.size := by omega
        try have k2w : w.heap.size + 1 < w2.heap.size := by omega
        go_wp2_with fail
        refine (P.out _).mono ?_
        rintro e w3 ⟨rfl, k3⟩
        obtain ⟨k3c, k3f⟩ := bcell k3
        have k3z := Below.size k3
        try simp only [World.size_alloc, World.size_setCell] at k3z k3c k3f
        try have k3x : w.heap.size ≤ w3.heap.size := by omega
        try have k3y := Nat.lt_of_succ_le k3z
        try have k3x2 : w.heap.size < w3.heap.size := by omega
        try have k3w : w.heap.size + 1 < w3.heap.size := by omega
        go_wp2_with fail
        refine (M.out _).mono ?_
        rintro e w4 ⟨rfl, k4⟩
        obtain ⟨k4c, k4f⟩ := bcell k4
        have k4z := Below.size k4
        try simp only [World.size_alloc, World.size_setCell] at k4z k4c k4f
        try have k4x : w.heap.size ≤ w4.heap.size := by omega
        try have k4y := Nat.lt_of_succ_le k4z
        try have k4x2 : w.heap.size < w4.heap.size := by omega
        try have k4w : w.heap.size + 1 < w4.heap.size := by omega
        go_wp2_with fail
        exact bodyPost_ret (v := aggV f) (by simp [results, Tryd.results66, go_sem, k1c, k1w, k1x2, k2c, k2w, k2x2, k3c, k3w, k3x2, k4c, k4w, k4x2]) rfl ⟨by rw [E.out], (by repeat (first | with_reducible exact Kept.refl _ | with_reducible apply Kept.drew | with_reducible apply Kept.drewN | with_reducible apply Kept.alloc | (with_reducible refine Kept.setCellX ?_ ?_ _; focus (first | (simp; done) | (simp; omega))) | (with_reducible refine Kept.trans ?_ (by assumption))))⟩
      rw [if_neg c] at E
      have b0 : (p2 != 0) = true := by simpa using c
      by_cases d : p2 = 3
      · subst d
        rw [if_pos rfl] at E
        clear c b0
        have M := Lib.hid (fun w => rfail_any 3 w)
        generalize vFail 3 = f at *
        show Calls _ _ #[.agg #[.int .u8 3, .int .i64 0, .string ⟨t.toArray⟩]] w _
        go_enter Tryd.func66, Tryd.ntmps66
        go_wp2_with fail
        refine (C2.out _).mono ?_
        rintro e w1 ⟨rfl, k1⟩
        obtain ⟨k1c, k1f⟩ := bcell k1
        have k1z := Below.size k1
        try simp only [World.size_alloc, World.size_setCell] at k1z k1c k1f
        try have k1x : w.heap.size ≤ w1.heap.size := by omega
        try have k1y := Nat.lt_of_succ_le k1z
        try have k1x2 : w.heap.size < w1.heap.size := by omega
        try have k1w : w.heap.size + 1 < w1.heap.size := by omega
        go_wp2_with fail
        refine (T.out _).mono ?_
        rintro e w2 ⟨rfl, k2⟩
        obtain ⟨k2c, k2f⟩ := bcell k2
        have k2z := Below.size k2
        try simp only [World.size_alloc, World.size_setCell] at k2z k2c k2f
        try have k2x : w.heap.size ≤ w2.heap.size := by omega
        try have k2y := Nat.lt_of_succ_le k2z
        try have k2x2 : w.heap.size < w2.heap.size := by omega
        try have k2w : w.heap.size + 1 < w2.heap.size := by omega
        go_wp2_with fail
        refine (P.out _).mono ?_
        rintro e w3 ⟨rfl, k3⟩
        obtain ⟨k3c, k3f⟩ := bcell k3
        have k3z := Below.size k3
        try simp only [World.size_alloc, World.size_setCell] at k3z k3c k3f
        try have k3x : w.heap.size ≤ w3.heap.size := by omega
        try have k3y := Nat.lt_of_succ_le k3z
        try have k3x2 : w.heap.size < w3.heap.size := by omega
        try have k3w : w.heap.size + 1 < w3.heap.size := by omega
        go_wp2_with fail
        refine (M.out _).mono ?_
        rintro e w4 ⟨rfl, k4⟩
        obtain ⟨k4c, k4f⟩ := bcell k4
        have k4z := Below.size k4
        try simp only [World.size_alloc, World.size_setCell] at k4z k4c k4f
        try have k4x : w.heap.size ≤ w4.heap.size := by omega
        try have k4y := Nat.lt_of_succ_le k4z
        try have k4x2 : w.heap.size < w4.heap.size := by omega
        try have k4w : w.heap.size + 1 < w4.heap.size := by omega
        go_wp2_with fail
        exact bodyPost_ret (v := aggV f) (by simp [results, Tryd.results66, go_sem, k1c, k1w, k1x2, k2c, k2w, k2x2, k3c, k3w, k3x2, k4c, k4w, k4x2]) rfl ⟨by rw [E.out], (by repeat (first | with_reducible exact Kept.refl _ | with_reducible apply Kept.drew | with_reducible apply Kept.drewN | with_reducible apply Kept.alloc | (with_reducible refine Kept.setCellX ?_ ?_ _; focus (first | (simp; done) | (simp; omega))) | (with_reducible refine Kept.trans ?_ (by assumption))))⟩
      · rw [if_neg d] at E
        have b3 : (p2 == 3) = false := by simpa using d
        clear c d
        have M := Lib.hid (fun w => rfail_any 2 w)
        generalize vFail 2 = f at *
        show Calls _ _ #[.agg #[.int .u8 3, .int .i64 0, .string ⟨t.toArray⟩]] w _
        go_enter Tryd.func66, Tryd.ntmps66
        go_wp2_with fail
        refine (C2.out _).mono ?_
        rintro e w1 ⟨rfl, k1⟩
        obtain ⟨k1c, k1f⟩ := bcell k1
        have k1z := Below.size k1
        try simp only [World.size_alloc, World.size_setCell] at k1z k1c k1f
        try have k1x : w.heap.size ≤ w1.heap.size := by omega
        try have k1y := Nat.lt_of_succ_le k1z
        try have k1x2 : w.heap.size < w1.heap.size := by omega
        try have k1w : w.heap.size + 1 < w1.heap.size := by omega
        go_wp2_with fail
        refine (T.out _).mono ?_
        rintro e w2 ⟨rfl, k2⟩
        obtain ⟨k2c, k2f⟩ := bcell k2
        have k2z := Below.size k2
        try simp only [World.size_alloc, World.size_setCell] at k2z k2c k2f
        try have k2x : w.heap.size ≤ w2.heap.size := by omega
        try have k2y := Nat.lt_of_succ_le k2z
        try have k2x2 : w.heap.size < w2.heap.size := by omega
        try have k2w : w.heap.size + 1 < w2.heap.size := by omega
        go_wp2_with fail
        refine (P.out _).mono ?_
        rintro e w3 ⟨rfl, k3⟩
        obtain ⟨k3c, k3f⟩ := bcell k3
        have k3z := Below.size k3
        try simp only [World.size_alloc, World.size_setCell] at k3z k3c k3f
        try have k3x : w.heap.size ≤ w3.heap.size := by omega
        try have k3y := Nat.lt_of_succ_le k3z
        try have k3x2 : w.heap.size < w3.heap.size := by omega
        try have k3w : w.heap.size + 1 < w3.heap.size := by omega
        go_wp2_with fail
        refine (M.out _).mono ?_
        rintro e w4 ⟨rfl, k4⟩
        obtain ⟨k4c, k4f⟩ := bcell k4
        have k4z := Below.size k4
        try simp only [World.size_alloc, World.size_setCell] at k4z k4c k4f
        try have k4x : w.heap.size ≤ w4.heap.size := by omega
        try have k4y := Nat.lt_of_succ_le k4z
        try have k4x2 : w.heap.size < w4.heap.size := by omega
        try have k4w : w.heap.size + 1 < w4.heap.size := by omega
        go_wp2_with fail
        exact bodyPost_ret (v := aggV f) (by simp [results, Tryd.results66, go_sem, k1c, k1w, k1x2, k2c, k2w, k2x2, k3c, k3w, k3x2, k4c, k4w, k4x2]) rfl ⟨by rw [E.out], (by repeat (first | with_reducible exact Kept.refl _ | with_reducible apply Kept.drew | with_reducible apply Kept.drewN | with_reducible apply Kept.alloc | (with_reducible refine Kept.setCellX ?_ ?_ _; focus (first | (simp; done) | (simp; omega))) | (with_reducible refine Kept.trans ?_ (by assumption))))⟩
    · subst e
      have E : Hid (vNum ⟨4, c, []⟩ = ⟨4, c, []⟩) := by
        show _ = _
        unfold vNum; rw [hc]; rfl
      have C2 : Hid (∀ w, Calls Tryd.prog 56 #[.agg #[.int .u8 4, .int .i64 c, .string ⟨#[]⟩]] w fun e w' => e = .returned (.int .i64 0) ∧ Kept w w') := C.out
      clear hc C
      show Calls _ _ #[.agg #[.int .u8 4, .int .i64 c, .string ⟨#[]⟩]] w _
      go_enter Tryd.func66, Tryd.ntmps66
      go_wp2_with fail
      refine (C2.out _).mono ?_
      rintro e w1 ⟨rfl, k1⟩
      obtain ⟨k1c, k1f⟩ := bcell k1
      have k1z := Below.size k1
      try simp only [World.size_alloc, World.size_setCell] at k1z k1c k1f
      try have k1x : w.heap.size ≤ w1.heap.size := by omega
      try have k1y := Nat.lt_of_succ_le k1z
      try have k1x2 : w.heap.size < w1.heap.size := by omega
      try have k1w : w.heap.size + 1 < w1.heap.size := by omega
      go_wp2_with fail
      exact bodyPost_ret (v := aggV ⟨4, c, []⟩) (by simp [results, Tryd.results66, go_sem, k1c, k1w, k1x2]) rfl ⟨by rw [E.out], (by repeat (first | with_reducible exact Kept.refl _ | with_reducible apply Kept.drew | with_reducible apply Kept.drewN | with_reducible apply Kept.alloc | (with_reducible refine Kept.setCellX ?_ ?_ _; focus (first | (simp; done) | (simp; omega))) | (with_reducible refine Kept.trans ?_ (by assumption))))⟩
  · have hc' : vOk v = false := by simpa using hc
    have E : Hid (vNum v = vFail 2) := by
      show _ = _
      unfold vNum; rw [if_pos hc']
    rw [chk_no hc'] at C
    have M := Lib.hid (fun w => rfail_any 2 w)
    generalize vFail 2 = f at *
    generalize vNum v = r at *
    obtain ⟨k, n, t⟩ := v
    clear hc hc'
    go_enter Tryd.func66, Tryd.ntmps66
    go_wp2_with fail
    refine (C.out _).mono ?_
    rintro e w1 ⟨rfl, k1⟩
    obtain ⟨k1c, k1f⟩ := bcell k1
    have k1z := Below.size k1
    try simp only [World.size_alloc, World.size_setCell] at k1z k1c k1f
    try have k1x : w.heap.size ≤ w1.heap.size := by omega
    try have k1y := Nat.lt_of_succ_le k1z
    try have k1x2 : w.heap.size < w1.heap.size := by omega
    try have k1w : w.heap.size + 1 < w1.heap.size := by omega
    go_wp2_with fail
    refine (M.out _).mono ?_
    rintro e w2 ⟨rfl, k2⟩
    obtain ⟨k2c, k2f⟩ := bcell k2
    have k2z := Below.size k2
    try simp only [World.size_alloc, World.size_setCell] at k2z k2c k2f
    try have k2x : w.heap.size ≤ w2.heap.size := by omega
    try have k2y := Nat.lt_of_succ_le k2z
    try have k2x2 : w.heap.size < w2.heap.size := by omega
    try have k2w : w.heap.size + 1 < w2.heap.size := by omega
    go_wp2_with fail
    exact bodyPost_ret (v := aggV f) (by simp [results, Tryd.results66, go_sem, k1c, k1w, k2c, k2w]) rfl ⟨by rw [E.out], (by repeat (first | with_reducible exact Kept.refl _ | with_reducible apply Kept.drew | with_reducible apply Kept.drewN | with_reducible apply Kept.alloc | (with_reducible refine Kept.setCellX ?_ ?_ _; focus (first | (simp; done) | (simp; omega))) | (with_reducible refine Kept.trans ?_ (by assumption))))⟩

set_option maxHeartbeats 1000000 in
set_option maxRecDepth 100000 in
theorem rtotxt_any (v : Vl) (w : World) (hn : i64 v.n) (ht : v.t.length ≤ 2000) : Calls Tryd.prog 68 #[aggV v] w fun e w' => e = .returned (aggV (vTxt v)) ∧ Kept w w' := by
  have C := Lib.hid (fun w => rcheck5_any v w hn (by omega))
  by_cases hc : vOk v = true
  · rw [chk_yes hc] at C
    rcases ok_cases hc with e | ⟨n, hn', e⟩ | e | e | ⟨t, ho, e⟩ | ⟨c, c1, c2, e⟩
    · subst e
      have E : Hid (vTxt ⟨0, 0, []⟩ = ⟨3, 0, []⟩) := by
        show _ = _
        unfold vTxt; rw [hc]; rfl
      have C2 : Hid (∀ w, Calls Tryd.prog 56 #[.agg #[.int .u8 0, .int .i64 0, .string ⟨#[]⟩]] w fun e w' => e = .returned (.int .i64 0) ∧ Kept w w') := C.out
      clear hc C
      show Calls _ _ #[.agg #[.int .u8 0, .int .i64 0, .string ⟨#[]⟩]] w _
      go_enter Tryd.func68, Tryd.ntmps68
      go_wp2_with fail
      refine (C2.out _).mono ?_
      rintro e w1 ⟨rfl, k1⟩
      obtain ⟨k1c, k1f⟩ := bcell k1
      have k1z := Below.size k1
      try simp only [World.size_alloc, World.size_setCell] at k1z k1c k1f
      try have k1x : w.heap.size ≤ w1.heap.size := by omega
      try have k1y := Nat.lt_of_succ_le k1z
      try have k1x2 : w.heap.size < w1.heap.size := by omega
      try have k1w : w.heap.size + 1 < w1.heap.size := by omega
      go_wp2_with fail
      exact bodyPost_ret (v := aggV ⟨3, 0, []⟩) (by simp [results, Tryd.results68, go_sem, k1c, k1w, k1x2]) rfl ⟨by rw [E.out], (by repeat (first | with_reducible exact Kept.refl _ | with_reducible apply Kept.drew | with_reducible apply Kept.drewN | with_reducible apply Kept.alloc | (with_reducible refine Kept.setCellX ?_ ?_ _; focus (first | (simp; done) | (simp; omega))) | (with_reducible refine Kept.trans ?_ (by assumption))))⟩
    · subst e
      have E : Hid (vTxt ⟨1, n, []⟩ = ⟨3, 0, fmt n⟩) := by
        show _ = _
        unfold vTxt; rw [hc]; rfl
      have C2 : Hid (∀ w, Calls Tryd.prog 56 #[.agg #[.int .u8 1, .int .i64 n, .string ⟨#[]⟩]] w fun e w' => e = .returned (.int .i64 0) ∧ Kept w w') := C.out
      clear hc C
      have M := Lib.hid (fun w => rformat_any n w hn)
      generalize fmt n = f at *
      show Calls _ _ #[.agg #[.int .u8 1, .int .i64 n, .string ⟨#[]⟩]] w _
      go_enter Tryd.func68, Tryd.ntmps68
      go_wp2_with fail
      refine (C2.out _).mono ?_
      rintro e w1 ⟨rfl, k1⟩
      obtain ⟨k1c, k1f⟩ := bcell k1
      have k1z := Below.size k1
      try simp only [World.size_alloc, World.size_setCell] at k1z k1c k1f
      try have k1x : w.heap.size ≤ w1.heap.size := by omega
      try have k1y := Nat.lt_of_succ_le k1z
      try have k1x2 : w.heap.size < w1.heap.size := by omega
      try have k1w : w.heap.size + 1 < w1.heap.size := by omega
      go_wp2_with fail
      refine (M.out _).mono ?_
      rintro e w2 ⟨rfl, k2⟩
      obtain ⟨k2c, k2f⟩ := bcell k2
      have k2z := Below.size k2
      try simp only [World.size_alloc, World.size_setCell] at k2z k2c k2f
      try have k2x : w.heap.size ≤ w2.heap.size := by omega
      try have k2y := Nat.lt_of_succ_le k2z
      try have k2x2 : w.heap.size < w2.heap.size := by omega
      try have k2w : w.heap.size + 1 < w2.heap.size := by omega
      go_wp2_with fail
      exact bodyPost_ret (v := aggV ⟨3, 0, f⟩) (by simp [results, Tryd.results68, go_sem, k1c, k1w, k1x2, k2c, k2w, k2x2]) rfl ⟨by rw [E.out], (by repeat (first | with_reducible exact Kept.refl _ | with_reducible apply Kept.drew | with_reducible apply Kept.drewN | with_reducible apply Kept.alloc | (with_reducible refine Kept.setCellX ?_ ?_ _; focus (first | (simp; done) | (simp; omega))) | (with_reducible refine Kept.trans ?_ (by assumption))))⟩
    · have e : v = ⟨2, 0, []⟩ := e
      subst e
      have E : Hid (vTxt ⟨2, 0, []⟩ = ⟨3, 0, (wordV 0).t⟩) := by
        show _ = _
        unfold vTxt; rw [hc]; rfl
      have C2 : Hid (∀ w, Calls Tryd.prog 56 #[.agg #[.int .u8 2, .int .i64 0, .string ⟨#[]⟩]] w fun e w' => e = .returned (.int .i64 0) ∧ Kept w w') := C.out
      clear hc C
      have M := Lib.hid (fun w => rword_any 0 w)
      show Calls _ _ #[.agg #[.int .u8 2, .int .i64 0, .string ⟨#[]⟩]] w _
      go_enter Tryd.func68, Tryd.ntmps68
      go_wp2_with fail
      refine (C2.out _).mono ?_
      rintro e w1 ⟨rfl, k1⟩
      obtain ⟨k1c, k1f⟩ := bcell k1
      have k1z := Below.size k1
      try simp only [World.size_alloc, World.size_setCell] at k1z k1c k1f
      try have k1x : w.heap.size ≤ w1.heap.size := by omega
      try have k1y := Nat.lt_of_succ_le k1z
      try have k1x2 : w.heap.size < w1.heap.size := by omega
      try have k1w : w.heap.size + 1 < w1.heap.size := by omega
      go_wp2_with fail
      refine (M.out _).mono ?_
      rintro e w2 ⟨rfl, k2⟩
      obtain ⟨k2c, k2f⟩ := bcell k2
      have k2z := Below.size k2
      try simp only [World.size_alloc, World.size_setCell] at k2z k2c k2f
      try have k2x : w.heap.size ≤ w2.heap.size := by omega
      try have k2y := Nat.lt_of_succ_le k2z
      try have k2x2 : w.heap.size < w2.heap.size := by omega
      try have k2w : w.heap.size + 1 < w2.heap.size := by omega
      go_wp2_with fail
      exact bodyPost_ret (v := aggV ⟨3, 0, (wordV 0).t⟩) (by simp [results, Tryd.results68, go_sem, k1c, k1w, k1x2, k2c, k2w, k2x2]) rfl ⟨by rw [E.out], (by repeat (first | with_reducible exact Kept.refl _ | with_reducible apply Kept.drew | with_reducible apply Kept.drewN | with_reducible apply Kept.alloc | (with_reducible refine Kept.setCellX ?_ ?_ _; focus (first | (simp; done) | (simp; omega))) | (with_reducible refine Kept.trans ?_ (by assumption))))⟩
    · have e : v = ⟨2, 1, []⟩ := e
      subst e
      have E : Hid (vTxt ⟨2, 1, []⟩ = ⟨3, 0, (wordV 1).t⟩) := by
        show _ = _
        unfold vTxt; rw [hc]; rfl
      have C2 : Hid (∀ w, Calls Tryd.prog 56 #[.agg #[.int .u8 2, .int .i64 1, .string ⟨#[]⟩]] w fun e w' => e = .returned (.int .i64 0) ∧ Kept w w') := C.out
      clear hc C
      have M := Lib.hid (fun w => rword_any 1 w)
      show Calls _ _ #[.agg #[.int .u8 2, .int .i64 1, .string ⟨#[]⟩]] w _
      go_enter Tryd.func68, Tryd.ntmps68
      go_wp2_with fail
      refine (C2.out _).mono ?_
      rintro e w1 ⟨rfl, k1⟩
      obtain ⟨k1c, k1f⟩ := bcell k1
      have k1z := Below.size k1
      try simp only [World.size_alloc, World.size_setCell] at k1z k1c k1f
      try have k1x : w.heap.size ≤ w1.heap.size := by omega
      try have k1y := Nat.lt_of_succ_le k1z
      try have k1x2 : w.heap.size < w1.heap.size := by omega
      try have k1w : w.heap.size + 1 < w1.heap.size := by omega
      go_wp2_with fail
      refine (M.out _).mono ?_
      rintro e w2 ⟨rfl, k2⟩
      obtain ⟨k2c, k2f⟩ := bcell k2
      have k2z := Below.size k2
      try simp only [World.size_alloc, World.size_setCell] at k2z k2c k2f
      try have k2x : w.heap.size ≤ w2.heap.size := by omega
      try have k2y := Nat.lt_of_succ_le k2z
      try have k2x2 : w.heap.size < w2.heap.size := by omega
      try have k2w : w.heap.size + 1 < w2.heap.size := by omega
      go_wp2_with fail
      exact bodyPost_ret (v := aggV ⟨3, 0, (wordV 1).t⟩) (by simp [results, Tryd.results68, go_sem, k1c, k1w, k1x2, k2c, k2w, k2x2]) rfl ⟨by rw [E.out], (by repeat (first | with_reducible exact Kept.refl _ | with_reducible apply Kept.drew | with_reducible apply Kept.drewN | with_reducible apply Kept.alloc | (with_reducible refine Kept.setCellX ?_ ?_ _; focus (first | (simp; done) | (simp; omega))) | (with_reducible refine Kept.trans ?_ (by assumption))))⟩
    · subst e
      have E : Hid (vTxt ⟨3, 0, t⟩ = ⟨3, 0, t⟩) := by
        show _ = _
        unfold vTxt; rw [hc]; rfl
      have C2 : Hid (∀ w, Calls Tryd.prog 56 #[.agg #[.int .u8 3, .int .i64 0, .string ⟨t.toArray⟩]] w fun e w' => e = .returned (.int .i64 0) ∧ Kept w w') := C.out
      clear hc C
      show Calls _ _ #[.agg #[.int .u8 3, .int .i64 0, .string ⟨t.toArray⟩]] w _
      go_enter Tryd.func68, Tryd.ntmps68
      go_wp2_with fail
      refine (C2.out _).mono ?_
      rintro e w1 ⟨rfl, k1⟩
      obtain ⟨k1c, k1f⟩ := bcell k1
      have k1z := Below.size k1
      try simp only [World.size_alloc, World.size_setCell] at k1z k1c k1f
      try have k1x : w.heap.size ≤ w1.heap.size := by omega
      try have k1y := Nat.lt_of_succ_le k1z
      try have k1x2 : w.heap.size < w1.heap.size := by omega
      try have k1w : w.heap.size + 1 < w1.heap.size := by omega
      go_wp2_with fail
      exact bodyPost_ret (v := aggV ⟨3, 0, t⟩) (by simp [results, Tryd.results68, go_sem, k1c, k1w, k1x2]) rfl ⟨by rw [E.out], (by repeat (first | with_reducible exact Kept.refl _ | with_reducible apply Kept.drew | with_reducible apply Kept.drewN | with_reducible apply Kept.alloc | (with_reducible refine Kept.setCellX ?_ ?_ _; focus (first | (simp; done) | (simp; omega))) | (with_reducible refine Kept.trans ?_ (by assumption))))⟩
    · subst e
      have E : Hid (vTxt ⟨4, c, []⟩ = ⟨4, c, []⟩) := by
        show _ = _
        unfold vTxt; rw [hc]; rfl
      have C2 : Hid (∀ w, Calls Tryd.prog 56 #[.agg #[.int .u8 4, .int .i64 c, .string ⟨#[]⟩]] w fun e w' => e = .returned (.int .i64 0) ∧ Kept w w') := C.out
      clear hc C
      show Calls _ _ #[.agg #[.int .u8 4, .int .i64 c, .string ⟨#[]⟩]] w _
      go_enter Tryd.func68, Tryd.ntmps68
      go_wp2_with fail
      refine (C2.out _).mono ?_
      rintro e w1 ⟨rfl, k1⟩
      obtain ⟨k1c, k1f⟩ := bcell k1
      have k1z := Below.size k1
      try simp only [World.size_alloc, World.size_setCell] at k1z k1c k1f
      try have k1x : w.heap.size ≤ w1.heap.size := by omega
      try have k1y := Nat.lt_of_succ_le k1z
      try have k1x2 : w.heap.size < w1.heap.size := by omega
      try have k1w : w.heap.size + 1 < w1.heap.size := by omega
      go_wp2_with fail
      exact bodyPost_ret (v := aggV ⟨4, c, []⟩) (by simp [results, Tryd.results68, go_sem, k1c, k1w, k1x2]) rfl ⟨by rw [E.out], (by repeat (first | with_reducible exact Kept.refl _ | with_reducible apply Kept.drew | with_reducible apply Kept.drewN | with_reducible apply Kept.alloc | (with_reducible refine Kept.setCellX ?_ ?_ _; focus (first | (simp; done) | (simp; omega))) | (with_reducible refine Kept.trans ?_ (by assumption))))⟩
  · have hc' : vOk v = false := by simpa using hc
    have E : Hid (vTxt v = vFail 2) := by
      show _ = _
      unfold vTxt; rw [if_pos hc']
    rw [chk_no hc'] at C
    have M := Lib.hid (fun w => rfail_any 2 w)
    generalize vFail 2 = f at *
    generalize vTxt v = r at *
    obtain ⟨k, n, t⟩ := v
    clear hc hc'
    go_enter Tryd.func68, Tryd.ntmps68
    go_wp2_with fail
    refine (C.out _).mono ?_
    rintro e w1 ⟨rfl, k1⟩
    obtain ⟨k1c, k1f⟩ := bcell k1
    have k1z := Below.size k1
    try simp only [World.size_alloc, World.size_setCell] at k1z k1c k1f
    try have k1x : w.heap.size ≤ w1.heap.size := by omega
    try have k1y := Nat.lt_of_succ_le k1z
    try have k1x2 : w.heap.size < w1.heap.size := by omega
    try have k1w : w.heap.size + 1 < w1.heap.size := by omega
    go_wp2_with fail
    refine (M.out _).mono ?_
    rintro e w2 ⟨rfl, k2⟩
    obtain ⟨k2c, k2f⟩ := bcell k2
    have k2z := Below.size k2
    try simp only [World.size_alloc, World.size_setCell] at k2z k2c k2f
    try have k2x : w.heap.size ≤ w2.heap.size := by omega
    try have k2y := Nat.lt_of_succ_le k2z
    try have k2x2 : w.heap.size < w2.heap.size := by omega
    try have k2w : w.heap.size + 1 < w2.heap.size := by omega
    go_wp2_with fail
    exact bodyPost_ret (v := aggV f) (by simp [results, Tryd.results68, go_sem, k1c, k1w, k2c, k2w]) rfl ⟨by rw [E.out], (by repeat (first | with_reducible exact Kept.refl _ | with_reducible apply Kept.drew | with_reducible apply Kept.drewN | with_reducible apply Kept.alloc | (with_reducible refine Kept.setCellX ?_ ?_ _; focus (first | (simp; done) | (simp; omega))) | (with_reducible refine Kept.trans ?_ (by assumption))))⟩

set_option maxHeartbeats 1000000 in
set_option maxRecDepth 100000 in
theorem rtobool_any (v : Vl) (w : World) (hn : i64 v.n) (ht : v.t.length ≤ 2000) : Calls Tryd.prog 69 #[aggV v] w fun e w' => e = .returned (aggV (vBool v)) ∧ Kept w w' := by
  have C := Lib.hid (fun w => rcheck5_any v w hn (by omega))
  by_cases hc : vOk v = true
  · rw [chk_yes hc] at C
    rcases ok_cases hc with e | ⟨n, hn', e⟩ | e | e | ⟨t, ho, e⟩ | ⟨c, c1, c2, e⟩
    · subst e
      have E : Hid (vBool ⟨0, 0, []⟩ = vTruth false) := by
        show _ = _
        unfold vBool; rw [hc]; rfl
      have C2 : Hid (∀ w, Calls Tryd.prog 56 #[.agg #[.int .u8 0, .int .i64 0, .string ⟨#[]⟩]] w fun e w' => e = .returned (.int .i64 0) ∧ Kept w w') := C.out
      clear hc C
      have M := Lib.hid (fun w => rtruth_any false w)
      generalize vTruth false = f at *
      show Calls _ _ #[.agg #[.int .u8 0, .int .i64 0, .string ⟨#[]⟩]] w _
      go_enter Tryd.func69, Tryd.ntmps69
      go_wp2_with fail
      refine (C2.out _).mono ?_
      rintro e w1 ⟨rfl, k1⟩
      obtain ⟨k1c, k1f⟩ := bcell k1
      have k1z := Below.size k1
      try simp only [World.size_alloc, World.size_setCell] at k1z k1c k1f
      try have k1x : w.heap.size ≤ w1.heap.size := by omega
      try have k1y := Nat.lt_of_succ_le k1z
      try have k1x2 : w.heap.size < w1.heap.size := by omega
      try have k1w : w.heap.size + 1 < w1.heap.size := by omega
      go_wp2_with fail
      refine (M.out _).mono ?_
      rintro e w2 ⟨rfl, k2⟩
      obtain ⟨k2c, k2f⟩ := bcell k2
      have k2z := Below.size k2
      try simp only [World.size_alloc, World.size_setCell] at k2z k2c k2f
      try have k2x : w.heap.size ≤ w2.heap.size := by omega
      try have k2y := Nat.lt_of_succ_le k2z
      try have k2x2 : w.heap.size < w2.heap.size := by omega
      try have k2w : w.heap.size + 1 < w2.heap.size := by omega
      go_wp2_with fail
      exact bodyPost_ret (v := aggV f) (by simp [results, Tryd.results69, go_sem, k1c, k1w, k1x2, k2c, k2w, k2x2]) rfl ⟨by rw [E.out], (by repeat (first | with_reducible exact Kept.refl _ | with_reducible apply Kept.drew | with_reducible apply Kept.drewN | with_reducible apply Kept.alloc | (with_reducible refine Kept.setCellX ?_ ?_ _; focus (first | (simp; done) | (simp; omega))) | (with_reducible refine Kept.trans ?_ (by assumption))))⟩
    · subst e
      have E : Hid (vBool ⟨1, n, []⟩ = vTruth (decide (n ≠ 0))) := by
        show _ = _
        unfold vBool; rw [hc]; rfl
      have C2 : Hid (∀ w, Calls Tryd.prog 56 #[.agg #[.int .u8 1, .int .i64 n, .string ⟨#[]⟩]] w fun e w' => e = .returned (.int .i64 0) ∧ Kept w w') := C.out
      clear hc C
      by_cases z : n = 0
      · have E2 : Hid (vBool ⟨1, n, []⟩ = vTruth false) := by
          show _ = _
          rw [E.out, z]; rfl
        have z0 : (n != 0) = false := by simpa using z
        clear E z
        have E := E2
        clear E2
        have M := Lib.hid (fun w => rtruth_any false w)
        generalize vTruth false = f at *
        show Calls _ _ #[.agg #[.int .u8 1, .int .i64 n, .string ⟨#[]⟩]] w _
        go_enter Tryd.func69, Tryd.ntmps69
        go_wp2_with fail
        refine (C2.out _).mono ?_
        rintro e w1 ⟨rfl, k1⟩
        obtain ⟨k1c, k1f⟩ := bcell k1
        have k1z := Below.size k1
        try simp only [World.size_alloc, World.size_setCell] at k1z k1c k1f
        try have k1x : w.heap.size ≤ w1.heap.size := by omega
        try have k1y := Nat.lt_of_succ_le k1z
        try have k1x2 : w.heap.size < w1.heap.size := by omega
        try have k1w : w.heap.size + 1 < w1.heap.size := by omega
        go_wp2_with fail
        refine (M.out _).mono ?_
        rintro e w2 ⟨rfl, k2⟩
        obtain ⟨k2c, k2f⟩ := bcell k2
        have k2z := Below.size k2
        try simp only [World.size_alloc, World.size_setCell] at k2z k2c k2f
        try have k2x : w.heap.size ≤ w2.heap.size := by omega
        try have k2y := Nat.lt_of_succ_le k2z
        try have k2x2 : w.heap.size < w2.heap.size := by omega
        try have k2w : w.heap.size + 1 < w2.heap.size := by omega
        go_wp2_with fail
        exact bodyPost_ret (v := aggV f) (by simp [results, Tryd.results69, go_sem, k1c, k1w, k1x2, k2c, k2w, k2x2]) rfl ⟨by rw [E.out], (by repeat (first | with_reducible exact Kept.refl _ | with_reducible apply Kept.drew | with_reducible apply Kept.drewN | with_reducible apply Kept.alloc | (with_reducible refine Kept.setCellX ?_ ?_ _; focus (first | (simp; done) | (simp; omega))) | (with_reducible refine Kept.trans ?_ (by assumption))))⟩
      · have E2 : Hid (vBool ⟨1, n, []⟩ = vTruth true) := by
          show _ = _
          rw [E.out, decide_eq_true z]
        have z0 : (n != 0) = true := by simpa using z
        clear E z
        have E := E2
        clear E2
        have M := Lib.hid (fun w => rtruth_any true w)
        generalize vTruth true = f at *
        show Calls _ _ #[.agg #[.int .u8 1, .int .i64 n, .string ⟨#[]⟩]] w _
        go_enter Tryd.func69, Tryd.ntmps69
        go_wp2_with fail
        refine (C2.out _).mono ?_
        rintro e w1 ⟨rfl, k1⟩
        obtain ⟨k1c, k1f⟩ := bcell k1
        have k1z := Below.size k1
        try simp only [World.size_alloc, World.size_setCell] at k1z k1c k1f
        try have k1x : w.heap.size ≤ w1.heap.size := by omega
        try have k1y := Nat.lt_of_succ_le k1z
        try have k1x2 : w.heap.size < w1.heap.size := by omega
        try have k1w : w.heap.size + 1 < w1.heap.size := by omega
        go_wp2_with fail
        refine (M.out _).mono ?_
        rintro e w2 ⟨rfl, k2⟩
        obtain ⟨k2c, k2f⟩ := bcell k2
        have k2z := Below.size k2
        try simp only [World.size_alloc, World.size_setCell] at k2z k2c k2f
        try have k2x : w.heap.size ≤ w2.heap.size := by omega
        try have k2y := Nat.lt_of_succ_le k2z
        try have k2x2 : w.heap.size < w2.heap.size := by omega
        try have k2w : w.heap.size + 1 < w2.heap.size := by omega
        go_wp2_with fail
        exact bodyPost_ret (v := aggV f) (by simp [results, Tryd.results69, go_sem, k1c, k1w, k1x2, k2c, k2w, k2x2]) rfl ⟨by rw [E.out], (by repeat (first | with_reducible exact Kept.refl _ | with_reducible apply Kept.drew | with_reducible apply Kept.drewN | with_reducible apply Kept.alloc | (with_reducible refine Kept.setCellX ?_ ?_ _; focus (first | (simp; done) | (simp; omega))) | (with_reducible refine Kept.trans ?_ (by assumption))))⟩
    · have e : v = ⟨2, 0, []⟩ := e
      subst e
      have E : Hid (vBool ⟨2, 0, []⟩ = ⟨2, 0, []⟩) := by
        show _ = _
        unfold vBool; rw [hc]; rfl
      have C2 : Hid (∀ w, Calls Tryd.prog 56 #[.agg #[.int .u8 2, .int .i64 0, .string ⟨#[]⟩]] w fun e w' => e = .returned (.int .i64 0) ∧ Kept w w') := C.out
      clear hc C
      show Calls _ _ #[.agg #[.int .u8 2, .int .i64 0, .string ⟨#[]⟩]] w _
      go_enter Tryd.func69, Tryd.ntmps69
      go_wp2_with fail
      refine (C2.out _).mono ?_
      rintro e w1 ⟨rfl, k1⟩
      obtain ⟨k1c, k1f⟩ := bcell k1
      have k1z := Below.size k1
      try simp only [World.size_alloc, World.size_setCell] at k1z k1c k1f
      try have k1x : w.heap.size ≤ w1.heap.size := by omega
      try have k1y := Nat.lt_of_succ_le k1z
      try have k1x2 : w.heap.size < w1.heap.size := by omega
      try have k1w : w.heap.size + 1 < w1.heap.size := by omega
      go_wp2_with fail
      exact bodyPost_ret (v := aggV ⟨2, 0, []⟩) (by simp [results, Tryd.results69, go_sem, k1c, k1w, k1x2]) rfl ⟨by rw [E.out], (by repeat (first | with_reducible exact Kept.refl _ | with_reducible apply Kept.drew | with_reducible apply Kept.drewN | with_reducible apply Kept.alloc | (with_reducible refine Kept.setCellX ?_ ?_ _; focus (first | (simp; done) | (simp; omega))) | (with_reducible refine Kept.trans ?_ (by assumption))))⟩
    · have e : v = ⟨2, 1, []⟩ := e
      subst e
      have E : Hid (vBool ⟨2, 1, []⟩ = ⟨2, 1, []⟩) := by
        show _ = _
        unfold vBool; rw [hc]; rfl
      have C2 : Hid (∀ w, Calls Tryd.prog 56 #[.agg #[.int .u8 2, .int .i64 1, .string ⟨#[]⟩]] w fun e w' => e = .returned (.int .i64 0) ∧ Kept w w') := C.out
      clear hc C
      show Calls _ _ #[.agg #[.int .u8 2, .int .i64 1, .string ⟨#[]⟩]] w _
      go_enter Tryd.func69, Tryd.ntmps69
      go_wp2_with fail
      refine (C2.out _).mono ?_
      rintro e w1 ⟨rfl, k1⟩
      obtain ⟨k1c, k1f⟩ := bcell k1
      have k1z := Below.size k1
      try simp only [World.size_alloc, World.size_setCell] at k1z k1c k1f
      try have k1x : w.heap.size ≤ w1.heap.size := by omega
      try have k1y := Nat.lt_of_succ_le k1z
      try have k1x2 : w.heap.size < w1.heap.size := by omega
      try have k1w : w.heap.size + 1 < w1.heap.size := by omega
      go_wp2_with fail
      exact bodyPost_ret (v := aggV ⟨2, 1, []⟩) (by simp [results, Tryd.results69, go_sem, k1c, k1w, k1x2]) rfl ⟨by rw [E.out], (by repeat (first | with_reducible exact Kept.refl _ | with_reducible apply Kept.drew | with_reducible apply Kept.drewN | with_reducible apply Kept.alloc | (with_reducible refine Kept.setCellX ?_ ?_ _; focus (first | (simp; done) | (simp; omega))) | (with_reducible refine Kept.trans ?_ (by assumption))))⟩
    · subst e
      have E : Hid (vBool ⟨3, 0, t⟩ = vNamed t) := by
        show _ = _
        unfold vBool; rw [hc]; rfl
      have C2 : Hid (∀ w, Calls Tryd.prog 56 #[.agg #[.int .u8 3, .int .i64 0, .string ⟨t.toArray⟩]] w fun e w' => e = .returned (.int .i64 0) ∧ Kept w w') := C.out
      clear hc C
      have U := Lib.hid (fun w => rupper_any t w (by have : t.length ≤ 2000 := ht; omega))
      by_cases c : upper t = yesT
      · have E2 : Hid (vBool ⟨3, 0, t⟩ = vTruth true) := by
          show _ = _
          rw [E.out]; unfold vNamed; rw [if_pos c]
        rw [c] at U
        have U2 : Hid (∀ w, Calls Tryd.prog 33 #[.string ⟨t.toArray⟩] w fun e w' => e = .returned (.string ⟨#[84, 82, 85, 69]⟩) ∧ Kept w w') := U
        clear E U c
        have E := E2
        clear E2
        have M := Lib.hid (fun w => rtruth_any true w)
        generalize vTruth true = f at *
        show Calls _ _ #[.agg #[.int .u8 3, .int .i64 0, .string ⟨t.toArray⟩]] w _
        go_enter Tryd.func69, Tryd.ntmps69
        go_wp2_with fail
        refine (C2.out _).mono ?_
        rintro e w1 ⟨rfl, k1⟩
        obtain ⟨k1c, k1f⟩ := bcell k1
        have k1z := Below.size k1
        try simp only [World.size_alloc, World.size_setCell] at k1z k1c k1f
        try have k1x : w.heap.size ≤ w1.heap.size := by omega
        try have k1y := Nat.lt_of_succ_le k1z
        try have k1x2 : w.heap.size < w1.heap.size := by omega
        try have k1w : w.heap.size + 1 < w1.heap.size := by omega
        go_wp2_with fail
        refine (U2.out _).mono ?_
        rintro e w2 ⟨rfl, k2⟩
        obtain ⟨k2c, k2f⟩ := bcell k2
        have k2z := Below.size k2
        try simp only [World.size_alloc, World.size_setCell] at k2z k2c k2f
        try have k2x : w.heap.size ≤ w2.heap.size := by omega
        try have k2y := Nat.lt_of_succ_le k2z
        try have k2x2 : w.heap.size < w2.heap.size := by omega
        try have k2w : w.heap.size + 1 < w2.heap.size := by omega
        go_wp2_with fail
        refine (M.out _).mono ?_
        rintro e w3 ⟨rfl, k3⟩
        obtain ⟨k3c, k3f⟩ := bcell k3
        have k3z := Below.size k3
        try simp only [World.size_alloc, World.size_setCell] at k3z k3c k3f
        try have k3x : w.heap.size ≤ w3.heap.size := by omega
        try have k3y := Nat.lt_of_succ_le k3z
        try have k3x2 : w.heap.size < w3.heap.size := by omega
        try have k3w : w.heap.size + 1 < w3.heap.size := by omega
        go_wp2_with fail
        exact bodyPost_ret (v := aggV f) (by simp [results, Tryd.results69, go_sem, k1c, k1w, k1x2, k2c, k2w, k2x2, k3c, k3w, k3x2]) rfl ⟨by rw [E.out], (by repeat (first | with_reducible exact Kept.refl _ | with_reducible apply Kept.drew | with_reducible apply Kept.drewN | with_reducible apply Kept.alloc | (with_reducible refine Kept.setCellX ?_ ?_ _; focus (first | (simp; done) | (simp; omega))) | (with_reducible refine Kept.trans ?_ (by assumption))))⟩
      by_cases d : upper t = noT
      · have E2 : Hid (vBool ⟨3, 0, t⟩ = vTruth false) := by
          show _ = _
          rw [E.out]; unfold vNamed; rw [if_neg c, if_pos d]
        rw [d] at U
        have U2 : Hid (∀ w, Calls Tryd.prog 33 #[.string ⟨t.toArray⟩] w fun e w' => e = .returned (.string ⟨#[70, 65, 76, 83, 69]⟩) ∧ Kept w w') := U
        clear E U c d
        have E := E2
        clear E2
        have M := Lib.hid (fun w => rtruth_any false w)
        generalize vTruth false = f at *
        show Calls _ _ #[.agg #[.int .u8 3, .int .i64 0, .string ⟨t.toArray⟩]] w _
        go_enter Tryd.func69, Tryd.ntmps69
        go_wp2_with fail
        refine (C2.out _).mono ?_
        rintro e w1 ⟨rfl, k1⟩
        obtain ⟨k1c, k1f⟩ := bcell k1
        have k1z := Below.size k1
        try simp only [World.size_alloc, World.size_setCell] at k1z k1c k1f
        try have k1x : w.heap.size ≤ w1.heap.size := by omega
        try have k1y := Nat.lt_of_succ_le k1z
        try have k1x2 : w.heap.size < w1.heap.size := by omega
        try have k1w : w.heap.size + 1 < w1.heap.size := by omega
        go_wp2_with fail
        refine (U2.out _).mono ?_
        rintro e w2 ⟨rfl, k2⟩
        obtain ⟨k2c, k2f⟩ := bcell k2
        have k2z := Below.size k2
        try simp only [World.size_alloc, World.size_setCell] at k2z k2c k2f
        try have k2x : w.heap.size ≤ w2.heap.size := by omega
        try have k2y := Nat.lt_of_succ_le k2z
        try have k2x2 : w.heap.size < w2.heap.size := by omega
        try have k2w : w.heap.size + 1 < w2.heap.size := by omega
        go_wp2_with fail
        refine (M.out _).mono ?_
        rintro e w3 ⟨rfl, k3⟩
        obtain ⟨k3c, k3f⟩ := bcell k3
        have k3z := Below.size k3
        try simp only [World.size_alloc, World.size_setCell] at k3z k3c k3f
        try have k3x : w.heap.size ≤ w3.heap.size := by omega
        try have k3y := Nat.lt_of_succ_le k3z
        try have k3x2 : w.heap.size < w3.heap.size := by omega
        try have k3w : w.heap.size + 1 < w3.heap.size := by omega
        go_wp2_with fail
        exact bodyPost_ret (v := aggV f) (by simp [results, Tryd.results69, go_sem, k1c, k1w, k1x2, k2c, k2w, k2x2, k3c, k3w, k3x2]) rfl ⟨by rw [E.out], (by repeat (first | with_reducible exact Kept.refl _ | with_reducible apply Kept.drew | with_reducible apply Kept.drewN | with_reducible apply Kept.alloc | (with_reducible refine Kept.setCellX ?_ ?_ _; focus (first | (simp; done) | (simp; omega))) | (with_reducible refine Kept.trans ?_ (by assumption))))⟩
      · have E2 : Hid (vBool ⟨3, 0, t⟩ = vFail 2) := by
          show _ = _
          rw [E.out]; unfold vNamed; rw [if_neg c, if_neg d]
        have c1' : (upper t != [84, 82, 85, 69]) = true := by rw [bne_iff_ne]; exact c
        have d1' : (upper t != [70, 65, 76, 83, 69]) = true := by rw [bne_iff_ne]; exact d
        have c1 : (upper t == [84, 82, 85, 69]) = false := by rw [beq_eq_false_iff_ne]; exact c
        have d1 : (upper t == [70, 65, 76, 83, 69]) = false := by rw [beq_eq_false_iff_ne]; exact d
        clear E c d
        have E := E2
        clear E2
        generalize upper t = u at *
        have M := Lib.hid (fun w => rfail_any 2 w)
        generalize vFail 2 = f at *
        show Calls _ _ #[.agg #[.int .u8 3, .int .i64 0, .string ⟨t.toArray⟩]] w _
        go_enter Tryd.func69, Tryd.ntmps69
        go_wp2_with fail
        refine (C2.out _).mono ?_
        rintro e w1 ⟨rfl, k1⟩
        obtain ⟨k1c, k1f⟩ := bcell k1
        have k1z := Below.size k1
        try simp only [World.size_alloc, World.size_setCell] at k1z k1c k1f
        try have k1x : w.heap.size ≤ w1.heap.size := by omega
        try have k1y := Nat.lt_of_succ_le k1z
        try have k1x2 : w.heap.size < w1.heap.size := by omega
        try have k1w : w.heap.size + 1 < w1.heap.size := by omega
        go_wp2_with fail
        refine (U.out _).mono ?_
        rintro e w2 ⟨rfl, k2⟩
        obtain ⟨k2c, k2f⟩ := bcell k2
        have k2z := Below.size k2
        try simp only [World.size_alloc, World.size_setCell] at k2z k2c k2f
        try have k2x : w.heap.size ≤ w2.heap.size := by omega
        try have k2y := Nat.lt_of_succ_le k2z
        try have k2x2 : w.heap.size < w2.heap.size := by omega
        try have k2w : w.heap.size + 1 < w2.heap.size := by omega
        go_wp2_with fail
        refine (M.out _).mono ?_
        rintro e w3 ⟨rfl, k3⟩
        obtain ⟨k3c, k3f⟩ := bcell k3
        have k3z := Below.size k3
        try simp only [World.size_alloc, World.size_setCell] at k3z k3c k3f
        try have k3x : w.heap.size ≤ w3.heap.size := by omega
        try have k3y := Nat.lt_of_succ_le k3z
        try have k3x2 : w.heap.size < w3.heap.size := by omega
        try have k3w : w.heap.size + 1 < w3.heap.size := by omega
        go_wp2_with fail
        exact bodyPost_ret (v := aggV f) (by simp [results, Tryd.results69, go_sem, k1c, k1w, k1x2, k2c, k2w, k2x2, k3c, k3w, k3x2]) rfl ⟨by rw [E.out], (by repeat (first | with_reducible exact Kept.refl _ | with_reducible apply Kept.drew | with_reducible apply Kept.drewN | with_reducible apply Kept.alloc | (with_reducible refine Kept.setCellX ?_ ?_ _; focus (first | (simp; done) | (simp; omega))) | (with_reducible refine Kept.trans ?_ (by assumption))))⟩
    · subst e
      have E : Hid (vBool ⟨4, c, []⟩ = ⟨4, c, []⟩) := by
        show _ = _
        unfold vBool; rw [hc]; rfl
      have C2 : Hid (∀ w, Calls Tryd.prog 56 #[.agg #[.int .u8 4, .int .i64 c, .string ⟨#[]⟩]] w fun e w' => e = .returned (.int .i64 0) ∧ Kept w w') := C.out
      clear hc C
      show Calls _ _ #[.agg #[.int .u8 4, .int .i64 c, .string ⟨#[]⟩]] w _
      go_enter Tryd.func69, Tryd.ntmps69
      go_wp2_with fail
      refine (C2.out _).mono ?_
      rintro e w1 ⟨rfl, k1⟩
      obtain ⟨k1c, k1f⟩ := bcell k1
      have k1z := Below.size k1
      try simp only [World.size_alloc, World.size_setCell] at k1z k1c k1f
      try have k1x : w.heap.size ≤ w1.heap.size := by omega
      try have k1y := Nat.lt_of_succ_le k1z
      try have k1x2 : w.heap.size < w1.heap.size := by omega
      try have k1w : w.heap.size + 1 < w1.heap.size := by omega
      go_wp2_with fail
      exact bodyPost_ret (v := aggV ⟨4, c, []⟩) (by simp [results, Tryd.results69, go_sem, k1c, k1w, k1x2]) rfl ⟨by rw [E.out], (by repeat (first | with_reducible exact Kept.refl _ | with_reducible apply Kept.drew | with_reducible apply Kept.drewN | with_reducible apply Kept.alloc | (with_reducible refine Kept.setCellX ?_ ?_ _; focus (first | (simp; done) | (simp; omega))) | (with_reducible refine Kept.trans ?_ (by assumption))))⟩
  · have hc' : vOk v = false := by simpa using hc
    have E : Hid (vBool v = vFail 2) := by
      show _ = _
      unfold vBool; rw [if_pos hc']
    rw [chk_no hc'] at C
    have M := Lib.hid (fun w => rfail_any 2 w)
    generalize vFail 2 = f at *
    generalize vBool v = r at *
    obtain ⟨k, n, t⟩ := v
    clear hc hc'
    go_enter Tryd.func69, Tryd.ntmps69
    go_wp2_with fail
    refine (C.out _).mono ?_
    rintro e w1 ⟨rfl, k1⟩
    obtain ⟨k1c, k1f⟩ := bcell k1
    have k1z := Below.size k1
    try simp only [World.size_alloc, World.size_setCell] at k1z k1c k1f
    try have k1x : w.heap.size ≤ w1.heap.size := by omega
    try have k1y := Nat.lt_of_succ_le k1z
    try have k1x2 : w.heap.size < w1.heap.size := by omega
    try have k1w : w.heap.size + 1 < w1.heap.size := by omega
    go_wp2_with fail
    refine (M.out _).mono ?_
    rintro e w2 ⟨rfl, k2⟩
    obtain ⟨k2c, k2f⟩ := bcell k2
    have k2z := Below.size k2
    try simp only [World.size_alloc, World.size_setCell] at k2z k2c k2f
    try have k2x : w.heap.size ≤ w2.heap.size := by omega
    try have k2y := Nat.lt_of_succ_le k2z
    try have k2x2 : w.heap.size < w2.heap.size := by omega
    try have k2w : w.heap.size + 1 < w2.heap.size := by omega
    go_wp2_with fail
    exact bodyPost_ret (v := aggV f) (by simp [results, Tryd.results69, go_sem, k1c, k1w, k2c, k2w]) rfl ⟨by rw [E.out], (by repeat (first | with_reducible exact Kept.refl _ | with_reducible apply Kept.drew | with_reducible apply Kept.drewN | with_reducible apply Kept.alloc | (with_reducible refine Kept.setCellX ?_ ?_ _; focus (first | (simp; done) | (simp; omega))) | (with_reducible refine Kept.trans ?_ (by assumption))))⟩
end Go.Proofs.YtipkjpcedfokhaaDoor

namespace Go.Proofs.YtipkjpcedfokhaaDoor
set_option linter.unusedVariables false
set_option linter.unusedSimpArgs false
open Go.ChangeShapes Go.WideShapes Go.RowKit Lv

/-- the names lie where the program's text lays them -/
def Wd (w : World) : Prop := ∀ i : Nat, i < 8 → w.cell? ⟨0, i, none⟩ = some (.string ⟨(name i).toArray⟩)
theorem Wd.kept {w w' : World} (h : Wd w) (k : Kept w w') : Wd w' := fun i hi => (k.cell (p := ⟨0, i, none⟩) (World.block_lt_of_cell? w _ (h i hi))).trans (h i hi)
theorem str_of_trod {H : Type} {enc : TypeId × Value → H} {P : Program} {w : World} {base : Nat} {sp : Nat → Bool} {held : Bool} {fuel : Nat} {t : TypeId} {c : Value} {y : DataW H × List MemPlace}
    (ht : P.underlying t = some .string) (h : DataW.trod enc P w base sp held fuel t [c] = some y) : ∃ s : ByteArray, c = .string s ∧ y = (.lit (.string s.data.toList), []) := by
  cases fuel with
  | zero => simp [DataW.trod] at h
  | succ fuel =>
    cases c <;> simp [DataW.trod, ht] at h
    rename_i s
    exact ⟨s, rfl, h.2.symm⟩
theorem words_named : Tryd.prog.globalNamed "louvre/val.words" = some 0 := by kernel_rfl
theorem words_type : (Tryd.prog.globals[0]?).map (·.type) = some 92 := by kernel_rfl
theorem words_cells : Tryd.prog.cellsOf 92 = 8 := by kernel_rfl
theorem str_cells : Tryd.prog.cellsOf 9 = 1 := by kernel_rfl
theorem words_plain : ([("louvre/val.words", Rows.laid_louvre_val_words)] : List (String × DataW Unit)).all (fun x => x.2.handleName?.isNone) = true := by kernel_rfl
theorem str_list {s : ByteArray} {l : List UInt8} (h : s.data.toList = l) : s = ⟨l.toArray⟩ := by subst h; rfl

theorem words_of {W : World} (h : laidMetH Tryd.prog [("louvre/val.words", Rows.laid_louvre_val_words)] W) : Wd W := by
  rw [MakeChecks.laidMetH_plain _ _ _ words_plain] at h
  obtain ⟨ps, ⟨g, t, cs, fuel, p, q, hg, ht, hvar, hd, _, _⟩, _⟩ := h
  obtain rfl := Option.some.inj (words_named.symm.trans hg)
  obtain rfl := Option.some.inj (words_type.symm.trans ht)
  obtain ⟨l⟩ := cs
  cases fuel with
  | zero => simp [DataW.trod] at hd
  | succ fuel =>
    simp only [DataW.trod, Tryd.underlying92, words_cells, str_cells] at hd
    split at hd
    · rename_i hl
      obtain ⟨c0, c1, c2, c3, c4, c5, c6, c7, rfl⟩ : ∃ c0 c1 c2 c3 c4 c5 c6 c7, l = [c0, c1, c2, c3, c4, c5, c6, c7] := by
        match l, hl with
        | [a, b, c, d, e, f, g, h], _ => exact ⟨a, b, c, d, e, f, g, h, rfl⟩
      have e : List.range 8 = [0, 1, 2, 3, 4, 5, 6, 7] := rfl
      rw [e] at hd
      simp only [Option.map_eq_some_iff, List.mapM_cons, List.mapM_nil, Option.bind_eq_bind, Option.bind_eq_some_iff, Option.pure_def, Option.some.injEq] at hd
      obtain ⟨xs, ⟨y0, h0, _, ⟨y1, h1, _, ⟨y2, h2, _, ⟨y3, h3, _, ⟨y4, h4, _, ⟨y5, h5, _, ⟨y6, h6, _, ⟨y7, h7, _, rfl, rfl⟩, rfl⟩, rfl⟩, rfl⟩, rfl⟩, rfl⟩, rfl⟩, rfl⟩, hx⟩ := hd
      obtain ⟨s0, rfl, rfl⟩ := str_of_trod Tryd.underlying9 h0
      obtain ⟨s1, rfl, rfl⟩ := str_of_trod Tryd.underlying9 h1
      obtain ⟨s2, rfl, rfl⟩ := str_of_trod Tryd.underlying9 h2
      obtain ⟨s3, rfl, rfl⟩ := str_of_trod Tryd.underlying9 h3
      obtain ⟨s4, rfl, rfl⟩ := str_of_trod Tryd.underlying9 h4
      obtain ⟨s5, rfl, rfl⟩ := str_of_trod Tryd.underlying9 h5
      obtain ⟨s6, rfl, rfl⟩ := str_of_trod Tryd.underlying9 h6
      obtain ⟨s7, rfl, rfl⟩ := str_of_trod Tryd.underlying9 h7
      simp only [Rows.laid_louvre_val_words, List.map_cons, List.map_nil, Prod.mk.injEq, DataW.agg.injEq, List.cons.injEq, DataW.lit.injEq, Lit.string.injEq, and_true] at hx
      obtain ⟨⟨e0, e1, e2, e3, e4, e5, e6, e7⟩, _⟩ := hx
      intro i hi
      have hc := World.var?_cell hg hvar i
      rw [hc]
      match i, hi with
      | 0, _ => exact congrArg (fun s => some (Value.string s)) (str_list e0)
      | 1, _ => exact congrArg (fun s => some (Value.string s)) (str_list e1)
      | 2, _ => exact congrArg (fun s => some (Value.string s)) (str_list e2)
      | 3, _ => exact congrArg (fun s => some (Value.string s)) (str_list e3)
      | 4, _ => exact congrArg (fun s => some (Value.string s)) (str_list e4)
      | 5, _ => exact congrArg (fun s => some (Value.string s)) (str_list e5)
      | 6, _ => exact congrArg (fun s => some (Value.string s)) (str_list e6)
      | 7, _ => exact congrArg (fun s => some (Value.string s)) (str_list e7)
    · cases hd
/-- out of a longer list -/
theorem words_laid {W : World} {l : List (String × DataW Unit)} (h : laidMetH Tryd.prog l W) (hl : l.filter (fun x => x.1 == "louvre/val.words") = [("louvre/val.words", Rows.laid_louvre_val_words)]) : Wd W :=
  words_of (by rw [← hl]; exact laidMetH.filter _ h)
end Go.Proofs.YtipkjpcedfokhaaDoor

namespace Go.Proofs.YtipkjpcedfokhaaDoor
set_option linter.unusedVariables false
set_option linter.unusedSimpArgs false
open Go.RowKit Lv

theorem show_denied : vShow ⟨4, 7, []⟩ = name 7 := rfl
theorem show_error {n : Int} (h : 1 ≤ n ∧ n ≤ 6) : vShow ⟨4, n, []⟩ = name n := by
  unfold vShow
  rw [if_neg (by simp; omega), ok4, decide_eq_true (by exact ⟨rfl, h⟩)]; rfl
theorem show_bad {v : Vl} (h : vOk v = false) (g : ¬ (v.k = 4 ∧ v.n = 7 ∧ v.t = [])) : vShow v = [] := by unfold vShow; rw [if_neg g, if_pos h]
theorem show_text {v : Vl} (h : vOk v = true) (g : v.k ≠ 4) : vShow v = (vTxt v).t := by
  unfold vShow
  rw [if_neg (fun x => g x.1), if_neg (by rw [h]; simp), if_neg g]
theorem ret_bl {l m : List UInt8} (h : l = m) : Ending.returned (.string ⟨l.toArray⟩) = .returned (.string ⟨m.toArray⟩) := by rw [h]
theorem Wd.at_ {w : World} (h : Wd w) {n : Int} (h0 : 0 ≤ n) (h7 : n ≤ 7) : w.cell? ⟨0, n.toNat, none⟩ = some (.string ⟨(name n).toArray⟩) := by
  have := h n.toNat (by omega)
  rwa [show ((n.toNat : Nat) : Int) = n by omega] at this

set_option maxHeartbeats 2000000 in
set_option maxRecDepth 100000 in
theorem show4_ok (n : Int) (w : World) (wd : Wd w) (h1 : 1 ≤ n) (h2 : n ≤ 6) : Calls Tryd.prog 63 #[.agg #[.int .u8 4, .int .i64 n, .string ⟨#[]⟩]] w fun e w' => e = .returned (.string ⟨(name n).toArray⟩) ∧ Kept w w' := by
  have F : Hid (∀ w, Calls Tryd.prog 61 #[.int .i64 7] w fun e w' => e = .returned (.agg #[.int .u8 4, .int .i64 7, .string ⟨#[]⟩]) ∧ Kept w w') := fun w => vfail_any 7 w
  have C : Hid (∀ w, Calls Tryd.prog 51 #[.agg #[.int .u8 4, .int .i64 n, .string ⟨#[]⟩]] w fun e w' => e = .returned (.int .i64 0) ∧ Kept w w') := fun w => by
    have := vcheck5_any ⟨4, n, []⟩ w ⟨by simp only; omega, by simp only; omega⟩ (by simp)
    rwa [chk_yes (by rw [ok4, decide_eq_true (by exact ⟨rfl, h1, h2⟩)])] at this
  have n7 : (n == 7) = false := by rw [beq_eq_false_iff_ne]; omega
  have bx : Box (w.alloc (.cells #[.int .u8 4, .int .i64 n, .string ⟨#[]⟩] 35)) w.heap.size 35 #[.int .u8 4, .int .i64 n, .string ⟨#[]⟩] := Box.new w _ _
  have kk : Kept w (w.alloc (.cells #[.int .u8 4, .int .i64 n, .string ⟨#[]⟩] 35)) := (by repeat (first | with_reducible exact Kept.refl _ | with_reducible apply Kept.drew | with_reducible apply Kept.drewN | with_reducible apply Kept.alloc | (with_reducible refine Kept.setCellX ?_ ?_ _; focus (first | (simp; done) | (simp; omega))) | (with_reducible refine Kept.trans ?_ (by assumption))))
  have BX := Lib.hid bx
  have WD := Lib.hid wd
  clear bx wd
  go_enter Tryd.func63, Tryd.ntmps63
  go_wp2_with fail
  generalize (w.alloc (.cells #[.int .u8 4, .int .i64 n, .string ⟨#[]⟩] 35)) = wa at *
  have A0 := cell_regrown (BX.out.cell 0); have A1 := cell_regrown (BX.out.cell 1); have A2 := cell_regrown (BX.out.cell 2)
  refine wp_region_quiet_below (w := wa) (by kernel_rfl) (by kernel_rfl) ?_
  repeat (quiet_step (first | with_reducible exact Calls.regrown_of (F.out _) | with_reducible exact Calls.regrown_of (C.out _)))
  refine wpQuiet_nil ?_
  intro _ hw'; obtain ⟨⟨dq, osq⟩, hw''⟩ := hw'; subst hw''
  have kq : Kept wa (Go.Sort.grow (redrawn wa dq) osq) := below_regrown wa dq osq
  generalize Go.Sort.grow (redrawn wa dq) osq = waq at *
  have kk := kk.trans kq
  have bq := BX.out.kept kq
  have x1 := bq.cell 1
  have y1 := (WD.out.kept kk).at_ (n := n) (by omega) (by omega)
  clear A0 A1 A2 bq
  go_wp2_with fail
  go_ret
  exact ⟨rfl, kk⟩
end Go.Proofs.YtipkjpcedfokhaaDoor

namespace Go.Proofs.YtipkjpcedfokhaaDoor
set_option linter.unusedVariables false
set_option linter.unusedSimpArgs false
open Go.RowKit Lv

theorem number_v (n : Int) (w : World) : Calls Tryd.prog 72 #[.int .i64 n] w fun e w' => e = .returned (.agg #[.int .u8 1, .int .i64 n, .string ⟨#[]⟩]) ∧ Kept w w' := by
  go_enter Tryd.func72, Tryd.ntmps72
  go_wp2_with fail
  exact bodyPost_ret (v := .agg #[.int .u8 1, .int .i64 n, .string ⟨#[]⟩]) (by simp [results, Tryd.results72, go_sem]) rfl ⟨rfl, (by repeat (first | with_reducible exact Kept.refl _ | with_reducible apply Kept.drew | with_reducible apply Kept.drewN | with_reducible apply Kept.alloc | (with_reducible refine Kept.setCellX ?_ ?_ _; focus (first | (simp; done) | (simp; omega))) | (with_reducible refine Kept.trans ?_ (by assumption))))⟩
theorem text_v (s : ByteArray) (w : World) : Calls Tryd.prog 71 #[.string s] w fun e w' => e = .returned (.agg #[.int .u8 3, .int .i64 0, .string s]) ∧ Kept w w' := by
  go_enter Tryd.func71, Tryd.ntmps71
  go_wp2_with fail
  exact bodyPost_ret (v := .agg #[.int .u8 3, .int .i64 0, .string s]) (by simp [results, Tryd.results71, go_sem]) rfl ⟨rfl, (by repeat (first | with_reducible exact Kept.refl _ | with_reducible apply Kept.drew | with_reducible apply Kept.drewN | with_reducible apply Kept.alloc | (with_reducible refine Kept.setCellX ?_ ?_ _; focus (first | (simp; done) | (simp; omega))) | (with_reducible refine Kept.trans ?_ (by assumption))))⟩
theorem fails_v (n : Int) (w : World) : Calls Tryd.prog 70 #[.int .i64 n] w fun e w' => e = .returned (.agg #[.int .u8 4, .int .i64 n, .string ⟨#[]⟩]) ∧ Kept w w' := by
  go_enter Tryd.func70, Tryd.ntmps70
  go_wp2_with fail
  exact bodyPost_ret (v := .agg #[.int .u8 4, .int .i64 n, .string ⟨#[]⟩]) (by simp [results, Tryd.results70, go_sem]) rfl ⟨rfl, (by repeat (first | with_reducible exact Kept.refl _ | with_reducible apply Kept.drew | with_reducible apply Kept.drewN | with_reducible apply Kept.alloc | (with_reducible refine Kept.setCellX ?_ ?_ _; focus (first | (simp; done) | (simp; omega))) | (with_reducible refine Kept.trans ?_ (by assumption))))⟩
theorem long_v (k : Nat) (n : Int) (t : List UInt8) (w : World) (ht : t.length ≤ 9223372036854775807) : Calls Tryd.prog 39 #[.agg #[.int .u8 k, .int .i64 n, .string ⟨t.toArray⟩]] w fun e w' => e = .returned (.bool (decide (2000 < t.length))) ∧ Kept w w' := by
  have Z := ba_size
  by_cases c : 2000 < t.length
  · have E : Hid (decide (2000 < t.length) = true) := decide_eq_true c
    go_enter Tryd.func39, Tryd.ntmps39
    go_wp2_with fail
    go_ret
    exact ⟨ret_bool ((decide_eq_true (by omega)).trans E.out.symm), (by repeat (first | with_reducible exact Kept.refl _ | with_reducible apply Kept.drew | with_reducible apply Kept.drewN | with_reducible apply Kept.alloc | (with_reducible refine Kept.setCellX ?_ ?_ _; focus (first | (simp; done) | (simp; omega))) | (with_reducible refine Kept.trans ?_ (by assumption))))⟩
  · have E : Hid (decide (2000 < t.length) = false) := decide_eq_false c
    go_enter Tryd.func39, Tryd.ntmps39
    go_wp2_with fail
    go_ret
    exact ⟨ret_bool ((decide_eq_false (by omega)).trans E.out.symm), (by repeat (first | with_reducible exact Kept.refl _ | with_reducible apply Kept.drew | with_reducible apply Kept.drewN | with_reducible apply Kept.alloc | (with_reducible refine Kept.setCellX ?_ ?_ _; focus (first | (simp; done) | (simp; omega))) | (with_reducible refine Kept.trans ?_ (by assumption))))⟩
theorem num_25000 : vNum ⟨3, 0, [50, 46, 53]⟩ = ⟨1, 25000, []⟩ := by rfl

set_option maxHeartbeats 1000000 in
theorem known5_any (w : World) (m : Int) (hm : Mx w m) (wd : Wd w) : Calls Tryd.prog 40 #[] w fun e w' => e = .returned (.bool true) ∧ Kept w w' := by
  have N1 := Lib.hid (fun w => number_v 10000 w)
  have T1 := Lib.hid (fun w => text_v ⟨#[97]⟩ w)
  have C1 : Hid (∀ w, Calls Tryd.prog 41 #[.agg #[.int .u8 1, .int .i64 10000, .string ⟨#[]⟩], .agg #[.int .u8 3, .int .i64 0, .string ⟨#[97]⟩]] w fun e w' => e = .returned (.tuple #[.int .i64 (-1), .int .i64 0]) ∧ Kept w w') := fun w => by
    have h := vcompare_any ⟨1, 10000, []⟩ ⟨3, 0, [97]⟩ w ⟨by simp only; omega, by simp only; omega⟩ ⟨by simp only; omega, by simp only; omega⟩ (by decide) (by decide)
    rw [show vCmp ⟨1, 10000, []⟩ ⟨3, 0, [97]⟩ = (-1, 0) from by decide] at h
    exact h
  have T2 := Lib.hid (fun w => text_v ⟨#[50, 46, 53]⟩ w)
  have U2 : Hid (∀ w, Mx w m → Calls Tryd.prog 65 #[.agg #[.int .u8 3, .int .i64 0, .string ⟨#[50, 46, 53]⟩]] w fun e w' => e = .returned (.agg #[.int .u8 1, .int .i64 25000, .string ⟨#[]⟩]) ∧ Kept w w') := fun w h => by
    have h := tonum_any ⟨3, 0, [50, 46, 53]⟩ w m h ⟨by simp only; omega, by simp only; omega⟩ (by decide)
    rw [num_25000] at h
    exact h
  have N2 := Lib.hid (fun w => number_v 25000 w)
  have F1 := Lib.hid (fun w => fails_v 1 w)
  have S1 : Hid (∀ w, Wd w → Calls Tryd.prog 63 #[.agg #[.int .u8 4, .int .i64 1, .string ⟨#[]⟩]] w fun e w' => e = .returned (.string ⟨#[35, 68, 73, 86, 47, 48, 33]⟩) ∧ Kept w w') := fun w h => show4_ok 1 w h (by omega) (by omega)
  have HM := Lib.hid hm
  have WD := Lib.hid wd
  clear hm wd
  have kk : Kept w w := Kept.refl w
  go_enter Tryd.func40, Tryd.ntmps40
  go_wp2_with fail
  refine (N1.out _).mono ?_
  rintro e w' ⟨rfl, k1⟩
  go_wp2_with fail
  refine (T1.out _).mono ?_
  rintro e w' ⟨rfl, k2⟩
  go_wp2_with fail
  refine (C1.out _).mono ?_
  rintro e w' ⟨rfl, k3⟩
  go_wp2_with fail
  refine (T2.out _).mono ?_
  rintro e w' ⟨rfl, k4⟩
  have kk := ((k1.trans k2).trans k3).trans k4
  have mm := Lib.hid (HM.out.kept kk)
  go_wp2_with fail
  refine (U2.out _ mm.out).mono ?_
  rintro e w5 ⟨rfl, k5⟩
  go_wp2_with fail
  refine (N2.out _).mono ?_
  rintro e w' ⟨rfl, k6⟩
  go_wp2_with fail
  refine (F1.out _).mono ?_
  rintro e w' ⟨rfl, k7⟩
  have kk2 := ((kk.trans k5).trans k6).trans k7
  have ww := Lib.hid (WD.out.kept kk2)
  go_wp2_with fail
  refine (S1.out _ ww.out).mono ?_
  rintro e w8 ⟨rfl, k8⟩
  go_wp2_with fail
  go_ret
  exact ⟨rfl, kk2.trans k8⟩
end Go.Proofs.YtipkjpcedfokhaaDoor

namespace Go.Proofs.YtipkjpcedfokhaaDoor
set_option linter.unusedVariables false
set_option linter.unusedSimpArgs false
open Go.ChangeShapes Go.WideShapes Go.RowKit Go.Joins Lv

theorem val_cells : Tryd.prog.cellsOf 35 = 3 := by kernel_rfl
set_option maxRecDepth 100000 in
theorem open_val {H : Type} {enc : TypeId × Value → H} {W : World} {r : Reach} {b0 b : Nat} {sp : Nat → Bool} {held : Bool} {v : Value} {d : DataW H} {p : List MemPlace}
    (hv : Value.okWide Tryd.prog W r b0 35 v) (h : DataW.Trod enc Tryd.prog W b sp held 35 v d p) :
    ∃ (k : Nat) (n : Int) (l : List UInt8), v = aggV ⟨k, n, l⟩ ∧ k ≤ 255 ∧ i64 n ∧ l.length ≤ maxLen ∧ p = [] ∧ ∀ (W' : World) (b' : Nat) (sp' : Nat → Bool) (held' : Bool), DataW.Trod enc Tryd.prog W' b' sp' held' 35 (aggV ⟨k, n, l⟩) d [] := by
  obtain ⟨c0, c1, c2, y0, y1, y2, m, rfl, rfl, rfl, hy0, hy1, hy2⟩ := open_agg3 Tryd.underlying35 (by kernel_rfl) val_cells hv h
  obtain ⟨x, e0, rfl, wx⟩ := DataW.trod_int Tryd.underlying5 hy0
  obtain ⟨y, e1, rfl, wy⟩ := DataW.trod_int Tryd.underlying2 hy1
  obtain ⟨s, e2, rfl, ws⟩ := DataW.trod_string Tryd.underlying9 hy2
  simp at e0 e1 e2
  subst e0 e1 e2
  have rx : 0 ≤ x ∧ x ≤ 255 := by
    unfold Lit.wf at wx
    rw [Bool.and_eq_true, decide_eq_true_eq, decide_eq_true_eq] at wx
    exact wx
  have ry : i64 y := by
    unfold Lit.wf at wy
    rw [Bool.and_eq_true, decide_eq_true_eq, decide_eq_true_eq] at wy
    exact wy
  obtain ⟨k, rfl⟩ : ∃ k : Nat, x = k := ⟨x.toNat, by omega⟩
  refine ⟨k, y, s.data.toList, rfl, by omega, ry, ws, rfl, fun W' b' sp' held' => ?_⟩
  exact shut_agg3 (y0 := (.lit (.int .u8 k), [])) (y1 := (.lit (.int .i64 y), [])) (y2 := (.lit (.string s.data.toList), [])) Tryd.underlying35 (by kernel_rfl) val_cells
    ⟨1, by simp [DataW.trod, Tryd.underlying5, wx]⟩ ⟨1, by simp [DataW.trod, Tryd.underlying2, wy]⟩ ⟨1, by simp [DataW.trod, Tryd.underlying9, ws]⟩
end Go.Proofs.YtipkjpcedfokhaaDoor
