/- The law FtextFinds, walked (printed by wip/mklaw13.py). -/
import Derived.Test.YtbpkfnoenkoabaaDoorYaMixAT
namespace Go.Proofs.YtbpkfnoenkoabaaDoor
set_option linter.unusedVariables false
set_option linter.unusedSimpArgs false
open Go.RowKit Lv
set_option maxRecDepth 100000
theorem tmod_rg (a m : Int) (h : 0 < m) : -m < Int.tmod a m ∧ Int.tmod a m < m := ⟨Int.lt_tmod_of_pos a h, Int.tmod_lt_of_pos a h⟩
theorem of14_eq {x : Vl} (fn : Nat) (g : Nat) (l : List Vl) (w : World) (mx : Int) (HM : Mx w mx) (hr : w.heap[g]? = some (rowObj l)) (hs : ∀ v ∈ l, Small v) (hl : l.length ≤ 100) (hx : (vCall14 fn l).1 = x) :
    Calls Tryd.prog 7 #[.int .u8 fn, .slice (some ⟨g, 0, none⟩) l.length l.length] w fun e w' => e = .returned (aggV x) ∧ Kept w w' := by
  have h := of14_any fn (some ⟨g, 0, none⟩) l.length l w mx HM (rowObj_row hr) hs (by omega) (Nat.le_refl _)
  rwa [hx] at h
theorem small_T {s : List UInt8} (h : Okay s) : Small (⟨3, 0, s⟩ : Vl) := ⟨⟨by show (-9223372036854775808 : Int) ≤ 0; omega, by show (0 : Int) ≤ 9223372036854775807; omega⟩, by have := h.1; show s.length ≤ 2000; omega⟩
theorem small_num {n : Int} (h1 : -9223372036854775808 ≤ n) (h2 : n ≤ 9223372036854775807) : Small (⟨1, n, []⟩ : Vl) := ⟨⟨h1, h2⟩, by show ([] : List UInt8).length ≤ 2000; decide⟩
theorem smalls1 {a : Vl} (ha : Small a) : ∀ v ∈ [a], Small v := fun v hv => by rw [List.mem_singleton] at hv; subst hv; exact ha
theorem smalls2 {a b : Vl} (ha : Small a) (hb : Small b) : ∀ v ∈ [a, b], Small v := fun v hv => by
  rcases List.mem_cons.1 hv with rfl | h
  · exact ha
  · exact smalls1 hb v h
theorem smalls3 {a b c : Vl} (ha : Small a) (hb : Small b) (hc : Small c) : ∀ v ∈ [a, b, c], Small v := fun v hv => by
  rcases List.mem_cons.1 hv with rfl | h
  · exact ha
  · exact smalls2 hb hc v h
theorem okay_plain (s : List UInt8) (m : Nat) (hm : m ≤ 256) : Okay ((s.take m).map plainC) ∧ ((s.take m).map plainC).length ≤ m := by
  have hl : ((s.take m).map plainC).length ≤ m := by rw [List.length_map, List.length_take]; omega
  refine ⟨⟨by omega, ?_⟩, hl⟩; unfold plain; rw [List.all_eq_true]; intro c hc; obtain ⟨x, _, rfl⟩ := List.mem_map.1 hc; exact plainC_ok x
def abC (c : UInt8) : UInt8 := UInt8.ofNat (97 + c.toNat % 2)
theorem abC_nat (c : UInt8) : (abC c).toNat = 97 + c.toNat % 2 := by
  have h : c.toNat % 2 < 2 := Nat.mod_lt _ (by decide); show (97 + c.toNat % 2) % 256 = _
  omega
theorem abC_ok (c : UInt8) : okB (abC c) = true := by
  have h : c.toNat % 2 < 2 := Nat.mod_lt _ (by decide); have e := abC_nat c; unfold okB
  simp only [decide_eq_true_eq, Bool.and_eq_true]
  omega
theorem ab_step {s : List UInt8} {k : Nat} {c : UInt8} (h : s[k]? = some c) : (s.take (k + 1)).map abC = (s.take k).map abC ++ [abC c] := by
  have hk : k < s.length := (List.getElem?_eq_some_iff.1 h).1; rw [List.take_succ_eq_append_getElem hk, List.map_append]; rw [List.getElem?_eq_getElem hk] at h; rw [Option.some.inj h]; rfl
theorem ab_all {s : List UInt8} {m k : Nat} (h : ¬ (k < s.length ∧ k < m)) (h1 : k ≤ s.length) (h2 : k ≤ m) : (s.take m).map abC = (s.take k).map abC := by
  by_cases c : k = m
  · rw [c]
  · have e : k = s.length := by omega
    rw [List.take_of_length_le (by omega), List.take_of_length_le (by omega)]
theorem okay_ab (s : List UInt8) (m : Nat) (hm : m ≤ 256) : Okay ((s.take m).map abC) ∧ ((s.take m).map abC).length ≤ m := by
  have hl : ((s.take m).map abC).length ≤ m := by rw [List.length_map, List.length_take]; omega
  refine ⟨⟨by omega, ?_⟩, hl⟩; unfold plain; rw [List.all_eq_true]; intro c hc; obtain ⟨x, _, rfl⟩ := List.mem_map.1 hc; exact abC_ok x
theorem xabC {a : Act} {w : World} {o : Oper} {T2 : TypeId} {x y : Operand} (ho : o.op = .binOp .add 5 x y T2) {c : UInt8} (hx : a.eval x = .int .u8 97) (hy : a.eval y = .int .u8 ((c.toNat % 2 : Nat) : Int)) : (execOp a.eval o).run Tryd.prog w = .ok (.value (.int .u8 ((abC c).toNat : Int))) w := by
  have h : c.toNat % 2 < 2 := Nat.mod_lt _ (by decide)
  have e : IntKind.u8.wrap ((97 : Int) + ((c.toNat % 2 : Nat) : Int)) = ((abC c).toNat : Int) := by
    rw [abC_nat]; unfold IntKind.wrap
    simp [IntKind.bits, IntKind.signed]
    omega
  unfold execOp; rw [ho]
  simp only [hx, hy]
  go_simp
  try exact e
def cutS (A : Option Addr) (lo cap : Nat) : Option Addr := if cap = lo then A else A.map (·.add lo)
theorem xsliceB {a : Act} {w : World} {o : Oper} {x y z : Operand} (ho : o.op = .slice 30 x (some y) (some z) none) {A : Option Addr} {n cap lo hi : Nat} (hx : a.eval x = .slice A n cap) (hy : a.eval y = .int .i64 lo) (hz : a.eval z = .int .i64 hi) (h1 : lo ≤ hi) (h2 : hi ≤ cap) : (execOp a.eval o).run Tryd.prog w = .ok (.value (.slice (cutS A lo cap) (hi - lo) (cap - lo))) w := by
  have hr := run_underlying (w := w) Tryd.underlying30; have hs : (sizeOf 5).run Tryd.prog w = .ok 1 w := by kernel_rfl
  have c0 : (0 : Int) ≤ (lo : Int) ∧ (lo : Int) ≤ (hi : Int) := by omega
  have c1 : (0 : Int) ≤ (hi : Int) ∧ (hi : Int) ≤ (cap : Int) := by omega
  unfold execOp; rw [ho]
  simp only [hx, hy, hz, Option.map_some, Option.map_none, Instr.sliceAt, Instr.slice, Instr.sliceBounds, Instr.sliceBound, asIntOf, Sem.run_bind, Sem.run_pure, hr, hs, Result.andThen_ok, if_true, if_pos c0, if_pos c1, Int.toNat_natCast, Nat.mul_one, cutS]
theorem conv_part {w : World} {base n cap lo hi : Nat} {A : Option Addr} {l : List UInt8} (h : OwnB w base (.slice A n cap) l) (h1 : lo ≤ hi) (h2 : hi ≤ l.length) : (convert 30 9 (.slice (cutS A lo cap) (hi - lo) (cap - lo))).run Tryd.prog w = .ok (.string ⟨((l.take hi).drop lo).toArray⟩) w := by
  rcases h.2 with ⟨e, h0⟩ | ⟨g, cap', cur, e, _, hh, h4, h5, h6, h7⟩
  · cases e
    have : l = [] := List.eq_nil_of_length_eq_zero h0; subst this; have e1 : lo = 0 := by simp at h2; omega
    have e2 : hi = 0 := by simpa using h2
    subst e1 e2; exact run_convert_bytes_nil w 30 5 Tryd.underlying30 Tryd.underlying5 0 0 9 Tryd.underlying9
  · cases e
    have hcells := World.ownsRow.cells h (g := g) rfl; have ll : ((l.take hi).drop lo).length = hi - lo := by rw [List.length_drop, List.length_take]; omega
    have key : ∀ off, (∀ i, i < hi - lo → w.cell? ⟨g, off + i, none⟩ = some (.int .u8 ((((l.take hi).drop lo).map fun b => (b.toNat : Int)).getD i 0))) → (convert 30 9 (.slice (some ⟨g, off, none⟩) (hi - lo) (cap - lo))).run Tryd.prog w = .ok (.string ⟨((l.take hi).drop lo).toArray⟩) w := fun off hc => by
      have := run_convert_bytes_arg (P := Tryd.prog) w 30 5 Tryd.underlying30 Tryd.underlying5 g off (hi - lo) (cap - lo) (((l.take hi).drop lo).map fun b => (b.toNat : Int)) (by rw [List.length_map, ll]) hc 9 Tryd.underlying9; rw [this, strOfNums_list]
    unfold cutS
    split
    · exact key 0 (fun i hi' => absurd hi' (by omega))
    · show (convert 30 9 (.slice (some ((⟨g, 0, none⟩ : Addr).add lo)) (hi - lo) (cap - lo))).run Tryd.prog w = _
      rw [add_none]; refine key (0 + lo) (fun i hi' => ?_)
      have hc := hcells (lo + i) (.int .u8 (l.getD (lo + i) 0).toNat) (by
        have : lo + i < l.length := by omega
        simp [this])
      rw [Go.WideShapes.add_plain] at hc; rw [show 0 + lo + i = 0 + (lo + i) by omega, hc]; have : lo + i < l.length := by omega
      have : lo + i < hi := by omega
      simp [List.getD, List.getElem?_drop, List.getElem?_take, *]
theorem row_cap {w : World} {base c : Nat} {A : Option Addr} {l : List UInt8} (h : w.ownsRow base 5 1 (.slice A (l.map byteV).length c) (l.map byteV).length (l.map byteV)) : l.length ≤ c := by
  have := (RowC.of_own h).2.1
  rwa [List.length_map] at this
theorem least_up {s t : List UInt8} {k j : Nat} (h : LeastTo s t k 0) (hj : k ≤ j) : LeastTo s t j 0 := by
  rcases h with ⟨_, a⟩ | ⟨b, _⟩
  · exact Or.inl ⟨rfl, fun q h1 h2 => a q (by omega) h2⟩
  · omega
theorem fin_none {x y : List UInt8} {f z : Int} {first : Nat} (hz : ¬ (f ≤ z ∧ 1 ≤ z)) (hl : LeastTo x y z.toNat first) (hc : (first : Int) = 0 ∨ f < 1) : find14 x y f = ⟨4, 2, []⟩ := by
  by_cases c : f < 1
  · unfold find14; rw [if_pos (Or.inl c)]; rfl
  · have e : first = 0 := by omega
    subst e; exact (least_none (by omega) (least_up hl (by omega))).trans rfl
theorem fin_some {x y : List UInt8} {f z : Int} {first : Nat} (hy : y.length ≤ 100) (hz : ¬ (f ≤ z ∧ 1 ≤ z)) (hl : LeastTo x y z.toNat first) (hf : first = 0 ∨ f ≤ z + 1) (hc : ¬ ((first : Int) = 0 ∨ f < 1)) : find14 x y f = ⟨1, (first : Int) * 10000, []⟩ ∧ 1 ≤ first ∧ first ≤ 101 ∧ (y.drop (first - 1)).take x.length = x := by
  have e : z.toNat = f.toNat - 1 := by omega
  rw [e] at hl; have h2 := least_some (by omega) (by omega) hl; rcases hl with ⟨q, _⟩ | ⟨q1, q2, q3, _⟩
  · omega
  · refine ⟨?_, by omega, by omega, ?_⟩
    · rw [h2]
      unfold vMake; rw [if_neg (by omega)]
    · unfold pieceAt at q3
      rw [List.drop_take, show first - 1 + x.length - (first - 1) = x.length by omega] at q3; exact q3
theorem mid_piece {x y : List UInt8} {first : Nat} (h : Okay y) (hx : x.length ≤ 256) (h1 : 1 ≤ first) (h2 : first ≤ 101) (hp : (y.drop (first - 1)).take x.length = x) : (vCall14 34 [⟨3, 0, y⟩, ⟨1, (first : Int) * 10000, []⟩, ⟨1, (x.length : Int) * 10000, []⟩]).1 = ⟨3, 0, x⟩ := by
  have := mid_T (m := (first : Int)) (n := (x.length : Int)) h (by omega) (by omega) (by omega) (by omega); rw [show ((first : Int) - 1).toNat = first - 1 by omega, Int.toNat_natCast, hp] at this; exact this
theorem modF (a : Int) : -1 ≤ Int.tmod (Int.tmod a 107 + 107) 107 - 1 ∧ Int.tmod (Int.tmod a 107 + 107) 107 - 1 ≤ 105 := by
  have t1 := tmod_rg a 107 (by decide); have e : Int.tmod (Int.tmod a 107 + 107) 107 = (Int.tmod a 107 + 107) % 107 := Int.tmod_eq_emod_of_nonneg (by omega)
  omega
theorem en_louvrelaw14_awake : En 10 := by intro args w; go_simp
theorem en_louvrelaw14_of : En 7 := by intro args w; go_simp
set_option maxHeartbeats 8000000 in
theorem FtextFinds_walk (a0 a1 : ByteArray) (a2 : Int) (w0 : a0.size ≤ maxLen) (w1 : a1.size ≤ maxLen) (w2 : (Lit.int .i64 a2).wf = true) (w : World) (mx : Int) (HM : Mx w mx) :
    Calls Tryd.prog 4 #[.string a0, .string a1, .int .i64 a2] w fun e w' => e = .returned (.bool true) ∧ Below w.heap.size w w' := by
  have r2 := Go.bounds_i64 w2; clear w2; have t1_ := tmod_rg a2 107 (by decide); have t2_ := modF a2; obtain ⟨t0, rfl⟩ : ∃ l : List UInt8, a0 = ⟨l.toArray⟩ := ⟨a0.data.toList, bytes_of rfl⟩; obtain ⟨t1, rfl⟩ : ∃ l : List UInt8, a1 = ⟨l.toArray⟩ := ⟨a1.data.toList, bytes_of rfl⟩; have hl0 : t0.length ≤ 9223372036854775807 := w0; have hl1 : t1.length ≤ 9223372036854775807 := w1; clear w0 w1; go_enter Tryd.func4, Tryd.ntmps4; refine sq fun hK1 => ?_
  refine ro [yV _] 1 131 rfl rfl (Own.start w) (
    aS (fun hk bs hd => xassign rfl rfl) rfl <|
    arm0) fun fa fw bs hv ap z q ow => ?_
  have s0 := bs.get 0 rfl rfl; have s1 := bs.get 1 rfl rfl; have s2 := bs.get 2 rfl rfl; have s6 := gv hv 0 rfl rfl; refine wt hK1 ?_; refine sq fun hK2 => ?_
  refine ro [yV _, yV _] 2 131 z q ow (
    aS (fun hk bs hd => xassign rfl rfl) rfl <|
    aS (fun hk bs hd => xassign rfl rfl) rfl <|
    arm0) fun fa fw bs hv ap z q ow => ?_
  obtain ⟨s0, s1, s2, s6⟩ := b4 bs s0 s1 s2 s6; have s7 := gv hv 0 rfl rfl; have s8 := gv hv 1 rfl rfl; refine wt hK2 ?_; refine sq fun hK3 => ?_; refine sq fun hK4 => ?_
  refine ro [yV _] 1 131 z q ow (
    aS (fun hk bs hd => xassign rfl rfl) rfl <|
    arm0) fun fa fw bs hv ap z q ow => ?_
  obtain ⟨s0, s1, s2, s6, s7, s8⟩ := b6 bs s0 s1 s2 s6 s7 s8; have s9 := gv hv 0 rfl rfl; refine wt hK4 ?_; refine wp_block ?_; refine wp_loop_g (fun (k : Nat) fr u => ∃ (va : Value), (k ≤ t0.length) ∧ (k ≤ 5) ∧ fr.tmps.size = 131 ∧ fr.defers = [] ∧ Own w [Th.row w.heap.size 5 1 va ((((t0.take k).map abC).map byteV).length) (((t0.take k).map abC).map byteV)] u ∧ fr.eval (.tmp 0) = .string ⟨t0.toArray⟩ ∧ fr.eval (.tmp 1) = .string ⟨t1.toArray⟩ ∧ fr.eval (.tmp 2) = .int .i64 a2 ∧ fr.eval (.tmp 6) = .bool false ∧ fr.eval (.tmp 8) = .slice none 0 0 ∧ fr.eval (.tmp 7) = va ∧ fr.eval (.tmp 9) = .int .i64 (k : Int)) (fun k => t0.length - k) 0 ⟨(.slice none 0 0), (Nat.zero_le _), (Nat.zero_le _), z, q, (ow.nil 5 1), s0, s1, s2, s6, s8, s7, s9⟩ (fun k b_ u_ hI => ?_)
  revert b_ u_; intro fa fw hI
  obtain ⟨va, hk, hkm0, z, q, ow, s0, s1, s2, s6, s8, s7, s9⟩ := hI; refine sq fun hK5 => ?_; refine sq fun hK6 => ?_
  refine ro [yV _, yV _, yV _, yV _, yV _, yIf (((decide ((k : Int) < ((t0.length : Nat) : Int))) = true)) (yV (.int .i64 (k : Int))), yIf (((decide ((k : Int) < ((t0.length : Nat) : Int))) = true)) (yV (.bool (decide ((k : Int) < (5 : Int))))), yV _] 8 131 z q ow (
    mvS s9 rfl rfl rfl rfl <|
    mvS s0 rfl rfl rfl rfl <|
    aS (fun hk bs hd => xlenS Tryd.underlying9 rfl (dp hd 1 rfl)) rfl <|
    aS (fun hk bs hd => xlss rfl (dp hd 0 rfl) (dp hd 2 rfl)) rfl <|
    mvD 3 rfl rfl rfl rfl rfl rfl <|
    arm (fun aa ww hk bs hd => by
      have d4 := dp hd 4 rfl
      by_cases hz : ((decide ((k : Int) < ((t0.length : Nat) : Int))) = true)
      · exact stepX_same (v := .int .i64 (k : Int)) (want1 (j := 4) (b := true) rfl (d4.trans (congrArg Value.bool hz))) (xmove rfl (bg bs s9)) ⟨fun _ => rfl, fun c => absurd hz c⟩ rfl
      · exact stepX_skip (wantN (j := 4) (b := true) (b' := false) rfl (d4.trans (congrArg Value.bool (Bool.eq_false_iff.2 hz))) rfl) ⟨fun c => absurd c hz, fun _ => rfl⟩ rfl
      ) <|
    arm (fun aa ww hk bs hd => by
      have d4 := dp hd 4 rfl; have d5 := dI hd 5 rfl
      by_cases hz : ((decide ((k : Int) < ((t0.length : Nat) : Int))) = true)
      · exact stepX_same (v := .bool (decide ((k : Int) < (5 : Int)))) (want1 (j := 4) (b := true) rfl (d4.trans (congrArg Value.bool hz))) (xlss rfl (d5.1 hz) rfl) ⟨fun _ => rfl, fun c => absurd hz c⟩ rfl
      · exact stepX_skip (wantN (j := 4) (b := true) (b' := false) rfl (d4.trans (congrArg Value.bool (Bool.eq_false_iff.2 hz))) rfl) ⟨fun c => absurd c hz, fun _ => rfl⟩ rfl
      ) <|
    arm (fun aa ww hk bs hd => by
      have d4 := dp hd 4 rfl; have d6 := dI hd 6 rfl; exact stepX_same (v := .bool ((decide ((k : Int) < ((t0.length : Nat) : Int))) && (decide ((k : Int) < (5 : Int))))) (want0 rfl) (xand rfl (d4) (fun hb => d6.1 hb) rfl) rfl rfl
      ) <|
    arm0) fun fa fw bs hv ap z q ow => ?_
  obtain ⟨s0, s1, s2, s6, s8, s7, s9⟩ := b7 bs s0 s1 s2 s6 s8 s7 s9; have s21 := gv hv 7 rfl rfl; refine wt hK6 ?_
  by_cases hc1 : ((k : Int) < ((t0.length : Nat) : Int)) ∧ ((k : Int) < (5 : Int))
  ·refine ct s21 ((band (decide_eq_true_iff) (decide_eq_true_iff)).2 hc1) ?_
   refine wp_skip ?_; refine tn hK5 ?_; refine sq fun hK7 => ?_; refine wp_block ?_; have hlt : k < t0.length := by omega
   have hkm : k < 5 := by omega
   obtain ⟨c, hc⟩ : ∃ c, t0[k]? = some c := ⟨t0[k], List.getElem?_eq_getElem hlt⟩
   refine ro [yV _, yV _, yV _, yV _, yV (.int .u8 ((c.toNat % 2 : Nat) : Int)), yV _, ySlice fw.heap.size 1 (.cells #[.int .u8 ((abC c).toNat : Int)] 5 (0, 0))] 7 131 z q ow (
     mvS s7 rfl rfl rfl rfl <|
     mvS s0 rfl rfl rfl rfl <|
     mvS s9 rfl rfl rfl rfl <|
     aS (fun hk bs hd => xindexB rfl (dp hd 1 rfl) (dp hd 2 rfl) hc) rfl <|
     aS (fun hk bs hd => xremU8 (n := c.toNat) (m := 2) rfl (dp hd 3 rfl) rfl (by decide) (Nat.le_of_lt_succ c.toNat_lt)) rfl <|
     aS (fun hk bs hd => xabC rfl rfl (dp hd 4 rfl)) rfl <|
     arm (fun aa ww hk bs hd => by
       have d5 : aa.eval (.tmp 29) = .int .u8 ((abC c).toNat : Int) := depX hd 5 rfl; exact stepX_new _ (want0 rfl) (xbuildSlice (us := #[(0, .int .u8 ((abC c).toNat : Int))]) (b := .cells #[.int .u8 ((abC c).toNat : Int)] 5 (0, 0)) rfl (by simp only [List.map_toArray, List.map_cons, List.map_nil, d5]) (by kernel_rfl)) ⟨_, rfl, hk.size, Go.heap_alloc_new _ _⟩ ((Kept.refl _).alloc _) rfl (Nat.le_refl _)
       ) <|
     arm0) fun fa fw bs hv ap z q ov => ?_
   obtain ⟨s0, s1, s2, s6, s8, s7, s9⟩ := b7 bs s0 s1 s2 s6 s8 s7 s9; have s24 := gv hv 0 rfl rfl; obtain ⟨gb1, s30, bgb1, hgb1⟩ := gotL hv 6 rfl rfl rfl; have ov := ov.cons hgb1 (Nat.le_trans ow.kept.size bgb1) (ow.below bgb1); have ow := ov; refine wl_appendC (by_ := 1) (want0 rfl) (l := ((t0.take k).map abC).map byteV) (u := (byteV (abC c))) rfl Tryd.underlying30 (info_one _ _ _ (by kernel_rfl) rfl) s24 s30 (ow.row 1 rfl) (ow.get 0 rfl) rfl (by simp only [List.length_map, List.length_take]; omega) (by decide) ow.kept.size (fun vr1 fw1 ho hg hb => ?_); have ow := ow.turn 1 rfl (t' := Th.row w.heap.size 5 1 vr1 ((((t0.take k).map abC).map byteV ++ [(byteV (abC c))]).length) (((t0.take k).map abC).map byteV ++ [(byteV (abC c))])) ho hg (turn_new hb); clear ho hg hb; refine wl_value (v := vr1) (want0 rfl) (xassign rfl (put_in (t := 31) z rfl)) ?_; refine gt7 (put_size (put_size z)) (put_def (put_def q)) ow 0 (pb 7 (pb 31 s0 rfl) rfl) 1 (pb 7 (pb 31 s1 rfl) rfl) 2 (pb 7 (pb 31 s2 rfl) rfl) 6 (pb 7 (pb 31 s6 rfl) rfl) 8 (pb 7 (pb 31 s8 rfl) rfl) 9 (pb 7 (pb 31 s9 rfl) rfl) 7 (put_in (t := 7) (put_size z) rfl) fun fa fw z q ow s0 s1 s2 s6 s8 s9 s7 => ?_; refine wl_end ?_; refine block_n ?_; refine tn hK7 ?_
   refine ro [yV _, yV (.int .i64 ((k + 1 : Nat) : Int))] 2 131 z q ow (
     mvS s9 rfl rfl rfl rfl <|
     aS (fun hk bs hd => xadd (Or.inl rfl) rfl (dp hd 0 rfl) rfl (by omega) (by omega)) rfl <|
     arm0) fun fa fw bs hv ap z q ow => ?_
   obtain ⟨s0, s1, s2, s6, s8, s9, s7⟩ := b7 bs s0 s1 s2 s6 s8 s9 s7; have s23 := gv hv 1 rfl rfl; refine wl_value (v := .int .i64 ((k + 1 : Nat) : Int)) (want0 rfl) (xassign rfl s23) ?_; refine gp6 z q ow s0 s1 s2 s6 s8 s7 fun fa fw z q ow s0 s1 s2 s6 s8 s7 s9 => ?_; refine wl_end ?_; exact then_n ⟨(k + 1), ⟨vr1, hlt, hkm, z, q, (by rw [ab_step hc, List.map_append]; exact ow.tail), s0, s1, s2, s6, s8, s7, s9⟩, (show t0.length - (k + 1) < t0.length - k by omega)⟩
  refine cf s21 (band (decide_eq_true_iff) (decide_eq_true_iff)) hc1 ?_; refine wp_exit ?_; refine then_e ?_; refine then_e ?_; refine block_hit ?_; refine tn hK3 ?_; refine sq fun hK8 => ?_; refine sq fun hK9 => ?_
  refine ro [yV _] 1 131 z q ow (
    aS (fun hk bs hd => xassign rfl rfl) rfl <|
    arm0) fun fa fw bs hv ap z q ow => ?_
  obtain ⟨s1, s2, s6, s8, s7⟩ := b5 bs s1 s2 s6 s8 s7; have s10 := gv hv 0 rfl rfl; obtain ⟨Ax, cx, rfl⟩ := row_slice (ow.row 0 rfl); refine wl_nil (fun fr u => ∃ (x : List UInt8), (Okay x) ∧ (x.length ≤ 5) ∧ fr.tmps.size = 131 ∧ fr.defers = [] ∧ Own w [Th.row w.heap.size 5 1 (.slice Ax (((x).map byteV).length) cx) (((x).map byteV).length) ((x).map byteV)] u ∧ fr.eval (.tmp 1) = .string ⟨t1.toArray⟩ ∧ fr.eval (.tmp 2) = .int .i64 a2 ∧ fr.eval (.tmp 6) = .bool false ∧ fr.eval (.tmp 8) = .slice none 0 0 ∧ fr.eval (.tmp 7) = .slice Ax (((x).map byteV).length) cx ∧ fr.eval (.tmp 10) = .int .i64 0) ⟨((t0.take 5).map abC), (okay_ab t0 5 (by decide)).1, (okay_ab t0 5 (by decide)).2, z, q, (by rw [ab_all (k := k) (by omega) hk hkm0]; exact ow), s1, s2, s6, s8, (by rw [ab_all (k := k) (by omega) hk hkm0]; exact s7), s10⟩ ?_; rintro fa fw ⟨x, hx, hxl, z, q, ow, s1, s2, s6, s8, s7, s10⟩; refine tn hK9 ?_; refine wp_block ?_; refine wp_loop_g (fun (k : Nat) fr u => ∃ (vb : Value), (k ≤ t1.length) ∧ (k ≤ 100) ∧ fr.tmps.size = 131 ∧ fr.defers = [] ∧ Own w [Th.row w.heap.size 5 1 vb ((((t1.take k).map abC).map byteV).length) (((t1.take k).map abC).map byteV), Th.row w.heap.size 5 1 (.slice Ax (((x).map byteV).length) cx) (((x).map byteV).length) ((x).map byteV)] u ∧ fr.eval (.tmp 1) = .string ⟨t1.toArray⟩ ∧ fr.eval (.tmp 2) = .int .i64 a2 ∧ fr.eval (.tmp 6) = .bool false ∧ fr.eval (.tmp 7) = .slice Ax (((x).map byteV).length) cx ∧ fr.eval (.tmp 8) = vb ∧ fr.eval (.tmp 10) = .int .i64 (k : Int)) (fun k => t1.length - k) 0 ⟨(.slice none 0 0), (Nat.zero_le _), (Nat.zero_le _), z, q, (ow.nil 5 1), s1, s2, s6, s7, s8, s10⟩ (fun k b_ u_ hI => ?_)
  revert b_ u_; intro fa fw hI
  obtain ⟨vb, hk, hkm0, z, q, ow, s1, s2, s6, s7, s8, s10⟩ := hI; refine sq fun hK10 => ?_; refine sq fun hK11 => ?_
  refine ro [yV _, yV _, yV _, yV _, yV _, yIf (((decide ((k : Int) < ((t1.length : Nat) : Int))) = true)) (yV (.int .i64 (k : Int))), yIf (((decide ((k : Int) < ((t1.length : Nat) : Int))) = true)) (yV (.bool (decide ((k : Int) < (100 : Int))))), yV _] 8 131 z q ow (
    mvS s10 rfl rfl rfl rfl <|
    mvS s1 rfl rfl rfl rfl <|
    aS (fun hk bs hd => xlenS Tryd.underlying9 rfl (dp hd 1 rfl)) rfl <|
    aS (fun hk bs hd => xlss rfl (dp hd 0 rfl) (dp hd 2 rfl)) rfl <|
    mvD 3 rfl rfl rfl rfl rfl rfl <|
    arm (fun aa ww hk bs hd => by
      have d4 := dp hd 4 rfl
      by_cases hz : ((decide ((k : Int) < ((t1.length : Nat) : Int))) = true)
      · exact stepX_same (v := .int .i64 (k : Int)) (want1 (j := 4) (b := true) rfl (d4.trans (congrArg Value.bool hz))) (xmove rfl (bg bs s10)) ⟨fun _ => rfl, fun c => absurd hz c⟩ rfl
      · exact stepX_skip (wantN (j := 4) (b := true) (b' := false) rfl (d4.trans (congrArg Value.bool (Bool.eq_false_iff.2 hz))) rfl) ⟨fun c => absurd c hz, fun _ => rfl⟩ rfl
      ) <|
    arm (fun aa ww hk bs hd => by
      have d4 := dp hd 4 rfl; have d5 := dI hd 5 rfl
      by_cases hz : ((decide ((k : Int) < ((t1.length : Nat) : Int))) = true)
      · exact stepX_same (v := .bool (decide ((k : Int) < (100 : Int)))) (want1 (j := 4) (b := true) rfl (d4.trans (congrArg Value.bool hz))) (xlss rfl (d5.1 hz) rfl) ⟨fun _ => rfl, fun c => absurd hz c⟩ rfl
      · exact stepX_skip (wantN (j := 4) (b := true) (b' := false) rfl (d4.trans (congrArg Value.bool (Bool.eq_false_iff.2 hz))) rfl) ⟨fun c => absurd c hz, fun _ => rfl⟩ rfl
      ) <|
    arm (fun aa ww hk bs hd => by
      have d4 := dp hd 4 rfl; have d6 := dI hd 6 rfl; exact stepX_same (v := .bool ((decide ((k : Int) < ((t1.length : Nat) : Int))) && (decide ((k : Int) < (100 : Int))))) (want0 rfl) (xand rfl (d4) (fun hb => d6.1 hb) rfl) rfl rfl
      ) <|
    arm0) fun fa fw bs hv ap z q ow => ?_
  obtain ⟨s1, s2, s6, s7, s8, s10⟩ := b6 bs s1 s2 s6 s7 s8 s10; have s39 := gv hv 7 rfl rfl; refine wt hK11 ?_
  by_cases hc2 : ((k : Int) < ((t1.length : Nat) : Int)) ∧ ((k : Int) < (100 : Int))
  ·refine ct s39 ((band (decide_eq_true_iff) (decide_eq_true_iff)).2 hc2) ?_
   refine wp_skip ?_; refine tn hK10 ?_; refine sq fun hK12 => ?_; refine wp_block ?_; have hlt : k < t1.length := by omega
   have hkm : k < 100 := by omega
   obtain ⟨c, hc⟩ : ∃ c, t1[k]? = some c := ⟨t1[k], List.getElem?_eq_getElem hlt⟩
   refine ro [yV _, yV _, yV _, yV _, yV (.int .u8 ((c.toNat % 2 : Nat) : Int)), yV _, ySlice fw.heap.size 1 (.cells #[.int .u8 ((abC c).toNat : Int)] 5 (0, 0))] 7 131 z q ow (
     mvS s8 rfl rfl rfl rfl <|
     mvS s1 rfl rfl rfl rfl <|
     mvS s10 rfl rfl rfl rfl <|
     aS (fun hk bs hd => xindexB rfl (dp hd 1 rfl) (dp hd 2 rfl) hc) rfl <|
     aS (fun hk bs hd => xremU8 (n := c.toNat) (m := 2) rfl (dp hd 3 rfl) rfl (by decide) (Nat.le_of_lt_succ c.toNat_lt)) rfl <|
     aS (fun hk bs hd => xabC rfl rfl (dp hd 4 rfl)) rfl <|
     arm (fun aa ww hk bs hd => by
       have d5 : aa.eval (.tmp 47) = .int .u8 ((abC c).toNat : Int) := depX hd 5 rfl; exact stepX_new _ (want0 rfl) (xbuildSlice (us := #[(0, .int .u8 ((abC c).toNat : Int))]) (b := .cells #[.int .u8 ((abC c).toNat : Int)] 5 (0, 0)) rfl (by simp only [List.map_toArray, List.map_cons, List.map_nil, d5]) (by kernel_rfl)) ⟨_, rfl, hk.size, Go.heap_alloc_new _ _⟩ ((Kept.refl _).alloc _) rfl (Nat.le_refl _)
       ) <|
     arm0) fun fa fw bs hv ap z q ov => ?_
   obtain ⟨s1, s2, s6, s7, s8, s10⟩ := b6 bs s1 s2 s6 s7 s8 s10; have s42 := gv hv 0 rfl rfl; obtain ⟨gb2, s48, bgb2, hgb2⟩ := gotL hv 6 rfl rfl rfl; have ov := ov.cons hgb2 (Nat.le_trans ow.kept.size bgb2) (ow.below bgb2); have ow := ov; refine wl_appendC (by_ := 1) (want0 rfl) (l := ((t1.take k).map abC).map byteV) (u := (byteV (abC c))) rfl Tryd.underlying30 (info_one _ _ _ (by kernel_rfl) rfl) s42 s48 (ow.row 1 rfl) (ow.get 0 rfl) rfl (by simp only [List.length_map, List.length_take]; omega) (by decide) ow.kept.size (fun vr2 fw2 ho hg hb => ?_); have ow := ow.turn 1 rfl (t' := Th.row w.heap.size 5 1 vr2 ((((t1.take k).map abC).map byteV ++ [(byteV (abC c))]).length) (((t1.take k).map abC).map byteV ++ [(byteV (abC c))])) ho hg (turn_new hb); clear ho hg hb; refine wl_value (v := vr2) (want0 rfl) (xassign rfl (put_in (t := 49) z rfl)) ?_; refine gt6 (put_size (put_size z)) (put_def (put_def q)) ow 1 (pb 8 (pb 49 s1 rfl) rfl) 2 (pb 8 (pb 49 s2 rfl) rfl) 6 (pb 8 (pb 49 s6 rfl) rfl) 7 (pb 8 (pb 49 s7 rfl) rfl) 10 (pb 8 (pb 49 s10 rfl) rfl) 8 (put_in (t := 8) (put_size z) rfl) fun fa fw z q ow s1 s2 s6 s7 s10 s8 => ?_; refine wl_end ?_; refine block_n ?_; refine tn hK12 ?_
   refine ro [yV _, yV (.int .i64 ((k + 1 : Nat) : Int))] 2 131 z q ow (
     mvS s10 rfl rfl rfl rfl <|
     aS (fun hk bs hd => xadd (Or.inl rfl) rfl (dp hd 0 rfl) rfl (by omega) (by omega)) rfl <|
     arm0) fun fa fw bs hv ap z q ow => ?_
   obtain ⟨s1, s2, s6, s7, s10, s8⟩ := b6 bs s1 s2 s6 s7 s10 s8; have s41 := gv hv 1 rfl rfl; refine wl_value (v := .int .i64 ((k + 1 : Nat) : Int)) (want0 rfl) (xassign rfl s41) ?_; refine gp5 z q ow s1 s2 s6 s7 s8 fun fa fw z q ow s1 s2 s6 s7 s8 s10 => ?_; refine wl_end ?_; exact then_n ⟨(k + 1), ⟨vr2, hlt, hkm, z, q, (by rw [ab_step hc, List.map_append]; exact ow.tail), s1, s2, s6, s7, s8, s10⟩, (show t1.length - (k + 1) < t1.length - k by omega)⟩
  refine cf s39 (band (decide_eq_true_iff) (decide_eq_true_iff)) hc2 ?_; refine wp_exit ?_; refine then_e ?_; refine then_e ?_; refine block_hit ?_; refine tn hK8 ?_; refine sq fun hK13 => ?_
  refine ro [yV _, yV _, yV _, yV _, yV _] 5 131 z q ow (
    mvS s2 rfl rfl rfl rfl <|
    aS (fun hk bs hd => xrem (Or.inl rfl) rfl (dp hd 0 rfl) rfl (by omega) (by omega) (by omega)) rfl <|
    aS (fun hk bs hd => xadd (Or.inl rfl) rfl (dp hd 1 rfl) rfl (by omega) (by omega)) rfl <|
    aS (fun hk bs hd => xrem (Or.inl rfl) rfl (dp hd 2 rfl) rfl (by omega) (by omega) (by omega)) rfl <|
    aS (fun hk bs hd => xsub (Or.inl rfl) rfl (dp hd 3 rfl) rfl (by omega) (by omega)) rfl <|
    arm0) fun fa fw bs hv ap z q ow => ?_
  obtain ⟨s2, s6, s7, s8⟩ := b4 bs s2 s6 s7 s8; have s54 := gv hv 4 rfl rfl; refine wl_value (v := .int .i64 ((Int.tmod ((Int.tmod a2 107) + 107) 107) - 1)) (want0 rfl) (xassign rfl s54) ?_; obtain ⟨Ay, cy, rfl⟩ := row_slice (ow.row 0 rfl); refine wl_nil (fun fr u => ∃ (f : Int), ∃ (y : List UInt8), (-1 ≤ f ∧ f ≤ 105) ∧ (Okay y) ∧ (y.length ≤ 100) ∧ fr.tmps.size = 131 ∧ fr.defers = [] ∧ Own w [Th.row w.heap.size 5 1 (.slice Ay (((y).map byteV).length) cy) (((y).map byteV).length) ((y).map byteV), Th.row w.heap.size 5 1 (.slice Ax (((x).map byteV).length) cx) (((x).map byteV).length) ((x).map byteV)] u ∧ fr.eval (.tmp 6) = .bool false ∧ fr.eval (.tmp 7) = .slice Ax (((x).map byteV).length) cx ∧ fr.eval (.tmp 8) = .slice Ay (((y).map byteV).length) cy ∧ fr.eval (.tmp 2) = .int .i64 f) ⟨((Int.tmod ((Int.tmod a2 107) + 107) 107) - 1), ((t1.take 100).map abC), (modF a2), (okay_ab t1 100 (by decide)).1, (okay_ab t1 100 (by decide)).2, put_size z, put_def q, (by rw [ab_all (k := k) (by omega) hk hkm0]; exact ow), pb 2 s6 rfl, pb 2 s7 rfl, (by rw [ab_all (k := k) (by omega) hk hkm0]; exact pb 2 s8 rfl), put_in (t := 2) z rfl⟩ ?_; rintro fa fw ⟨f, y, hf, hy, hyl, z, q, ow, s6, s7, s8, s2⟩; refine tn hK13 ?_; refine sq fun hK14 => ?_
  refine ro [yV _, yV _, yV (aggV (⟨3, 0, x⟩ : Vl)), yV _, yV _, yV (aggV (⟨3, 0, y⟩ : Vl)), yV _, yV _, yV (aggV (⟨1, f * 10000, []⟩ : Vl)), ySlice fw.heap.size 3 (rowObj [(⟨3, 0, x⟩ : Vl), (⟨3, 0, y⟩ : Vl), (⟨1, f * 10000, []⟩ : Vl)]), yV (aggV (find14 x y f)), yNew fw.heap.size (.cells #[.int .u8 0, .int .i64 0, .string ⟨[].toArray⟩] 24 (0, 0))] 12 131 z q ow (
    mvS s7 rfl rfl rfl rfl <|
    aS (fun hk bs hd => xconvert (u := .slice Ax (((x).map byteV).length) cx) rfl (dp hd 0 rfl) (conv_own (ownB_of ((ow.keep hk).row 1 rfl)))) rfl <|
    aC (fun hk bs hd => xcall1 rfl (dp hd 1 rfl) (en_louvrelaw14_text _ _)) (fun hk bs hd => ltext14_any x _) rfl <|
    mvS s8 rfl rfl rfl rfl <|
    aS (fun hk bs hd => xconvert (u := .slice Ay (((y).map byteV).length) cy) rfl (dp hd 3 rfl) (conv_own (ownB_of ((ow.keep hk).row 0 rfl)))) rfl <|
    aC (fun hk bs hd => xcall1 rfl (dp hd 4 rfl) (en_louvrelaw14_text _ _)) (fun hk bs hd => ltext14_any y _) rfl <|
    mvS s2 rfl rfl rfl rfl <|
    aS (fun hk bs hd => xmul (Or.inr rfl) rfl (dp hd 6 rfl) rfl (by omega) (by omega)) rfl <|
    aC (fun hk bs hd => xcall1 rfl (dp hd 7 rfl) (en_louvrelaw14_num _ _)) (fun hk bs hd => lnum14_any (f * 10000) _) rfl <|
    arm (fun aa ww hk bs hd => by
      have d2 := dp hd 2 rfl; have d5 := dp hd 5 rfl; have d8 := dp hd 8 rfl; exact stepX_new _ (want0 rfl) (xrow3 rfl (d2) (d5) (d8)) ⟨_, rfl, hk.size, Go.heap_alloc_new _ _⟩ ((Kept.refl _).alloc _) rfl (Nat.le_refl _)
      ) <|
    arm (fun aa ww hk bs hd => by
      have d9 := dL hd 9 rfl; obtain ⟨g9, e9, _, h9⟩ := d9; exact stepX_enter (want0 rfl) (xcall2 (u := .int .u8 41) (v := .slice (some ⟨g9, 0, none⟩) 3 3) rfl rfl e9 (en_louvrelaw14_of _ _)) ((of14_eq 41 g9 [(⟨3, 0, x⟩ : Vl), (⟨3, 0, y⟩ : Vl), (⟨1, f * 10000, []⟩ : Vl)] ww mx (HM.kept (ow.keep hk).kept) h9 (smalls3 (small_T hx) (small_T hy) (small_num (by omega) (by omega))) (by simp) (find_T hx hy (by omega))).mono fun _ _ ⟨he, hk2⟩ => ⟨_, he, rfl, hk2⟩) rfl
      ) <|
    aP (fun hk bs hd => xalloc rfl (by kernel_rfl)) rfl <|
    arm0) fun fa fw bs hv ap z q ov => ?_
  obtain ⟨s6, s7, s8, s2⟩ := b4 bs s6 s7 s8 s2; have s65 := gv hv 10 rfl rfl; obtain ⟨gb3, s11, bgb3, hgb3⟩ := gotP hv 11 rfl rfl rfl; have ov := ov.cons hgb3 (Nat.le_trans ow.kept.size bgb3) (ow.below bgb3); have ow := ov; refine ws ow 0 0 s11 s65 fun fw ow => ?_; refine wt hK14 ?_; refine sq fun hK15 => ?_
  refine ro [yV _] 1 131 z q ow (
    aS (fun hk bs hd => xassign rfl rfl) rfl <|
    arm0) fun fa fw bs hv ap z q ow => ?_
  obtain ⟨s6, s7, s8, s2, s11⟩ := b5 bs s6 s7 s8 s2 s11; have s12 := gv hv 0 rfl rfl; refine wt hK15 ?_; refine sq fun hK16 => ?_; refine sq fun hK17 => ?_
  refine ro [yV _, yV (.int .i64 ((y.length : Nat) : Int)), yV _, yV (.int .i64 ((x.length : Nat) : Int)), yV _, yV _, yV _] 7 131 z q ow (
    mvS s8 rfl rfl rfl rfl <|
    aE (fun hk bs hd => xlen Tryd.underlying30 rfl (dp hd 0 rfl)) (congrArg (Value.int .i64) (by rw [List.length_map])) rfl <|
    mvS s7 rfl rfl rfl rfl <|
    aE (fun hk bs hd => xlen Tryd.underlying30 rfl (dp hd 2 rfl)) (congrArg (Value.int .i64) (by rw [List.length_map])) rfl <|
    aS (fun hk bs hd => xsub (Or.inl rfl) rfl (dp hd 1 rfl) (dp hd 3 rfl) (by omega) (by omega)) rfl <|
    aS (fun hk bs hd => xadd (Or.inl rfl) rfl (dp hd 4 rfl) rfl (by omega) (by omega)) rfl <|
    asD 5 rfl rfl rfl rfl rfl rfl <|
    arm0) fun fa fw bs hv ap z q ow => ?_
  obtain ⟨s6, s7, s8, s2, s11, s12⟩ := b6 bs s6 s7 s8 s2 s11 s12; have s13 := gv hv 6 rfl rfl; refine wt hK17 ?_; refine wp_block ?_; refine wp_loop_g (fun (jz : Int) fr u => ∃ (first : Nat), (jz ≤ ((y.length : Nat) : Int) - ((x.length : Nat) : Int) + 1) ∧ (LeastTo x y jz.toNat first) ∧ (first = 0 ∨ f ≤ jz + 1) ∧ fr.tmps.size = 131 ∧ fr.defers = [] ∧ Own w [Th.obj gb3 (.cells #[.int .u8 ((find14 x y f).k), .int .i64 ((find14 x y f).n), .string ⟨((find14 x y f).t).toArray⟩] 24 (0, 0)), Th.row w.heap.size 5 1 (.slice Ay (((y).map byteV).length) cy) (((y).map byteV).length) ((y).map byteV), Th.row w.heap.size 5 1 (.slice Ax (((x).map byteV).length) cx) (((x).map byteV).length) ((x).map byteV)] u ∧ fr.eval (.tmp 2) = .int .i64 f ∧ fr.eval (.tmp 6) = .bool false ∧ fr.eval (.tmp 7) = .slice Ax (((x).map byteV).length) cx ∧ fr.eval (.tmp 8) = .slice Ay (((y).map byteV).length) cy ∧ fr.eval (.tmp 11) = .pointer (some ⟨gb3, 0, none⟩) ∧ fr.eval (.tmp 12) = .int .i64 (first : Int) ∧ fr.eval (.tmp 13) = .int .i64 jz) (fun jz => jz.toNat) (((y.length : Nat) : Int) - ((x.length : Nat) : Int) + 1) ⟨0, (Int.le_refl _), (least_start _ _ _ (by omega)), (Or.inl rfl), z, q, ow, s2, s6, s7, s8, s11, s12, s13⟩ (fun jz b_ u_ hI => ?_)
  revert b_ u_; intro fa fw hI
  obtain ⟨first, hjz, hle, hfz, z, q, ow, s2, s6, s7, s8, s11, s12, s13⟩ := hI; refine sq fun hK18 => ?_; refine sq fun hK19 => ?_
  refine ro [yV _, yV _, yV _, yV _, yIf (((decide ((f : Int) ≤ (jz : Int))) = true)) (yV (.int .i64 jz)), yIf (((decide ((f : Int) ≤ (jz : Int))) = true)) (yV (.bool (decide ((1 : Int) ≤ (jz : Int))))), yV _] 7 131 z q ow (
    mvS s13 rfl rfl rfl rfl <|
    mvS s2 rfl rfl rfl rfl <|
    aS (fun hk bs hd => xgeq rfl (dp hd 0 rfl) (dp hd 1 rfl)) rfl <|
    mvD 2 rfl rfl rfl rfl rfl rfl <|
    arm (fun aa ww hk bs hd => by
      have d3 := dp hd 3 rfl
      by_cases hz : ((decide ((f : Int) ≤ (jz : Int))) = true)
      · exact stepX_same (v := .int .i64 jz) (want1 (j := 3) (b := true) rfl (d3.trans (congrArg Value.bool hz))) (xmove rfl (bg bs s13)) ⟨fun _ => rfl, fun c => absurd hz c⟩ rfl
      · exact stepX_skip (wantN (j := 3) (b := true) (b' := false) rfl (d3.trans (congrArg Value.bool (Bool.eq_false_iff.2 hz))) rfl) ⟨fun c => absurd c hz, fun _ => rfl⟩ rfl
      ) <|
    arm (fun aa ww hk bs hd => by
      have d3 := dp hd 3 rfl; have d4 := dI hd 4 rfl
      by_cases hz : ((decide ((f : Int) ≤ (jz : Int))) = true)
      · exact stepX_same (v := .bool (decide ((1 : Int) ≤ (jz : Int)))) (want1 (j := 3) (b := true) rfl (d3.trans (congrArg Value.bool hz))) (xgeq rfl (d4.1 hz) rfl) ⟨fun _ => rfl, fun c => absurd hz c⟩ rfl
      · exact stepX_skip (wantN (j := 3) (b := true) (b' := false) rfl (d3.trans (congrArg Value.bool (Bool.eq_false_iff.2 hz))) rfl) ⟨fun c => absurd c hz, fun _ => rfl⟩ rfl
      ) <|
    arm (fun aa ww hk bs hd => by
      have d3 := dp hd 3 rfl; have d5 := dI hd 5 rfl; exact stepX_same (v := .bool ((decide ((f : Int) ≤ (jz : Int))) && (decide ((1 : Int) ≤ (jz : Int))))) (want0 rfl) (xand rfl (d3) (fun hb => d5.1 hb) rfl) rfl rfl
      ) <|
    arm0) fun fa fw bs hv ap z q ow => ?_
  obtain ⟨s2, s6, s7, s8, s11, s12, s13⟩ := b7 bs s2 s6 s7 s8 s11 s12 s13; have s78 := gv hv 6 rfl rfl; refine wt hK19 ?_
  by_cases hc3 : ((f : Int) ≤ (jz : Int)) ∧ ((1 : Int) ≤ (jz : Int))
  ·refine ct s78 ((band (decide_eq_true_iff) (decide_eq_true_iff)).2 hc3) ?_
   refine wp_skip ?_; refine tn hK18 ?_; refine sq fun hK20 => ?_; refine wp_block ?_; refine sq fun hK21 => ?_; have hf1 : f ≤ jz ∧ 1 ≤ jz := by omega
   obtain ⟨k, rfl⟩ : ∃ k : Nat, jz = k := ⟨jz.toNat, by omega⟩; have hk1 : 1 ≤ k := by omega
   rw [Int.toNat_natCast] at hle
   refine ro [yV _, yV _, yV (.int .i64 ((k - 1 : Nat) : Int)), yV _, yV (.int .i64 ((k - 1 : Nat) : Int)), yV _, yV (.int .i64 ((x.length : Nat) : Int)), yV (.int .i64 (((k - 1) + (x.length) : Nat) : Int)), yV _, yV _, yV _, yV _, yV _] 13 131 z q ow (
     mvS s8 rfl rfl rfl rfl <|
     mvS s13 rfl rfl rfl rfl <|
     aE (fun hk bs hd => xsub (Or.inl rfl) rfl (dp hd 1 rfl) rfl (by omega) (by omega)) (congrArg (Value.int .i64) (by omega)) rfl <|
     mvS s13 rfl rfl rfl rfl <|
     aE (fun hk bs hd => xsub (Or.inl rfl) rfl (dp hd 3 rfl) rfl (by omega) (by omega)) (congrArg (Value.int .i64) (by omega)) rfl <|
     mvS s7 rfl rfl rfl rfl <|
     aE (fun hk bs hd => xlen Tryd.underlying30 rfl (dp hd 5 rfl)) (congrArg (Value.int .i64) (by rw [List.length_map])) rfl <|
     aS (fun hk bs hd => xadd (Or.inl rfl) rfl (dp hd 4 rfl) (dp hd 6 rfl) (by omega) (by omega)) rfl <|
     aS (fun hk bs hd => xsliceB rfl (lo := (k - 1)) (hi := ((k - 1) + (x.length))) (dp hd 0 rfl) (dp hd 2 rfl) (dp hd 7 rfl) (by omega) (by have := (row_cap ((ow.keep hk).row 1 rfl)); omega)) rfl <|
     aS (fun hk bs hd => xconvert (u := .slice (cutS Ay (k - 1) cy) (((k - 1) + (x.length)) - (k - 1)) (cy - (k - 1))) rfl (dp hd 8 rfl) (conv_part (ownB_of ((ow.keep hk).row 1 rfl)) (by omega) (by omega))) rfl <|
     mvS s7 rfl rfl rfl rfl <|
     aS (fun hk bs hd => xconvert (u := .slice Ax (((x).map byteV).length) cx) rfl (dp hd 10 rfl) (conv_own (ownB_of ((ow.keep hk).row 2 rfl)))) rfl <|
     aS (fun hk bs hd => xeqS rfl (dp hd 9 rfl) (dp hd 11 rfl)) rfl <|
     arm0) fun fa fw bs hv ap z q ow => ?_
   obtain ⟨s2, s6, s7, s8, s11, s12, s13⟩ := b7 bs s2 s6 s7 s8 s11 s12 s13; have s93 := gv hv 12 rfl rfl; refine wt hK21 ?_
   by_cases hc4 : ((y.take ((k - 1) + (x.length))).drop (k - 1)) = x
   ·refine ct s93 ((decide_eq_true_iff).2 hc4) ?_
    refine ro [yV _, yV _] 2 131 z q ow (
      mvS s13 rfl rfl rfl rfl <|
      asD 0 rfl rfl rfl rfl rfl rfl <|
      arm0) fun fa fw bs hv ap z q ow => ?_
    obtain ⟨s2, s6, s7, s8, s11, s13⟩ := b6 bs s2 s6 s7 s8 s11 s13; have s12 := gv hv 1 rfl rfl; refine wl_end ?_; refine block_n ?_; refine tn hK20 ?_
    refine ro [yV _, yV _] 2 131 z q ow (
      mvS s13 rfl rfl rfl rfl <|
      aS (fun hk bs hd => xsub (Or.inl rfl) rfl (dp hd 0 rfl) rfl (by omega) (by omega)) rfl <|
      arm0) fun fa fw bs hv ap z q ow => ?_
    obtain ⟨s2, s6, s7, s8, s11, s13, s12⟩ := b7 bs s2 s6 s7 s8 s11 s13 s12; have s80 := gv hv 1 rfl rfl; refine wl_value (v := .int .i64 ((k : Int) - 1)) (want0 rfl) (xassign rfl s80) ?_; refine gp6 z q ow s2 s6 s7 s8 s11 s12 fun fa fw z q ow s2 s6 s7 s8 s11 s12 s13 => ?_; refine wl_end ?_; exact then_n ⟨((k : Int) - 1), ⟨k, (by omega), (by rw [show ((k : Int) - 1).toNat = k - 1 by omega]; exact least_hit (first := 0) hk1 (by omega) hc4), (Or.inr (by omega)), z, q, ow, s2, s6, s7, s8, s11, s12, s13⟩, (show ((k : Int) - 1).toNat < ((k : Int)).toNat by omega)⟩
   refine cf s93 (decide_eq_true_iff) hc4 ?_; refine wp_skip ?_; refine block_n ?_; refine tn hK20 ?_
   refine ro [yV _, yV _] 2 131 z q ow (
     mvS s13 rfl rfl rfl rfl <|
     aS (fun hk bs hd => xsub (Or.inl rfl) rfl (dp hd 0 rfl) rfl (by omega) (by omega)) rfl <|
     arm0) fun fa fw bs hv ap z q ow => ?_
   obtain ⟨s2, s6, s7, s8, s11, s12, s13⟩ := b7 bs s2 s6 s7 s8 s11 s12 s13; have s80 := gv hv 1 rfl rfl; refine wl_value (v := .int .i64 ((k : Int) - 1)) (want0 rfl) (xassign rfl s80) ?_; refine gp6 z q ow s2 s6 s7 s8 s11 s12 fun fa fw z q ow s2 s6 s7 s8 s11 s12 s13 => ?_; refine wl_end ?_; exact then_n ⟨((k : Int) - 1), ⟨first, (by omega), (by rw [show ((k : Int) - 1).toNat = k - 1 by omega]; exact least_miss hk1 hc4 hle), (Or.inr (by omega)), z, q, ow, s2, s6, s7, s8, s11, s12, s13⟩, (show ((k : Int) - 1).toNat < ((k : Int)).toNat by omega)⟩
  refine cf s78 (band (decide_eq_true_iff) (decide_eq_true_iff)) hc3 ?_; refine wp_exit ?_; refine then_e ?_; refine then_e ?_; refine block_hit ?_; refine tn hK16 ?_; refine sq fun hK22 => ?_; refine sq fun hK23 => ?_
  refine ro [yV _, yV _, yV _, yIf (((decide ((first : Int) = (0 : Int))) = false)) (yV (.int .i64 f)), yIf (((decide ((first : Int) = (0 : Int))) = false)) (yV (.bool (decide ((f : Int) < (1 : Int))))), yV _] 6 131 z q ow (
    mvS s12 rfl rfl rfl rfl <|
    aS (fun hk bs hd => xeqi rfl (dp hd 0 rfl) rfl) rfl <|
    mvD 1 rfl rfl rfl rfl rfl rfl <|
    arm (fun aa ww hk bs hd => by
      have d2 := dp hd 2 rfl
      by_cases hz : ((decide ((first : Int) = (0 : Int))) = false)
      · exact stepX_same (v := .int .i64 f) (want1 (j := 2) (b := false) rfl (d2.trans (congrArg Value.bool hz))) (xmove rfl (bg bs s2)) ⟨fun _ => rfl, fun c => absurd hz c⟩ rfl
      · exact stepX_skip (wantN (j := 2) (b := false) (b' := true) rfl (d2.trans (congrArg Value.bool ((Bool.not_eq_false _).mp hz))) rfl) ⟨fun c => absurd c hz, fun _ => rfl⟩ rfl
      ) <|
    arm (fun aa ww hk bs hd => by
      have d2 := dp hd 2 rfl; have d3 := dI hd 3 rfl
      by_cases hz : ((decide ((first : Int) = (0 : Int))) = false)
      · exact stepX_same (v := .bool (decide ((f : Int) < (1 : Int)))) (want1 (j := 2) (b := false) rfl (d2.trans (congrArg Value.bool hz))) (xlss rfl (d3.1 hz) rfl) ⟨fun _ => rfl, fun c => absurd hz c⟩ rfl
      · exact stepX_skip (wantN (j := 2) (b := false) (b' := true) rfl (d2.trans (congrArg Value.bool ((Bool.not_eq_false _).mp hz))) rfl) ⟨fun c => absurd c hz, fun _ => rfl⟩ rfl
      ) <|
    arm (fun aa ww hk bs hd => by
      have d2 := dp hd 2 rfl; have d4 := dI hd 4 rfl; exact stepX_same (v := .bool ((decide ((first : Int) = (0 : Int))) || (decide ((f : Int) < (1 : Int))))) (want0 rfl) (xor_ rfl (d2) rfl (fun hb => d4.1 hb)) rfl rfl
      ) <|
    arm0) fun fa fw bs hv ap z q ow => ?_
  obtain ⟨s6, s7, s8, s11, s12⟩ := b5 bs s6 s7 s8 s11 s12; have s100 := gv hv 5 rfl rfl; refine wt hK23 ?_
  by_cases hc5 : ((first : Int) = (0 : Int)) ∨ ((f : Int) < (1 : Int))
  ·refine ct s100 ((bor (decide_eq_true_iff) (decide_eq_true_iff)).2 hc5) ?_
   refine sq fun hK24 => ?_; have hfn := fin_none (x := x) (y := y) (f := f) (z := jz) (by omega) hle (by omega)
   refine ro [yV (aggV (⟨4, 2, []⟩ : Vl)), yV (aggV (⟨4, 2, []⟩ : Vl)), yV (.bool true), yV _, yV (.bool true), yV _, yV _] 7 131 z q ow (
     aE (fun hk bs hd => xloadN 3 rfl (by kernel_rfl) (by kernel_rfl) (bg bs s11) ((ow.keep hk).box 0 rfl) (Nat.le_of_ble_eq_true rfl) rfl) (congrArg aggV hfn) rfl <|
     aS (fun hk bs hd => xbuild (us := #[(0, .int .u8 4), (1, .int .i64 2)]) rfl (by simp only [List.map_toArray, List.map_cons, List.map_nil]; rfl) (by kernel_rfl)) rfl <|
     aE (fun hk bs hd => xeqv rfl (dp hd 0 rfl) (dp hd 1 rfl)) (congrArg Value.bool (sameV_self _)) rfl <|
     mvD 2 rfl rfl rfl rfl rfl rfl <|
     armC (wg (j := 3) (b := true) rfl rfl rfl) (fun aa ww hk bs hd => xcall0 rfl (en_louvrelaw14_awake _ _)) (fun aa ww hk bs hd => awake14_any ww mx (HM.kept (ow.keep hk).kept)) rfl <|
     aS (fun hk bs hd => xpickT rfl (dp hd 3 rfl) (dp hd 4 rfl)) rfl <|
     asD 5 rfl rfl rfl rfl rfl rfl <|
     arm0) fun fa fw bs hv ap z q ow => ?_
   obtain ⟨s7, s8, s11, s12⟩ := b4 bs s7 s8 s11 s12; have s6 := gv hv 6 rfl rfl; refine wt hK24 ?_; refine wp_ret ?_; refine then_r ?_; refine results_one rfl (res_tmp s6) q ?_; exact ⟨rfl, ow.kept⟩
  refine cf s100 (bor (decide_eq_true_iff) (decide_eq_true_iff)) hc5 ?_; refine wp_skip ?_; refine tn hK22 ?_; refine sq fun hK25 => ?_; have hfv := fin_some (x := x) (y := y) (f := f) (z := jz) hyl (by omega) hle hfz (by omega); have hfb : (first : Int) * 10000 ≤ 1010000 := by have := hfv.2.2.1; omega
  refine ro [yV (aggV (⟨1, (first : Int) * 10000, []⟩ : Vl)), yV _, yV _, yV (aggV (⟨1, (first : Int) * 10000, []⟩ : Vl)), yV (.bool true), yV _, yV _, yV _, yV (aggV (⟨3, 0, y⟩ : Vl)), yV (aggV (⟨1, (first : Int) * 10000, []⟩ : Vl)), yV _, yV (.int .i64 ((x.length : Nat) : Int)), yV _, yV (aggV (⟨1, ((x.length : Nat) : Int) * 10000, []⟩ : Vl)), ySlice fw.heap.size 3 (rowObj [(⟨3, 0, y⟩ : Vl), (⟨1, (first : Int) * 10000, []⟩ : Vl), (⟨1, ((x.length : Nat) : Int) * 10000, []⟩ : Vl)]), yV (aggV (⟨3, 0, x⟩ : Vl)), yV _, yV _, yV (aggV (⟨3, 0, x⟩ : Vl)), yV (.bool true), yV _, yV _, yV (.bool true), yV _, yV _] 25 131 z q ow (
    aE (fun hk bs hd => xloadN 3 rfl (by kernel_rfl) (by kernel_rfl) (bg bs s11) ((ow.keep hk).box 0 rfl) (Nat.le_of_ble_eq_true rfl) rfl) (congrArg aggV hfv.1) rfl <|
    mvS s12 rfl rfl rfl rfl <|
    aS (fun hk bs hd => xmul (Or.inr rfl) rfl (dp hd 1 rfl) rfl (by omega) (by omega)) rfl <|
    aC (fun hk bs hd => xcall1 rfl (dp hd 2 rfl) (en_louvrelaw14_num _ _)) (fun hk bs hd => lnum14_any ((first : Int) * 10000) _) rfl <|
    aE (fun hk bs hd => xeqv rfl (dp hd 0 rfl) (dp hd 3 rfl)) (congrArg Value.bool (sameV_self _)) rfl <|
    mvD 4 rfl rfl rfl rfl rfl rfl <|
    armS (wg (j := 5) (b := true) rfl rfl rfl) (fun aa ww hk bs hd => xmove rfl (bg bs s8)) rfl <|
    armS (wg (j := 5) (b := true) rfl rfl rfl) (fun aa ww hk bs hd => xconvert (u := .slice Ay (((y).map byteV).length) cy) rfl (dp hd 6 rfl) (conv_own (ownB_of ((ow.keep hk).row 1 rfl)))) rfl <|
    armC (wg (j := 5) (b := true) rfl rfl rfl) (fun aa ww hk bs hd => xcall1 rfl (dp hd 7 rfl) (en_louvrelaw14_text _ _)) (fun aa ww hk bs hd => ltext14_any y ww) rfl <|
    armE (wg (j := 5) (b := true) rfl rfl rfl) (fun aa ww hk bs hd => xloadN 3 rfl (by kernel_rfl) (by kernel_rfl) (bg bs s11) ((ow.keep hk).box 0 rfl) (Nat.le_of_ble_eq_true rfl) rfl) (congrArg aggV hfv.1) rfl <|
    armS (wg (j := 5) (b := true) rfl rfl rfl) (fun aa ww hk bs hd => xmove rfl (bg bs s7)) rfl <|
    armE (wg (j := 5) (b := true) rfl rfl rfl) (fun aa ww hk bs hd => xlen Tryd.underlying30 rfl (dp hd 10 rfl)) (congrArg (Value.int .i64) (by rw [List.length_map])) rfl <|
    armS (wg (j := 5) (b := true) rfl rfl rfl) (fun aa ww hk bs hd => xmul (Or.inr rfl) rfl (dp hd 11 rfl) rfl (by omega) (by omega)) rfl <|
    armC (wg (j := 5) (b := true) rfl rfl rfl) (fun aa ww hk bs hd => xcall1 rfl (dp hd 12 rfl) (en_louvrelaw14_num _ _)) (fun aa ww hk bs hd => lnum14_any (((x.length : Nat) : Int) * 10000) ww) rfl <|
    arm (fun aa ww hk bs hd => by
      have d5 := dp hd 5 rfl; have d8 := dp hd 8 rfl; have d9 := dp hd 9 rfl; have d13 := dp hd 13 rfl; exact stepX_new _ (want1 (j := 5) (b := true) rfl d5) (xrow3 rfl (d8) (d9) (d13)) ⟨_, rfl, hk.size, Go.heap_alloc_new _ _⟩ ((Kept.refl _).alloc _) rfl (Nat.le_refl _)
      ) <|
    arm (fun aa ww hk bs hd => by
      have d5 := dp hd 5 rfl; have d14 := dL hd 14 rfl; obtain ⟨g14, e14, _, h14⟩ := d14; exact stepX_enter (want1 (j := 5) (b := true) rfl d5) (xcall2 (u := .int .u8 34) (v := .slice (some ⟨g14, 0, none⟩) 3 3) rfl rfl e14 (en_louvrelaw14_of _ _)) ((of14_eq 34 g14 [(⟨3, 0, y⟩ : Vl), (⟨1, (first : Int) * 10000, []⟩ : Vl), (⟨1, ((x.length : Nat) : Int) * 10000, []⟩ : Vl)] ww mx (HM.kept (ow.keep hk).kept) h14 (smalls3 (small_T hy) (small_num (by omega) (by omega)) (small_num (by omega) (by omega))) (by simp) (mid_piece hy (by omega) hfv.2.1 hfv.2.2.1 hfv.2.2.2)).mono fun _ _ ⟨he, hk2⟩ => ⟨_, he, rfl, hk2⟩) rfl
      ) <|
    armS (wg (j := 5) (b := true) rfl rfl rfl) (fun aa ww hk bs hd => xmove rfl (bg bs s7)) rfl <|
    armS (wg (j := 5) (b := true) rfl rfl rfl) (fun aa ww hk bs hd => xconvert (u := .slice Ax (((x).map byteV).length) cx) rfl (dp hd 16 rfl) (conv_own (ownB_of ((ow.keep hk).row 2 rfl)))) rfl <|
    armC (wg (j := 5) (b := true) rfl rfl rfl) (fun aa ww hk bs hd => xcall1 rfl (dp hd 17 rfl) (en_louvrelaw14_text _ _)) (fun aa ww hk bs hd => ltext14_any x ww) rfl <|
    armE (wg (j := 5) (b := true) rfl rfl rfl) (fun aa ww hk bs hd => xeqv rfl (dp hd 15 rfl) (dp hd 18 rfl)) (congrArg Value.bool (sameV_self _)) rfl <|
    aS (fun hk bs hd => xpickT rfl (dp hd 5 rfl) (dp hd 19 rfl)) rfl <|
    mvD 20 rfl rfl rfl rfl rfl rfl <|
    armC (wg (j := 21) (b := true) rfl rfl rfl) (fun aa ww hk bs hd => xcall0 rfl (en_louvrelaw14_awake _ _)) (fun aa ww hk bs hd => awake14_any ww mx (HM.kept (ow.keep hk).kept)) rfl <|
    aS (fun hk bs hd => xpickT rfl (dp hd 21 rfl) (dp hd 22 rfl)) rfl <|
    asD 23 rfl rfl rfl rfl rfl rfl <|
    arm0) fun fa fw bs hv ap z q ow => ?_
  have s6 := gv hv 24 rfl rfl; refine wt hK25 ?_; refine wp_ret ?_; refine results_one rfl (res_tmp s6) q ?_; exact ⟨rfl, ow.kept⟩
end Go.Proofs.YtbpkfnoenkoabaaDoor
