/- Small texts together: GIter, WDiv, WDec1, WRef1, MDivide, WDivide, WRef2, WSum1, WSum2, WSum3, Ints, Shelf2, WSum4, MAgg3. -/
import Derived.Test.YtbkjdcpfkepheaaGreatDoorVGAgg3
import Derived.RangeFuncNested
import Derived.RangeFuncBound
import Derived.RangeFuncCalls
import Derived.RangeFuncLeaves
import Derived.OwnWalkIn
import Derived.TacticsInMore
import Derived.LoopIn
import Derived.Maps.AppendAt
import Derived.Test.YtbkjdcpfkepheaaGreatDoorProg
import Derived.Test.YtbkjdcpfkepheaaGreatDoorVShelf
import Derived.Test.YtbkjdcpfkepheaaGreatDoorVBunM
import Derived.Test.YtbkjdcpfkepheaaGreatDoorVBunW
import Derived.WalkKit
import Derived.ProofKit
import Derived.Outline
import Derived.Lib.Hide
import Derived.Lib.ItoaNum
import Derived.Deep.QuietTactic
import Derived.BigQuiet
import Derived.Deep.DeepCutAuto
import Derived.Deep.CutBlock
import Derived.Laws.Externs
import Derived.Test.YtbkjdcpfkepheaaGreatDoorVMixAO
set_option linter.unusedVariables false
set_option linter.unusedSimpArgs false
set_option maxHeartbeats 1000000
namespace Go.Proofs.YtbkjdcpfkepheaaGreatDoor
section
open Go.RowKit Lv
set_option maxRecDepth 100000
section
variable {P : Program} {ops : Array Oper} {Q : Exit → Act → World → Prop} {rest : List Oper} {o : Oper} {a : Act} {w : World} {n : Nat}
theorem bq {v : Value} {w' : World} (hw : Region.wanted o (yielded ops a.tmps) = true) (hr : (execOp a.eval o).run P w = .ok (.value v) w') (h : wpListIn Fence.wide n P ops Q rest (a.put o.dst v) w') : wpListIn Fence.wide n P ops Q (o :: rest) a w := by
  unfold wpListIn; rw [if_pos hw]; refine ⟨fun _ _ => trivial, ?_⟩; show Oper.uponIn _ _ _ _ _ _ _ ((Oper.semAt none a.eval o).run P w); rw [Oper.semAt_none, hr]; exact h
theorem iw (hw : Region.wanted o (yielded ops a.tmps) = false) (h : wpListIn Fence.wide n P ops Q rest (a.put o.dst undef) w) : wpListIn Fence.wide n P ops Q (o :: rest) a w := by
  unfold wpListIn; rw [if_neg (by rw [hw]; decide)]; exact ⟨fun _ _ => trivial, h⟩
theorem rD {l : Nat} {args : Array Value} {R : Ending → World → Prop} (hw : Region.wanted o (yielded ops a.tmps) = true) (hr : ∀ r w', (Instr.yield l args).run P w = .ok r w' → (execOp a.eval o).run P w = .ok r w') (hy : YieldAt Fence.wide (n - 1) P l args w R) (h : ∀ e w', R e w' → ∃ v, e = .returned v ∧ wpListIn Fence.wide n P ops Q rest (a.put o.dst v) w') : wpListIn Fence.wide n P ops Q (o :: rest) a w := by
  obtain ⟨fn, tmps, asg, body, hy, hR⟩ := hy; unfold wpListIn; rw [if_pos hw]; refine ⟨fun _ _ => trivial, ?_⟩; show Oper.uponIn _ _ _ _ _ _ _ ((Oper.semAt none a.eval o).run P w); rw [Oper.semAt_none, hr _ _ hy]; refine ⟨fun h => (by cases h), hR.mono fun e w' r => ?_⟩; obtain ⟨v, rfl, k⟩ := h e w' r; exact k
theorem zv {f x : Operand} {ts : Array TypeId} {l : Nat} {u : Value} (ho : o.op = .call { callee := .value f, args := #[x], argTypes := ts }) (hf : a.eval f = .func (.yield l) #[] #[]) (hx : a.eval x = u) : ∀ r w', (Instr.yield l #[u]).run P w = .ok r w' → (execOp a.eval o).run P w = .ok r w' := by
  intro r w' h; unfold execOp; rw [ho]
  simp only [resolve, List.map_toArray, List.map_cons, List.map_nil, hf, hx]
  go_simp
end
theorem sW {w w' : World} (h : Kept w w') : w.grownBy w' none := ⟨h.os, h.tape, h.output, h.size, fun k hk _ => h.block k hk⟩
def KeepsC (n₀ : Nat) (W W' : World) : Prop := Below n₀ W W' ∧ ∀ (k : Nat) (cs : Array Value) (t : TypeId) (r : Nat × Nat), W.heap[k]? = some (Obj.cells cs t r) → t ≠ 2 → t ≠ 54 → W'.heap[k]? = some (Obj.cells cs t r)
theorem yh {n₀ : Nat} {A B C : World} (h : KeepsC n₀ A B) (k : KeepsC n₀ B C) : KeepsC n₀ A C := ⟨h.1.trans k.1, fun i cs t r e h1 h2 => k.2 i cs t r (h.2 i cs t r e h1 h2) h1 h2⟩
theorem yi {n₀ : Nat} {w : World} (hn : n₀ ≤ w.heap.size) (W : World) (l : Nat) (o o' : Obj) (hl : w.heap.size ≤ l) (h : W.heap[l]? = some o) (hc : o.isCells = false) (hw : o.isWalk = false) : KeepsC n₀ W (W.putObj l o') :=
  ⟨belowK_b hn W l o o' hl h hc hw, fun k cs t r e _ _ => by
    have ne : k ≠ l := fun c => by subst c; rw [h] at e; cases e; cases hc
    exact (World.putObj_heap_other ne).trans e⟩
theorem KeepsC.box {n₀ : Nat} {W W' : World} (h : KeepsC n₀ W W') {g : Nat} {t : TypeId} {cs : Array Value} (b : Box W g t cs) (h1 : t ≠ 2) (h2 : t ≠ 54) : Box W' g t cs := h.2 g cs t _ b h1 h2
theorem Box.kept16 {w w' : World} {g : Nat} {t : TypeId} {cs : Array Value} (b : Box w g t cs) (k : Kept w w') : Box w' g t cs := (k.block g b.inside).trans b
theorem dc {β : Type} {B : Nat} {J : β → World → Prop} (h : AbidesFrom B J) {s : β} {w w' : World} (j : J s w) (k : Kept w w') : J s w' := h s w w' none j (sW k) (fun r e => by cases e)
def upE : List Vl → List Vl
  | [] => []
  | v :: l => if isE v then [v] else v :: upE l
theorem Am (v : Vl) (l : List Vl) (h : isE v = false) : aN (v :: l) = aN l := by
  unfold aN; rw [List.find?_cons, h]
theorem eU {l : List Vl} : aN l = none ↔ ∀ v ∈ l, isE v = false := by
  unfold aN; rw [List.find?_eq_none]; exact ⟨fun h v hv => by simpa using h v hv, fun h v hv => by simp [h v hv]⟩
theorem mP : ∀ {l : List Vl}, aN l = none → upE l = l
  | [], _ => rfl
  | v :: l, h => by
    have h' := eU.1 h; unfold upE; rw [if_neg (by rw [h' v List.mem_cons_self]; decide), mP (eU.2 fun u hu => h' u (List.mem_cons_of_mem _ hu))]
theorem vJ : ∀ {p r : List Vl} {v : Vl}, aN p = none → isE v = true → upE (p ++ v :: r) = p ++ [v]
  | [], r, v, _, hv => by
    show (if isE v then [v] else v :: upE r) = [v]; rw [if_pos hv]
  | u :: p, r, v, h, hv => by
    have h' := eU.1 h; show (if isE u then [u] else u :: upE (p ++ v :: r)) = u :: (p ++ [v]); rw [if_neg (by rw [h' u List.mem_cons_self]; decide), vJ (eU.2 fun x hx => h' x (List.mem_cons_of_mem _ hx)) hv]
theorem An {p r : List Vl} {v : Vl} (h : aN p = none) (hv : isE v = true) : aN (p ++ v :: r) = some v := by
  have h' := eU.1 h; unfold aN; rw [List.find?_append, List.find?_eq_none.2 (fun u hu => by simp [h' u hu]), List.find?_cons, hv]
  rfl
theorem kP {p : List Vl} {v : Vl} (h : aN p = none) (hv : isE v = false) : aN (p ++ [v]) = none := eU.2 fun u hu => by
  rcases List.mem_append.1 hu with hu | hu
  · exact eU.1 h u hu
  · rw [List.mem_singleton.1 hu]; exact hv
theorem mo : ∀ {l : List Vl}, aN (upE l) = none → aN l = none
  | [], _ => rfl
  | v :: l, h => by
    unfold upE at h
    split at h
    · rename_i e
      have := eU.1 h v List.mem_cons_self; rw [e] at this; cases this
    · rename_i e
      have h' := eU.1 h; have e' : isE v = false := by simpa using e
      rw [Am v l e']; exact mo (eU.2 fun u hu => h' u (List.mem_cons_of_mem _ hu))
def eE (l : List Cl) : List Vl := (l.map Cl.v).filter (fun v => decide (v.k = 1 ∨ v.k = 4))
theorem rE (a : Ar) (l : List Ar) : aF (a :: l) = rq a ++ aF l := rfl
theorem zw {l : List Ar} {k : Nat} {a : Ar} (h : l[k]? = some a) : aF (l.drop k) = rq a ++ aF (l.drop (k + 1)) := by rw [dJ h, rE]
theorem qm {a : Ar} (h : a.w = false) : rq a = [bB a.v] := by unfold rq; rw [if_neg (by rw [h]; decide)]
theorem ke {a : Ar} (h : a.w = true) : rq a = eE a.l := by unfold rq; rw [if_pos h]; rfl
theorem yj {l : List Cl} {k : Nat} {c : Cl} (h : l[k]? = some c) (hk : c.v.k = 1 ∨ c.v.k = 4) : eE (l.drop k) = c.v :: eE (l.drop (k + 1)) := by
  rw [dJ h]; unfold eE; rw [List.map_cons, List.filter_cons_of_pos (by simpa using hk)]
theorem vK {l : List Cl} {k : Nat} {c : Cl} (h : l[k]? = some c) (hk : ¬ (c.v.k = 1 ∨ c.v.k = 4)) : eE (l.drop k) = eE (l.drop (k + 1)) := by
  rw [dJ h]; unfold eE; rw [List.map_cons, List.filter_cons_of_neg (by simpa using hk)]
theorem yk {l : List Cl} {k : Nat} (h : l.length ≤ k) : eE (l.drop k) = [] := by rw [List.drop_eq_nil_of_le h]; rfl
theorem kQ {p r q : List Vl} {v : Vl} (h : p ++ (v :: r) = q) : p.length < q.length := by rw [← h]; simp
theorem jL {p r q : List Vl} {v : Vl} (h : p ++ (v :: r) = q) : p ++ [v] <+: q := ⟨r, by rw [← h]; simp⟩
def bI (a : Ar) : Prop := Small a.v ∧ ∀ c ∈ a.l, Small c.v
theorem rF {v : Vl} (h : (v.k : Int) = (4 : Int)) : isE v = true := by unfold isE; rw [decide_eq_true_eq]; omega
theorem mQ {v : Vl} (h : ¬ ((v.k : Int) = (4 : Int))) : isE v = false := by unfold isE; rw [decide_eq_false_iff_not]; omega
end

section
open Go.RowKit Lv
def Ci (y : Int) (w : World) (e : Ending) (w' : World) : Prop := ∃ k : Nat, k ≤ 63 ∧ y * 2 ^ k ≤ 18446744073709551615 ∧ 9223372036854775808 ≤ y * 2 ^ k ∧ e = .returned (.int .i64 k) ∧ w = w'
theorem Cj (y : Int) (w : World) (h1 : 0 < y) (h2 : y ≤ 18446744073709551615) : Calls Tryz.prog 190 #[.int .u64 y] w (Ci y w) := by
  obtain ⟨y, rfl⟩ := Int.eq_ofNat_of_zero_le (show 0 ≤ y by omega); refine (Tryz.bits_LeadingZeros64 y w (by omega) (by omega)).mono ?_; rintro e w' ⟨rfl, rfl⟩; obtain ⟨hb1, s3, s1⟩ := Lib.bitLenAux_bounds 64 y (by omega) (by omega); have hb : Lib.bitLen y ≤ 64 := Lib.bitLen_le y 64 (by omega) (by omega)
  change 1 ≤ Lib.bitLen y at hb1
  change 2 ^ (Lib.bitLen y - 1) ≤ y at s3
  change y < 2 ^ Lib.bitLen y at s1
  have e1 : (2 : Nat) ^ Lib.bitLen y * 2 ^ (64 - Lib.bitLen y) = 18446744073709551616 := by rw [← Nat.pow_add, show Lib.bitLen y + (64 - Lib.bitLen y) = 64 from by omega]
  have e2 : (2 : Nat) ^ (Lib.bitLen y - 1) * 2 ^ (64 - Lib.bitLen y) = 9223372036854775808 := by rw [← Nat.pow_add, show Lib.bitLen y - 1 + (64 - Lib.bitLen y) = 63 from by omega]
  have f1 := (Nat.mul_lt_mul_right (Nat.two_pow_pos (64 - Lib.bitLen y))).2 s1; have f2 := Nat.mul_le_mul_right (2 ^ (64 - Lib.bitLen y)) s3; have e3 : ((y * 2 ^ (64 - Lib.bitLen y) : Nat) : Int) = (y : Int) * 2 ^ (64 - Lib.bitLen y) := by simp
  refine ⟨64 - Lib.bitLen y, by omega, by rw [← e3]; omega, by rw [← e3]; omega, ?_, rfl⟩
  simp only [Ending.returned.injEq, Value.int.injEq, true_and]
  rw [Int.toNat_natCast]
  omega
structure Prep (hi lo y v a b hs ls u t u1 u0 q : Int) (k : Nat) : Prop where
  v_ : y * 2 ^ k = v
  a_ : v / 4294967296 = a
  b_ : bits .and .u64 v 4294967295 = b
  hs_ : IntKind.u64.wrap (hi * 2 ^ k) = hs
  ls_ : lo / 2 ^ (64 - k) = ls
  u_ : bits .or .u64 hs ls = u
  t_ : IntKind.u64.wrap (lo * 2 ^ k) = t
  u1_ : t / 4294967296 = u1
  u0_ : bits .and .u64 t 4294967295 = u0
  q_ : u / a = q
  d : Digit u u1 a b v
  t0 : 0 ≤ t
  t1 : t ≤ 18446744073709551615
  w0 : 0 ≤ u0
  w1 : u0 < 4294967296
  tt : t = u1 * 4294967296 + u0
  whole : (hi * 18446744073709551616 + lo) * 2 ^ k = u * 18446744073709551616 + t
theorem D5 (hi lo y : Int) (k : Nat) (h0 : 0 < hi) (h1 : hi < y) (h3 : 0 ≤ lo) (h4 : lo ≤ 18446744073709551615) (k1 : k ≤ 63) (k2 : y * 2 ^ k ≤ 18446744073709551615) (k3 : 9223372036854775808 ≤ y * 2 ^ k) :
    ∃ v a b hs ls u t u1 u0 q : Int, Prep hi lo y v a b hs ls u t u1 u0 q k := by
  obtain ⟨hi, rfl⟩ := Int.eq_ofNat_of_zero_le (show 0 ≤ hi by omega); obtain ⟨lo, rfl⟩ := Int.eq_ofNat_of_zero_le (show 0 ≤ lo by omega); obtain ⟨y, rfl⟩ := Int.eq_ofNat_of_zero_le (show 0 ≤ y by omega)
  have g1 : hi * 2 ^ k + 2 ^ k ≤ y * 2 ^ k := by
    have := Nat.mul_le_mul_right (2 ^ k) (show hi + 1 ≤ y by omega); rw [Nat.add_mul] at this; omega
  have g2 : lo / 2 ^ (64 - k) < 2 ^ k := BP lo k (by omega) (by omega); have g3 := pF hi lo k (by omega); have p1 : ((2 ^ k : Nat) : Int) = 2 ^ k := by simp
  have p2 : ((2 ^ (64 - k) : Nat) : Int) = 2 ^ (64 - k) := by simp
  rw [← p1] at k2 k3; have g4 := fun h => BO hi k (lo / 2 ^ (64 - k)) g2 h; refine ⟨_, _, _, _, _, _, _, _, _, _, ⟨rfl, rfl, rfl, rfl, rfl, rfl, rfl, rfl, rfl, rfl, ?_, ?_, ?_, ?_, ?_, ?_, ?_⟩⟩
  all_goals simp only [← p1, ← p2]
  all_goals clear p1 p2 k1
  all_goals generalize 2 ^ k = p at *
  all_goals generalize 2 ^ (64 - k) = p' at *
  all_goals have e1 : (y : Int) * (p : Int) = ((y * p : Nat) : Int) := by simp
  all_goals have e2 : (hi : Int) * (p : Int) = ((hi * p : Nat) : Int) := by simp
  all_goals have e3 : (lo : Int) * (p : Int) = ((lo * p : Nat) : Int) := by simp
  all_goals have e4 : (lo : Int) / (p' : Int) = ((lo / p' : Nat) : Int) := by simp
  all_goals have e5 : ((hi : Int) * 18446744073709551616 + lo) * p = (((hi * 18446744073709551616 + lo) * p : Nat) : Int) := by simp
  all_goals rw [e1] at k2 k3
  all_goals have g5 := g4 (by omega)
  all_goals have hs : IntKind.u64.wrap ((hi * p : Nat) : Int) = ((hi * p : Nat) : Int) := zL _ (by omega) (by omega)
  all_goals have ht : IntKind.u64.wrap ((lo * p : Nat) : Int) = ((lo * p % 18446744073709551616 : Nat) : Int) := by rw [mC]; simp
  all_goals have t1 : lo * p % 18446744073709551616 < 18446744073709551616 := Nat.mod_lt _ (by omega)
  all_goals have a1 := zb ((y * p : Nat) : Int) (by omega) (by omega)
  all_goals have a2 := zb ((lo * p % 18446744073709551616 : Nat) : Int) (by omega) (by omega)
  all_goals clear g4
  all_goals simp only [e1, e2, e3, e4, e5, hs, ht, g5, a1, a2, g3]
  all_goals clear e1 e2 e3 e4 e5 hs ht g5 a1 a2 g3
  all_goals generalize lo * p % 18446744073709551616 = t at *
  all_goals generalize y * p = v at *
  all_goals generalize lo / p' = l at *
  all_goals generalize hi * p = h at *
  · exact ⟨by omega, by omega, by omega, by omega, by omega, by omega, by omega, by omega, by omega⟩
  all_goals omega
theorem Lv.Digit.second {u u1 a b v u0 : Int} (d : Digit u u1 a b v) (w0 : 0 ≤ u0) (w1 : u0 < 4294967296) : Digit ((u * 4294967296 + u1) % v) u0 a b v := by
  have h2 := Int.emod_lt_of_pos (u * 4294967296 + u1) (b := v) (by have := d.uv; have := d.u0; omega); have h3 := Int.emod_nonneg (u * 4294967296 + u1) (b := v) (by have := d.uv; have := d.u0; omega); exact ⟨h3, h2, w0, w1, d.a0, d.a1, d.b0, d.b1, d.hv⟩
theorem Lv.Digit.ge {u u1 a b v : Int} (d : Digit u u1 a b v) : 0 ≤ (u * 4294967296 + u1) / v := Int.ediv_nonneg (by have := d.u0; have := d.l0; omega) (by have := d.uv; have := d.u0; omega)
theorem Prep.final {hi lo y v a b hs ls u t u1 u0 q : Int} {k : Nat} (P : Prep hi lo y v a b hs ls u t u1 u0 q k) (d : Digit u u1 a b v) (d2 : Digit ((u * 4294967296 + u1) % v) u0 a b v) :
    (hi * 18446744073709551616 + lo) / y = (u * 4294967296 + u1) / v * 4294967296 + ((u * 4294967296 + u1) % v * 4294967296 + u0) / v ∧
    (hi * 18446744073709551616 + lo) % y = ((u * 4294967296 + u1) % v * 4294967296 + u0) % v / 2 ^ k ∧
    0 ≤ ((u * 4294967296 + u1) % v * 4294967296 + u0) % v := by
  have h1 := Int.mul_ediv_add_emod (u * 4294967296 + u1) v; have h2 := Int.mul_ediv_add_emod ((u * 4294967296 + u1) % v * 4294967296 + u0) v; have vpos : 0 < v := by have := d.uv; have := d.u0; omega
  have h3 := Int.emod_lt_of_pos ((u * 4294967296 + u1) % v * 4294967296 + u0) (b := v) vpos; have h4 := Int.emod_nonneg ((u * 4294967296 + u1) % v * 4294967296 + u0) (b := v) (by omega); generalize (u * 4294967296 + u1) / v = q1 at *; generalize (u * 4294967296 + u1) % v = r1 at *; generalize (r1 * 4294967296 + u0) / v = q2 at *; generalize (r1 * 4294967296 + u0) % v = r2 at *; have hw := P.whole; have htt := P.tt; have hv := P.v_; have pp : (0 : Int) < 2 ^ k := Int.pow_pos (by omega); generalize (2 : Int) ^ k = p at *; generalize hi * 18446744073709551616 + lo = n at *
  have e1 : n * p = (q1 * 4294967296 + q2) * v + r2 := by
    rw [hw, htt]; grind
  have ypos : 0 < y := by
    by_cases c : 0 < y
    · exact c
    · have := Int.mul_le_mul_of_nonneg_right (show y ≤ 0 by omega) (show 0 ≤ p by omega)
      omega
  subst hv; have e2 : n * p / (y * p) = n / y := Int.mul_ediv_mul_of_pos_left n y pp
  have e3 : n * p / (y * p) = q1 * 4294967296 + q2 := by
    rw [e1, Int.add_comm, Int.add_mul_ediv_right _ _ (by omega), Int.ediv_eq_zero_of_lt h4 h3]; omega
  have e4 : n * p % (y * p) = n % y * p := by rw [Int.mul_comm n, Int.mul_comm y, Int.mul_emod_mul_of_pos n y pp, Int.mul_comm]
  have e5 : n * p % (y * p) = r2 := by
    rw [e1, Int.add_comm, Int.add_mul_emod_self_right, Int.emod_eq_of_lt h4 h3]
  refine ⟨by omega, ?_, h4⟩; rw [← e5, e4, Int.mul_ediv_cancel _ (by omega)]
theorem Ao (hi lo y : Int) (w : World) (h0 : 0 < hi) (h1 : hi < y) (h2 : y ≤ 18446744073709551615) (h3 : 0 ≤ lo) (h4 : lo ≤ 18446744073709551615) :
    Calls Tryz.prog 180 #[.int .u64 hi, .int .u64 lo, .int .u64 y] w fun e w' => e = .returned (.tuple #[.int .u64 ((hi * 18446744073709551616 + lo) / y), .int .u64 ((hi * 18446744073709551616 + lo) % y)]) ∧ w = w' := by
  go_enter Tryz.func180, Tryz.ntmps180; go_wp2_with fail; refine (Cj _ _ (by omega) (by omega)).mono ?_; rintro e w' ⟨k, hk1, hk2, hk3, rfl, rfl⟩; obtain ⟨v, a, b, hs, ls, u, t, u1, u0, q, P⟩ := D5 hi lo y k h0 h1 h3 h4 hk1 hk2 hk3; have v_ := P.v_; have a_ := P.a_; have b_ := P.b_; have hs_ := P.hs_; have ls_ := P.ls_; have u_ := P.u_; have t_ := P.t_; have u1_ := P.u1_; have u0_ := P.u0_; have q_ := P.q_; have d := P.d; have dq := d.qa; have g0 := d.start; rw [q_] at dq g0; obtain ⟨dq1, dq2, dq3, dq4, dq5, dq6⟩ := dq; have du0 := d.u0; have duv := d.uv; have dl0 := d.l0; have dl1 := d.l1; have da0 := d.a0; have da1 := d.a1; have db0 := d.b0; have db1 := d.b1; have dv1 : v ≤ 18446744073709551615 := by rw [← v_]; omega
  have dv0 : 9223372036854775808 ≤ v := by rw [← v_]; omega
  have t0 := P.t0; have t1 := P.t1; have w0 := P.w0; have w1 := P.w1; have hwhole := Lib.hid P.whole; have htt := Lib.hid P.tt; have hv_ := Lib.hid v_
  go_upto_block 0 with fail
  clear v_ a_ b_ hs_ ls_ u_ t_ u1_ u0_ q_
  go_cut [15] (fun x wx => x = .int .u64 ((u * 4294967296 + u1) / v) ∧ w = wx)
  case first =>
    go_wp2_with fail
    go_loop [15, 16] (fun x z => ∃ Q R : Int, Guess u u1 a v Q R ∧ R < 4294967296 ∧ x = .int .u64 Q ∧ z = .int .u64 R) (fun x _ => (intOf x).toNat)
    case atStart => exact ⟨u / a, u - u / a * a, d.start, by have := d.qa; omega, rfl, by rw [P.q_]⟩
    case round =>
      obtain ⟨Q, R, g, hR, rfl, rfl⟩ := hrel; have gb := g.bounds d; obtain ⟨gb1, gb2⟩ := gb; have gs := g; obtain ⟨gs1, gs2, gs3, gs4, gs5⟩ := gs; clear gs4 g0 P
      by_cases c : 4294967296 ≤ Q ∨ 4294967296 * R + u1 < Q * b
      · have gl := g.less d c
        obtain ⟨gl1, gl2⟩ := gl; have Hgl2 := Lib.hid gl2; clear gl2 g
        by_cases c1 : 4294967296 ≤ Q
        · by_cases c2 : 4294967296 ≤ R + a
          · go_wp2_with fail
            go_meet
            exact ⟨by rw [Hgl2.out.past d (by omega) c2], rfl⟩
          · go_wp2_with fail
            go_round
            case rel => exact ⟨Q - 1, R + a, Hgl2.out, by omega, rfl, rfl⟩
            case measure => simp [intOf]; omega
        · by_cases c2 : 4294967296 ≤ R + a
          · go_wp2_with fail
            go_meet
            exact ⟨by rw [Hgl2.out.past d (by omega) c2], rfl⟩
          · go_wp2_with fail
            go_round
            case rel => exact ⟨Q - 1, R + a, Hgl2.out, by omega, rfl, rfl⟩
            case measure => simp [intOf]; omega
      · have Hg := Lib.hid g
        clear g; go_wp2_with fail
        go_meet
        exact ⟨by rw [Hg.out.done d (by omega)], rfl⟩
  case rest =>
    obtain ⟨rfl, rfl⟩ := hcut; have d2 := d.second P.w0 P.w1; have hfin := P.final d d2; have hr := Lib.hid (d.rest dv1); have hr2 := Lib.hid (d2.rest dv1); have dlt := d.lt; have dge := d.ge; have dlt2 := d2.lt; have dge2 := d2.ge; clear P g0 d; generalize (u * 4294967296 + u1) / v = q1 at *; generalize (u * 4294967296 + u1) % v = r1 at *; have d2q := d2.qa; have d2s := d2.start; obtain ⟨e1, e2, e3, e4, e5, e6⟩ := d2q; have hr' := hr.out; have z0 := d2.u0; have z1 := d2.uv
    go_upto_block 2 with fail
    clear hr'
    go_cut [18] (fun x wx => x = .int .u64 ((r1 * 4294967296 + u0) / v) ∧ w = wx)
    case first =>
      go_wp2_with fail
      go_loop [18, 16] (fun x z => ∃ Q R : Int, Guess r1 u0 a v Q R ∧ R < 4294967296 ∧ x = .int .u64 Q ∧ z = .int .u64 R) (fun x _ => (intOf x).toNat)
      case atStart => exact ⟨r1 / a, r1 - r1 / a * a, d2.start, by have := d2.qa; omega, rfl, rfl⟩
      case round =>
        obtain ⟨Q, R, g, hR, rfl, rfl⟩ := hrel; have gb := g.bounds d2; obtain ⟨gb1, gb2⟩ := gb; have gs := g; obtain ⟨gs1, gs2, gs3, gs4, gs5⟩ := gs; clear gs4 d2s
        by_cases c : 4294967296 ≤ Q ∨ 4294967296 * R + u0 < Q * b
        · have gl := g.less d2 c
          obtain ⟨gl1, gl2⟩ := gl; have Hgl2 := Lib.hid gl2; clear gl2 g
          by_cases c1 : 4294967296 ≤ Q
          · by_cases c2 : 4294967296 ≤ R + a
            · go_wp2_with fail
              go_meet
              exact ⟨by rw [Hgl2.out.past d2 (by omega) c2], rfl⟩
            · go_wp2_with fail
              go_round
              case rel => exact ⟨Q - 1, R + a, Hgl2.out, by omega, rfl, rfl⟩
              case measure => simp [intOf]; omega
          · by_cases c2 : 4294967296 ≤ R + a
            · go_wp2_with fail
              go_meet
              exact ⟨by rw [Hgl2.out.past d2 (by omega) c2], rfl⟩
            · go_wp2_with fail
              go_round
              case rel => exact ⟨Q - 1, R + a, Hgl2.out, by omega, rfl, rfl⟩
              case measure => simp [intOf]; omega
        · have Hg := Lib.hid g
          clear g; go_wp2_with fail
          go_meet
          exact ⟨by rw [Hg.out.done d2 (by omega)], rfl⟩
    case rest =>
      obtain ⟨rfl, rfl⟩ := hcut; generalize (r1 * 4294967296 + u0) / v = q2 at *; generalize (r1 * 4294967296 + u0) % v = r2 at *; have hr2' := hr2.out; obtain ⟨hf1, hf2, hf3⟩ := hfin; have Hf1 := Lib.hid hf1; have Hf2 := Lib.hid hf2; clear hf1 hf2; go_wp2_with fail; go_ret2; exact ⟨ay Hf1.out.symm Hf2.out.symm, rfl⟩
end

section
open Go.RowKit Lv
theorem vL (lo y : Int) (w : World) (h1 : 0 < y) (h2 : y ≤ 18446744073709551615) (h3 : 0 ≤ lo) (h4 : lo ≤ 18446744073709551615) :
    Calls Tryz.prog 180 #[.int .u64 0, .int .u64 lo, .int .u64 y] w fun e w' => e = .returned (.tuple #[.int .u64 (lo / y), .int .u64 (lo % y)]) ∧ ∃ n, w' = w.drewN n := by
  have b1 : 0 ≤ lo / y := Int.ediv_nonneg h3 (by omega); have b2 : lo / y ≤ lo := Int.ediv_le_self y h3; have b3 := Int.emod_nonneg lo (b := y) (by omega); have b4 := Int.emod_lt_of_pos lo h1; have c : (y == 0) = false := beq_eq_false_iff_ne.2 (by omega); go_enter Tryz.func180, Tryz.ntmps180; go_wp2_with fail
  go_quiet (fail)
  go_wp2; go_ret2; exact ⟨rfl, _, rfl⟩
theorem Ap (hi lo y : Int) (w : World) (h : u64 hi) (h1 : hi < y) (h2 : y ≤ 18446744073709551615) (h' : u64 lo) :
    Calls Tryz.prog 180 #[.int .u64 hi, .int .u64 lo, .int .u64 y] w fun e w' => e = .returned (.tuple #[.int .u64 ((hi * 18446744073709551616 + lo) / y), .int .u64 ((hi * 18446744073709551616 + lo) % y)]) ∧ ∃ n, w' = w.drewN n := by
  obtain ⟨h3, h4⟩ := h'
  by_cases c : hi = 0
  · subst c
    rw [show 0 * 18446744073709551616 + lo = lo by omega]; exact vL lo y w (by omega) h2 h3 h4
  · refine (Ao hi lo y w (by have := h.1; omega) h1 h2 h3 h4).mono ?_
    rintro e w' ⟨he, rfl⟩; exact ⟨he, 0, rfl⟩
theorem kR (hi lo d : Int) (w : World) (h : u64 hi) (h' : u64 lo) (hd : u64 d) :
    Calls Tryz.prog 159 #[.int .u64 hi, .int .u64 lo, .int .u64 d] w fun e w' => e = .returned (.tuple #[.int .u64 (xi (hi * 18446744073709551616 + lo) d).1, .bool (xi (hi * 18446744073709551616 + lo) d).2]) ∧ ∃ n, w' = w.drewN n := by
  obtain ⟨d1, d2⟩ := hd
  by_cases c : d = 0
  · subst c
    rw [show xi (hi * 18446744073709551616 + lo) 0 = (0, false) from if_neg (by simp)]; go_enter Tryz.func159, Tryz.ntmps159; go_wp2; go_ret2; exact ⟨rfl, 0, rfl⟩
  · obtain ⟨h1, h2⟩ := h
    have c' : (d == 0) = false := beq_eq_false_iff_ne.2 c
    by_cases c2 : d ≤ hi
    · have e1 : xi (hi * 18446744073709551616 + lo) d = (0, false) := by
        refine if_neg ?_; have := h'.1
        have h5 : 18446744073709551616 ≤ (hi * 18446744073709551616 + lo) / d := by
          rw [Int.le_ediv_iff_mul_le (by omega)]; omega
        omega
      have E := Lib.hid e1; clear e1; go_enter Tryz.func159, Tryz.ntmps159; go_wp2; go_ret2; exact ⟨sn E.out, 0, rfl⟩
    · have hx0 : 0 ≤ hi * 18446744073709551616 + lo := by have := h'.1; omega
      have b1 : 0 ≤ (hi * 18446744073709551616 + lo) / d := Int.ediv_nonneg hx0 (by omega)
      have b2 : (hi * 18446744073709551616 + lo) / d ≤ 18446744073709551615 := by
        have : (hi * 18446744073709551616 + lo) / d < 18446744073709551616 := Int.ediv_lt_of_lt_mul (by omega) (by have := h'.2; omega)
        omega
      have b3 := Int.emod_nonneg (hi * 18446744073709551616 + lo) (b := d) (by omega); have b4 := Int.emod_lt_of_pos (hi * 18446744073709551616 + lo) (b := d) (by omega); have E := Lib.hid (show xi (hi * 18446744073709551616 + lo) d = if d ≠ 0 ∧ (hi * 18446744073709551616 + lo) / d ≤ 9223372036854775807 then (rnd (hi * 18446744073709551616 + lo) d, true) else (0, false) from rfl); have R := Lib.hid (show rnd (hi * 18446744073709551616 + lo) d = (hi * 18446744073709551616 + lo) / d + if d ≤ 2 * ((hi * 18446744073709551616 + lo) % d) then 1 else 0 from rfl); have D := Lib.hid (Ap hi lo d w ⟨h1, h2⟩ (by omega) d2 h'); generalize xi (hi * 18446744073709551616 + lo) d = N at *; generalize rnd (hi * 18446744073709551616 + lo) d = N2 at *; clear h'; generalize (hi * 18446744073709551616 + lo) / d = q at *; generalize (hi * 18446744073709551616 + lo) % d = r at *
      by_cases c3 : 9223372036854775807 < q
      · go_enter Tryz.func159, Tryz.ntmps159
        go_wp2_with (go_at_call 180; refine D.out.mono ?_; rintro e w' ⟨rfl, n, rfl⟩); go_ret2; exact ⟨sn (by rw [E.out, if_neg (by omega)]), _, rfl⟩
      · by_cases c4 : d - r ≤ r
        · go_enter Tryz.func159, Tryz.ntmps159
          go_wp2_with (go_at_call 180; refine D.out.mono ?_; rintro e w' ⟨rfl, n, rfl⟩); go_ret2; exact ⟨sn (by rw [E.out, R.out, if_pos (by omega), if_pos (by omega)]), _, rfl⟩
        · go_enter Tryz.func159, Tryz.ntmps159
          go_wp2_with (go_at_call 180; refine D.out.mono ?_; rintro e w' ⟨rfl, n, rfl⟩); go_ret2; exact ⟨sn (by rw [E.out, R.out, if_pos (by omega), if_neg (by omega)]; simp), _, rfl⟩
theorem sX (a b d : Int) (ng : Bool) (w : World) (h : u64 a) (h' : u64 b) (hd : u64 d) :
    Calls Tryz.prog 157 #[.int .u64 a, .int .u64 b, .int .u64 d, .bool ng] w fun e w' => e = .returned (.tuple #[.int .i64 (lL a b d ng).1, .bool (lL a b d ng).2]) ∧ ∃ n, w' = w.drewN n := by
  obtain ⟨a, rfl⟩ := Int.eq_ofNat_of_zero_le h.1; obtain ⟨b, rfl⟩ := Int.eq_ofNat_of_zero_le h'.1; have ha := h.2; have hb := h'.2; have M := Lib.hid (Tryz.bits_Mul64 a b (by omega) (by omega) w)
  have hlt : a * b / 18446744073709551616 < 18446744073709551616 := by
    rw [Nat.div_lt_iff_lt_mul (by omega)]; exact Nat.mul_lt_mul_of_le_of_lt (show a ≤ 18446744073709551616 by omega) (by omega) (by omega)
  have hlo : a * b % 18446744073709551616 < 18446744073709551616 := Nat.mod_lt _ (by omega)
  have hsplit : ((a * b / 18446744073709551616 : Nat) : Int) * 18446744073709551616 + ((a * b % 18446744073709551616 : Nat) : Int) = (a : Int) * (b : Int) := by
    rw [← Int.natCast_mul]; omega
  have S := Lib.hid (show lL a b d ng = if d = 0 then (0, false) else fit (sg ng (rnd ((a : Int) * b) d)) from rfl); generalize lL a b d ng = Z at *; rw [← hsplit] at S; clear hsplit; generalize a * b / 18446744073709551616 = hi at *; generalize a * b % 18446744073709551616 = lo at *; have NE := fun w => kR hi lo d w ⟨by omega, by omega⟩ ⟨by omega, by omega⟩ hd; generalize hx : (hi : Int) * 18446744073709551616 + (lo : Int) = x at *; have hx0 : 0 ≤ x := by omega
  clear hx; have d1 := hd.1; have hd2 := hd.2
  by_cases c : d ≠ 0 ∧ x / d ≤ 9223372036854775807
  · have e1 : xi x d = (rnd x d, true) := if_pos c
    have q0 : 0 ≤ x / d := Int.ediv_nonneg hx0 d1; have rb := gD x d; have SG := fun w => cU 0 (rnd x d) ng w ⟨by omega, by omega⟩ ⟨by omega, by omega⟩; have HN := Lib.hid NE; have HS := Lib.hid SG; have E := Lib.hid e1; clear NE SG e1 rb q0; rw [if_neg c.1] at S; clear c h h' hd; rw [E.out] at HN; go_enter Tryz.func157, Tryz.ntmps157; go_wp2_with fail; refine M.out.mono ?_; rintro e w' ⟨rfl, rfl⟩; go_wp2_with fail; refine (HN.out _).mono ?_; rintro e w' ⟨rfl, n, rfl⟩; go_wp2_with fail; refine (HS.out _).mono ?_; rintro e w' ⟨rfl, rfl⟩; go_wp2_with fail; go_ret2; exact ⟨sn (by rw [S.out]), _, rfl⟩
  · have e1 : xi x d = (0, false) := if_neg c
    have HN := Lib.hid NE; have E := Lib.hid e1
    have e2 : (if d = 0 then (0, false) else fit (sg ng (rnd x d))) = ((0 : Int), false) := by
      by_cases c2 : d = 0
      · rw [if_pos c2]
      · rw [if_neg c2]
        have rb := gD x d; refine dt ?_
        cases ng <;> simp only [sg] <;> simp <;> omega
    rw [e2] at S; clear NE e1 e2 c h h' hd; rw [E.out] at HN; go_enter Tryz.func157, Tryz.ntmps157; go_wp2_with fail; refine M.out.mono ?_; rintro e w' ⟨rfl, rfl⟩; go_wp2_with fail; refine (HN.out _).mono ?_; rintro e w' ⟨rfl, n, rfl⟩; go_wp2_with fail; go_ret2; exact ⟨sn S.out, _, rfl⟩
theorem Aq (a b : Int) (w : World) (h : i64 a) (h' : i64 b) : Calls Tryz.prog 133 #[.int .i64 a, .int .i64 b] w fun e w' => e = .returned (.tuple #[.int .i64 (mB a b).1, .bool (mB a b).2]) ∧ ∃ n, w' = w.drewN n := by
  have hs : lL (Lv.abs a) (Lv.abs b) 10000 (decide (a < 0) != decide (b < 0)) = mB a b := by
    unfold mB lL; rw [if_neg (by omega)]; rfl
  have S := fun w => sX (Lv.abs a) (Lv.abs b) 10000 (decide (a < 0) != decide (b < 0)) w (ga h) (ga h') ⟨by omega, by omega⟩; rw [hs] at S; have HS := Lib.hid S; have Z := Lib.hid (fun w => jY a w h); have Z2 := Lib.hid (fun w => jY b w h'); clear S hs; obtain ⟨h1, h2⟩ := h; go_enter Tryz.func133, Tryz.ntmps133; go_wp2_with fail; refine (Z.out _).mono ?_; rintro e w' ⟨rfl, rfl⟩; go_wp2_with fail; refine (Z2.out _).mono ?_; rintro e w' ⟨rfl, rfl⟩; go_wp2_with fail; refine (HS.out _).mono ?_; rintro e w' ⟨rfl, n, rfl⟩; go_wp2_with fail; go_ret2; exact ⟨rfl, _, rfl⟩
end

section
open Go.RowKit Lv
end

namespace Lv
open Go
structure Bits (X T Y : Int) (k : Nat) : Prop where
  le : k ≤ 128
  e : X * 2 ^ k = T * 340282366920938463463374607431768211456 + Y
  t0 : 0 ≤ T
  y0 : 0 ≤ Y
  y1 : Y < 340282366920938463463374607431768211456
theorem Bits.start {X : Int} (h : 0 ≤ X) (g : X < 340282366920938463463374607431768211456) : Bits X 0 X 0 := ⟨by omega, by simp, by omega, h, g⟩
theorem Bits.done {X T Y : Int} (b : Bits X T Y 128) : T = X := by
  obtain ⟨h1, h2, h3, h4, h5⟩ := b; have h8 : (2 : Int) ^ 128 = 340282366920938463463374607431768211456 := by decide
  rw [h8] at h2
  omega
end Lv

section
open Go.RowKit Lv
end

section
open Go.RowKit Lv
end

section
open Go.RowKit Lv
def rG : Array Value → Sem Value := fun args => do
  let (x, y, b) ← Extern.MathBitsCarry.three "Sub64" args
  pure (Extern.MathBitsCarry.pair ((x + Extern.MathBitsCarry.m64 - y - b) % Extern.MathBitsCarry.m64) (if x < y + b then 1 else 0))
theorem qn (x y b : Nat) (hb : b ≤ 1) (w : World) :
    (rG #[.int .u64 x, .int .u64 y, .int .u64 b]).run Tryz.prog w =
      .ok (.tuple #[.int .u64 (((x + 18446744073709551616 - y - b) % 18446744073709551616 : Nat) : Int), .int .u64 ((if x < y + b then 1 else 0 : Nat) : Int)]) w := by
  have : b = 0 ∨ b = 1 := by omega
  rcases this with rfl | rfl <;> rfl
theorem vM (x y c : Int) (h : u64 x) (h' : u64 y) (c0 : 0 ≤ c) (c1 : c ≤ 1) (w : World) :
    (callFunc 189 #[.int .u64 x, .int .u64 y, .int .u64 c]).run Tryz.prog w = .ok (.value (.tuple #[.int .u64 ((x + y + c) % 18446744073709551616), .int .u64 ((x + y + c) / 18446744073709551616)])) w := by
  rw [run_callFunc_extern Tryz.func189 (by kernel_rfl) (by kernel_rfl) (by kernel_rfl) (e := add64Entry) (by kernel_rfl), run_add64 x y c h.1 h'.1 c0 c1]
  rfl
theorem Au (x y b : Int) (h : u64 x) (h' : u64 y) (b0 : 0 ≤ b) (b1 : b ≤ 1) (w : World) :
    (callFunc 178 #[.int .u64 x, .int .u64 y, .int .u64 b]).run Tryz.prog w = .ok (.value (.tuple #[.int .u64 ((x - y - b) % 18446744073709551616), .int .u64 (if x < y + b then 1 else 0)])) w := by
  obtain ⟨x, rfl⟩ := Int.eq_ofNat_of_zero_le h.1; obtain ⟨y, rfl⟩ := Int.eq_ofNat_of_zero_le h'.1; obtain ⟨b, rfl⟩ := Int.eq_ofNat_of_zero_le b0; rw [run_callFunc_extern Tryz.func178 (by kernel_rfl) (by kernel_rfl) (by kernel_rfl) (e := rG) (by kernel_rfl), qn x y b (by omega)]; have h2 := h'.2; have e1 : (((x + 18446744073709551616 - y - b) % 18446744073709551616 : Nat) : Int) = ((x : Int) - y - b) % 18446744073709551616 := by omega
  have e2 : ((if x < y + b then 1 else 0 : Nat) : Int) = if (x : Int) < y + b then 1 else 0 := by
    by_cases c : x < y + b
    · rw [if_pos c, if_pos (by omega)]; rfl
    · rw [if_neg c, if_neg (by omega)]; rfl
  rw [e1, e2]
  rfl
theorem Ck (h0 h1 l0 l1 a : Int) (g : Nat) (w : World) (ha : i64 a) (hb : Box w g 194 #[.int .u64 h0, .int .u64 h1, .int .u64 l0, .int .u64 l1]) (uh : u64 h0) (ul : u64 l0) (c : 0 ≤ a) (hc : h0 < 18446744073709551615) :
    Calls Tryz.prog 177 #[.pointer (some ⟨g, 0, none⟩), .int .i64 a, .bool false] w fun e w' => e = .returned (.tuple #[]) ∧ Only g w w' ∧
      Box w' g 194 #[.int .u64 (h0 + (l0 + Lv.abs a) / 18446744073709551616), .int .u64 h1, .int .u64 ((l0 + Lv.abs a) % 18446744073709551616), .int .u64 l1] := by
  have hA := vM l0 (Lv.abs a) 0 ul (ga ha) (by omega) (by omega); rw [show l0 + Lv.abs a + 0 = l0 + Lv.abs a by omega] at hA; have hs := fun w => jY a w ha; have b0 : w.cell? ⟨g, 0, none⟩ = some (.int .u64 h0) := hb.cell 0; have b1 : w.cell? ⟨g, 1, none⟩ = some (.int .u64 h1) := hb.cell 1; have b2 : w.cell? ⟨g, 2, none⟩ = some (.int .u64 l0) := hb.cell 2; have b3 : w.cell? ⟨g, 3, none⟩ = some (.int .u64 l1) := hb.cell 3; have f0 := hb.loose 0; have f1 := hb.loose 1; have f2 := hb.loose 2; have f3 := hb.loose 3; have HB := Lib.hid hb; clear hb; go_enter Tryz.func177, Tryz.ntmps177; go_wp2_with fail
  go_quiet ((go_at_call 158; first | exact lQ (hs _) | exact fR (hs _)))
  have au := ga ha; obtain ⟨au1, au2⟩ := au; obtain ⟨uh1, uh2⟩ := uh; obtain ⟨ul1, ul2⟩ := ul; have k0 : 0 ≤ (l0 + Lv.abs a) / 18446744073709551616 := by omega
  have k1 : (l0 + Lv.abs a) / 18446744073709551616 ≤ 1 := by omega
  go_wp2_with fail
  go_region
  go_end0
  have hb := HB.out; exact ⟨rfl, by repeat (first | with_reducible exact Only.refl _ _ | with_reducible apply Only.drew | with_reducible apply Only.drewN | with_reducible apply Only.setCell), bxd⟩
theorem Cm (h0 h1 l0 l1 a : Int) (g : Nat) (w : World) (ha : i64 a) (hb : Box w g 194 #[.int .u64 h0, .int .u64 h1, .int .u64 l0, .int .u64 l1]) (uh : u64 h1) (ul : u64 l1) (c : a < 0) (hc : h1 < 18446744073709551615) :
    Calls Tryz.prog 177 #[.pointer (some ⟨g, 0, none⟩), .int .i64 a, .bool false] w fun e w' => e = .returned (.tuple #[]) ∧ Only g w w' ∧
      Box w' g 194 #[.int .u64 h0, .int .u64 (h1 + (l1 + Lv.abs a) / 18446744073709551616), .int .u64 l0, .int .u64 ((l1 + Lv.abs a) % 18446744073709551616)] := by
  have hA := vM l1 (Lv.abs a) 0 ul (ga ha) (by omega) (by omega); rw [show l1 + Lv.abs a + 0 = l1 + Lv.abs a by omega] at hA; have hs := fun w => jY a w ha; have b0 : w.cell? ⟨g, 0, none⟩ = some (.int .u64 h0) := hb.cell 0; have b1 : w.cell? ⟨g, 1, none⟩ = some (.int .u64 h1) := hb.cell 1; have b2 : w.cell? ⟨g, 2, none⟩ = some (.int .u64 l0) := hb.cell 2; have b3 : w.cell? ⟨g, 3, none⟩ = some (.int .u64 l1) := hb.cell 3; have f0 := hb.loose 0; have f1 := hb.loose 1; have f2 := hb.loose 2; have f3 := hb.loose 3; have HB := Lib.hid hb; clear hb; go_enter Tryz.func177, Tryz.ntmps177; go_wp2_with fail
  go_quiet ((go_at_call 158; first | exact lQ (hs _) | exact fR (hs _)))
  have au := ga ha; obtain ⟨au1, au2⟩ := au; obtain ⟨uh1, uh2⟩ := uh; obtain ⟨ul1, ul2⟩ := ul; have k0 : 0 ≤ (l1 + Lv.abs a) / 18446744073709551616 := by omega
  have k1 : (l1 + Lv.abs a) / 18446744073709551616 ≤ 1 := by omega
  go_wp2_with fail
  go_region
  go_end0
  have hb := HB.out; exact ⟨rfl, by repeat (first | with_reducible exact Only.refl _ _ | with_reducible apply Only.drew | with_reducible apply Only.drewN | with_reducible apply Only.setCell), bxd⟩
end

section
open Go.RowKit Lv
theorem bA (x y b d k : Int) (h : u64 x) (h' : u64 y) (b0 : 0 ≤ b) (b1 : b ≤ 1) (hd : u64 d) (k0 : 0 ≤ k) (k1 : k ≤ 1) (he : d = x - y - b + k * 18446744073709551616) (w : World) :
    (callFunc 178 #[.int .u64 x, .int .u64 y, .int .u64 b]).run Tryz.prog w = .ok (.value (.tuple #[.int .u64 d, .int .u64 k])) w := by
  rw [Au x y b h h' b0 b1]; obtain ⟨h1, h2⟩ := h; obtain ⟨h3, h4⟩ := h'; obtain ⟨h5, h6⟩ := hd; have e1 : (x - y - b) % 18446744073709551616 = d := by omega
  have e2 : (if x < y + b then (1 : Int) else 0) = k := by split <;> omega
  rw [e1, e2]
theorem iW {a b c d : Int} {x y : Bool} (h : a = b) (g : c = d) (i : x = y) : Ending.returned (.tuple #[.int .u64 a, .int .u64 c, .bool x]) = .returned (.tuple #[.int .u64 b, .int .u64 d, .bool y]) := by rw [h, g, i]
theorem Dt (h0 h1 l0 l1 : Int) (g : Nat) (w : World) (hb : Box w g 194 #[.int .u64 h0, .int .u64 h1, .int .u64 l0, .int .u64 l1]) (u0 : u64 h0) (u1 : u64 h1) (v0 : u64 l0) (v1 : u64 l1) (c1 : l1 ≤ l0) (c2 : h1 ≤ h0) :
    Calls Tryz.prog 156 #[.pointer (some ⟨g, 0, none⟩)] w fun e w' => e = .returned (.tuple #[.int .u64 (aY (Lv.abs (wd h0 l0 - wd h1 l1))), .int .u64 (bj (Lv.abs (wd h0 l0 - wd h1 l1))), .bool (Lv.neg (wd h0 l0 - wd h1 l1))]) ∧ ∃ n, w' = w.drewN n := by
  have b0 : w.cell? ⟨g, 0, none⟩ = some (.int .u64 h0) := hb.cell 0; have b1 : w.cell? ⟨g, 1, none⟩ = some (.int .u64 h1) := hb.cell 1; have b2 : w.cell? ⟨g, 2, none⟩ = some (.int .u64 l0) := hb.cell 2; have b3 : w.cell? ⟨g, 3, none⟩ = some (.int .u64 l1) := hb.cell 3; clear hb; have U0 := u0; have U1 := u1; have V0 := v0; have V1 := v1; obtain ⟨U0, U0'⟩ := U0; obtain ⟨U1, U1'⟩ := U1; obtain ⟨V0, V0'⟩ := V0; obtain ⟨V1, V1'⟩ := V1; obtain ⟨lo, hlo⟩ : ∃ lo, lo = l0 - l1 := ⟨_, rfl⟩; obtain ⟨hi, hhi⟩ : ∃ hi, hi = h0 - h1 := ⟨_, rfl⟩; have s1 := bA l0 l1 0 lo 0 v0 v1 (by omega) (by omega) ⟨by omega, by omega⟩ (by omega) (by omega) (by omega); have s2 := bA h0 h1 0 hi 0 u0 u1 (by omega) (by omega) ⟨by omega, by omega⟩ (by omega) (by omega) (by omega); have e : 0 ≤ wd h0 l0 - wd h1 l1 := by unfold wd; omega
  have E1 : hi = aY (Lv.abs (wd h0 l0 - wd h1 l1)) := by unfold Lv.abs aY wd at *; rw [if_neg (by omega)]; omega
  have E2 : lo = bj (Lv.abs (wd h0 l0 - wd h1 l1)) := by unfold Lv.abs bj wd at *; rw [if_neg (by omega)]; omega
  have E3 : false = Lv.neg (wd h0 l0 - wd h1 l1) := (decide_eq_false (by omega)).symm; have HE1 := Lib.hid E1; have HE2 := Lib.hid E2; have HE3 := Lib.hid E3; clear c1 c2 E1 E2 E3 e u0 u1 v0 v1 hlo hhi; go_enter Tryz.func156, Tryz.ntmps156; go_wp2_with fail
  go_quiet (fail)
  go_wp2_with fail
  go_quiet (fail)
  go_wp2_with fail
  go_ret3
  exact ⟨iW HE1.out HE2.out HE3.out, _, rfl⟩
theorem Co (h0 h1 l0 l1 : Int) (g : Nat) (w : World) (hb : Box w g 194 #[.int .u64 h0, .int .u64 h1, .int .u64 l0, .int .u64 l1]) (u0 : u64 h0) (u1 : u64 h1) (v0 : u64 l0) (v1 : u64 l1) (c1 : l1 = l0) (c2 : h0 < h1) :
    Calls Tryz.prog 156 #[.pointer (some ⟨g, 0, none⟩)] w fun e w' => e = .returned (.tuple #[.int .u64 (aY (Lv.abs (wd h0 l0 - wd h1 l1))), .int .u64 (bj (Lv.abs (wd h0 l0 - wd h1 l1))), .bool (Lv.neg (wd h0 l0 - wd h1 l1))]) ∧ ∃ n, w' = w.drewN n := by
  have b0 : w.cell? ⟨g, 0, none⟩ = some (.int .u64 h0) := hb.cell 0; have b1 : w.cell? ⟨g, 1, none⟩ = some (.int .u64 h1) := hb.cell 1; have b2 : w.cell? ⟨g, 2, none⟩ = some (.int .u64 l0) := hb.cell 2; have b3 : w.cell? ⟨g, 3, none⟩ = some (.int .u64 l1) := hb.cell 3; clear hb; have U0 := u0; have U1 := u1; have V0 := v0; have V1 := v1; obtain ⟨U0, U0'⟩ := U0; obtain ⟨U1, U1'⟩ := U1; obtain ⟨V0, V0'⟩ := V0; obtain ⟨V1, V1'⟩ := V1; obtain ⟨lo, hlo⟩ : ∃ lo, lo = l0 - l1 := ⟨_, rfl⟩; obtain ⟨hi, hhi⟩ : ∃ hi, hi = h0 - h1 + 18446744073709551616 := ⟨_, rfl⟩; have s1 := bA l0 l1 0 lo 0 v0 v1 (by omega) (by omega) ⟨by omega, by omega⟩ (by omega) (by omega) (by omega); have s2 := bA h0 h1 0 hi 1 u0 u1 (by omega) (by omega) ⟨by omega, by omega⟩ (by omega) (by omega) (by omega); obtain ⟨lo2, hlo2⟩ : ∃ lo2, lo2 = 0 := ⟨_, rfl⟩; obtain ⟨hi2, hhi2⟩ : ∃ hi2, hi2 = h1 - h0 := ⟨_, rfl⟩; have s3 := bA 0 lo 0 lo2 0 ⟨by omega, by omega⟩ ⟨by omega, by omega⟩ (by omega) (by omega) ⟨by omega, by omega⟩ (by omega) (by omega) (by omega); have s4 := bA 0 hi 0 hi2 1 ⟨by omega, by omega⟩ ⟨by omega, by omega⟩ (by omega) (by omega) ⟨by omega, by omega⟩ (by omega) (by omega) (by omega); have e : wd h0 l0 - wd h1 l1 < 0 := by unfold wd; omega
  have E1 : hi2 = aY (Lv.abs (wd h0 l0 - wd h1 l1)) := by unfold Lv.abs aY wd at *; rw [if_pos (by omega)]; omega
  have E2 : lo2 = bj (Lv.abs (wd h0 l0 - wd h1 l1)) := by unfold Lv.abs bj wd at *; rw [if_pos (by omega)]; omega
  have E3 : true = Lv.neg (wd h0 l0 - wd h1 l1) := (decide_eq_true (by omega)).symm; have HE1 := Lib.hid E1; have HE2 := Lib.hid E2; have HE3 := Lib.hid E3; clear c1 c2 E1 E2 E3 e u0 u1 v0 v1 hlo hhi hlo2 hhi2; go_enter Tryz.func156, Tryz.ntmps156; go_wp2_with fail
  go_quiet (fail)
  go_wp2_with fail
  go_quiet (fail)
  go_wp2_with fail
  go_ret3
  exact ⟨iW HE1.out HE2.out HE3.out, _, rfl⟩
theorem Cp (h0 h1 l0 l1 : Int) (g : Nat) (w : World) (hb : Box w g 194 #[.int .u64 h0, .int .u64 h1, .int .u64 l0, .int .u64 l1]) (u0 : u64 h0) (u1 : u64 h1) (v0 : u64 l0) (v1 : u64 l1) (c1 : l1 < l0) (c2 : h0 < h1) :
    Calls Tryz.prog 156 #[.pointer (some ⟨g, 0, none⟩)] w fun e w' => e = .returned (.tuple #[.int .u64 (aY (Lv.abs (wd h0 l0 - wd h1 l1))), .int .u64 (bj (Lv.abs (wd h0 l0 - wd h1 l1))), .bool (Lv.neg (wd h0 l0 - wd h1 l1))]) ∧ ∃ n, w' = w.drewN n := by
  have b0 : w.cell? ⟨g, 0, none⟩ = some (.int .u64 h0) := hb.cell 0; have b1 : w.cell? ⟨g, 1, none⟩ = some (.int .u64 h1) := hb.cell 1; have b2 : w.cell? ⟨g, 2, none⟩ = some (.int .u64 l0) := hb.cell 2; have b3 : w.cell? ⟨g, 3, none⟩ = some (.int .u64 l1) := hb.cell 3; clear hb; have U0 := u0; have U1 := u1; have V0 := v0; have V1 := v1; obtain ⟨U0, U0'⟩ := U0; obtain ⟨U1, U1'⟩ := U1; obtain ⟨V0, V0'⟩ := V0; obtain ⟨V1, V1'⟩ := V1; obtain ⟨lo, hlo⟩ : ∃ lo, lo = l0 - l1 := ⟨_, rfl⟩; obtain ⟨hi, hhi⟩ : ∃ hi, hi = h0 - h1 + 18446744073709551616 := ⟨_, rfl⟩; have s1 := bA l0 l1 0 lo 0 v0 v1 (by omega) (by omega) ⟨by omega, by omega⟩ (by omega) (by omega) (by omega); have s2 := bA h0 h1 0 hi 1 u0 u1 (by omega) (by omega) ⟨by omega, by omega⟩ (by omega) (by omega) (by omega); obtain ⟨lo2, hlo2⟩ : ∃ lo2, lo2 = l1 - l0 + 18446744073709551616 := ⟨_, rfl⟩; obtain ⟨hi2, hhi2⟩ : ∃ hi2, hi2 = h1 - h0 - 1 := ⟨_, rfl⟩; have s3 := bA 0 lo 0 lo2 1 ⟨by omega, by omega⟩ ⟨by omega, by omega⟩ (by omega) (by omega) ⟨by omega, by omega⟩ (by omega) (by omega) (by omega); have s4 := bA 0 hi 1 hi2 1 ⟨by omega, by omega⟩ ⟨by omega, by omega⟩ (by omega) (by omega) ⟨by omega, by omega⟩ (by omega) (by omega) (by omega); have e : wd h0 l0 - wd h1 l1 < 0 := by unfold wd; omega
  have E1 : hi2 = aY (Lv.abs (wd h0 l0 - wd h1 l1)) := by unfold Lv.abs aY wd at *; rw [if_pos (by omega)]; omega
  have E2 : lo2 = bj (Lv.abs (wd h0 l0 - wd h1 l1)) := by unfold Lv.abs bj wd at *; rw [if_pos (by omega)]; omega
  have E3 : true = Lv.neg (wd h0 l0 - wd h1 l1) := (decide_eq_true (by omega)).symm; have HE1 := Lib.hid E1; have HE2 := Lib.hid E2; have HE3 := Lib.hid E3; clear c1 c2 E1 E2 E3 e u0 u1 v0 v1 hlo hhi hlo2 hhi2; go_enter Tryz.func156, Tryz.ntmps156; go_wp2_with fail
  go_quiet (fail)
  go_wp2_with fail
  go_quiet (fail)
  go_wp2_with fail
  go_ret3
  exact ⟨iW HE1.out HE2.out HE3.out, _, rfl⟩
theorem Du (h0 h1 l0 l1 : Int) (g : Nat) (w : World) (hb : Box w g 194 #[.int .u64 h0, .int .u64 h1, .int .u64 l0, .int .u64 l1]) (u0 : u64 h0) (u1 : u64 h1) (v0 : u64 l0) (v1 : u64 l1) (c1 : l0 < l1) (c2 : h1 < h0) :
    Calls Tryz.prog 156 #[.pointer (some ⟨g, 0, none⟩)] w fun e w' => e = .returned (.tuple #[.int .u64 (aY (Lv.abs (wd h0 l0 - wd h1 l1))), .int .u64 (bj (Lv.abs (wd h0 l0 - wd h1 l1))), .bool (Lv.neg (wd h0 l0 - wd h1 l1))]) ∧ ∃ n, w' = w.drewN n := by
  have b0 : w.cell? ⟨g, 0, none⟩ = some (.int .u64 h0) := hb.cell 0; have b1 : w.cell? ⟨g, 1, none⟩ = some (.int .u64 h1) := hb.cell 1; have b2 : w.cell? ⟨g, 2, none⟩ = some (.int .u64 l0) := hb.cell 2; have b3 : w.cell? ⟨g, 3, none⟩ = some (.int .u64 l1) := hb.cell 3; clear hb; have U0 := u0; have U1 := u1; have V0 := v0; have V1 := v1; obtain ⟨U0, U0'⟩ := U0; obtain ⟨U1, U1'⟩ := U1; obtain ⟨V0, V0'⟩ := V0; obtain ⟨V1, V1'⟩ := V1; obtain ⟨lo, hlo⟩ : ∃ lo, lo = l0 - l1 + 18446744073709551616 := ⟨_, rfl⟩; obtain ⟨hi, hhi⟩ : ∃ hi, hi = h0 - h1 - 1 := ⟨_, rfl⟩; have s1 := bA l0 l1 0 lo 1 v0 v1 (by omega) (by omega) ⟨by omega, by omega⟩ (by omega) (by omega) (by omega); have s2 := bA h0 h1 1 hi 0 u0 u1 (by omega) (by omega) ⟨by omega, by omega⟩ (by omega) (by omega) (by omega); have e : 0 ≤ wd h0 l0 - wd h1 l1 := by unfold wd; omega
  have E1 : hi = aY (Lv.abs (wd h0 l0 - wd h1 l1)) := by unfold Lv.abs aY wd at *; rw [if_neg (by omega)]; omega
  have E2 : lo = bj (Lv.abs (wd h0 l0 - wd h1 l1)) := by unfold Lv.abs bj wd at *; rw [if_neg (by omega)]; omega
  have E3 : false = Lv.neg (wd h0 l0 - wd h1 l1) := (decide_eq_false (by omega)).symm; have HE1 := Lib.hid E1; have HE2 := Lib.hid E2; have HE3 := Lib.hid E3; clear c1 c2 E1 E2 E3 e u0 u1 v0 v1 hlo hhi; go_enter Tryz.func156, Tryz.ntmps156; go_wp2_with fail
  go_quiet (fail)
  go_wp2_with fail
  go_quiet (fail)
  go_wp2_with fail
  go_ret3
  exact ⟨iW HE1.out HE2.out HE3.out, _, rfl⟩
theorem Dv (h0 h1 l0 l1 : Int) (g : Nat) (w : World) (hb : Box w g 194 #[.int .u64 h0, .int .u64 h1, .int .u64 l0, .int .u64 l1]) (u0 : u64 h0) (u1 : u64 h1) (v0 : u64 l0) (v1 : u64 l1) (c1 : l0 < l1) (c2 : h0 ≤ h1) :
    Calls Tryz.prog 156 #[.pointer (some ⟨g, 0, none⟩)] w fun e w' => e = .returned (.tuple #[.int .u64 (aY (Lv.abs (wd h0 l0 - wd h1 l1))), .int .u64 (bj (Lv.abs (wd h0 l0 - wd h1 l1))), .bool (Lv.neg (wd h0 l0 - wd h1 l1))]) ∧ ∃ n, w' = w.drewN n := by
  have b0 : w.cell? ⟨g, 0, none⟩ = some (.int .u64 h0) := hb.cell 0; have b1 : w.cell? ⟨g, 1, none⟩ = some (.int .u64 h1) := hb.cell 1; have b2 : w.cell? ⟨g, 2, none⟩ = some (.int .u64 l0) := hb.cell 2; have b3 : w.cell? ⟨g, 3, none⟩ = some (.int .u64 l1) := hb.cell 3; clear hb; have U0 := u0; have U1 := u1; have V0 := v0; have V1 := v1; obtain ⟨U0, U0'⟩ := U0; obtain ⟨U1, U1'⟩ := U1; obtain ⟨V0, V0'⟩ := V0; obtain ⟨V1, V1'⟩ := V1; obtain ⟨lo, hlo⟩ : ∃ lo, lo = l0 - l1 + 18446744073709551616 := ⟨_, rfl⟩; obtain ⟨hi, hhi⟩ : ∃ hi, hi = h0 - h1 - 1 + 18446744073709551616 := ⟨_, rfl⟩; have s1 := bA l0 l1 0 lo 1 v0 v1 (by omega) (by omega) ⟨by omega, by omega⟩ (by omega) (by omega) (by omega); have s2 := bA h0 h1 1 hi 1 u0 u1 (by omega) (by omega) ⟨by omega, by omega⟩ (by omega) (by omega) (by omega); obtain ⟨lo2, hlo2⟩ : ∃ lo2, lo2 = l1 - l0 := ⟨_, rfl⟩; obtain ⟨hi2, hhi2⟩ : ∃ hi2, hi2 = h1 - h0 := ⟨_, rfl⟩; have s3 := bA 0 lo 0 lo2 1 ⟨by omega, by omega⟩ ⟨by omega, by omega⟩ (by omega) (by omega) ⟨by omega, by omega⟩ (by omega) (by omega) (by omega); have s4 := bA 0 hi 1 hi2 1 ⟨by omega, by omega⟩ ⟨by omega, by omega⟩ (by omega) (by omega) ⟨by omega, by omega⟩ (by omega) (by omega) (by omega); have e : wd h0 l0 - wd h1 l1 < 0 := by unfold wd; omega
  have E1 : hi2 = aY (Lv.abs (wd h0 l0 - wd h1 l1)) := by unfold Lv.abs aY wd at *; rw [if_pos (by omega)]; omega
  have E2 : lo2 = bj (Lv.abs (wd h0 l0 - wd h1 l1)) := by unfold Lv.abs bj wd at *; rw [if_pos (by omega)]; omega
  have E3 : true = Lv.neg (wd h0 l0 - wd h1 l1) := (decide_eq_true (by omega)).symm; have HE1 := Lib.hid E1; have HE2 := Lib.hid E2; have HE3 := Lib.hid E3; clear c1 c2 E1 E2 E3 e u0 u1 v0 v1 hlo hhi hlo2 hhi2; go_enter Tryz.func156, Tryz.ntmps156; go_wp2_with fail
  go_quiet (fail)
  go_wp2_with fail
  go_quiet (fail)
  go_wp2_with fail
  go_ret3
  exact ⟨iW HE1.out HE2.out HE3.out, _, rfl⟩
theorem Aw (h0 h1 l0 l1 : Int) (g : Nat) (w : World) (hb : Box w g 194 #[.int .u64 h0, .int .u64 h1, .int .u64 l0, .int .u64 l1]) (u0 : u64 h0) (u1 : u64 h1) (v0 : u64 l0) (v1 : u64 l1) :
    Calls Tryz.prog 156 #[.pointer (some ⟨g, 0, none⟩)] w fun e w' => e = .returned (.tuple #[.int .u64 (aY (Lv.abs (wd h0 l0 - wd h1 l1))), .int .u64 (bj (Lv.abs (wd h0 l0 - wd h1 l1))), .bool (Lv.neg (wd h0 l0 - wd h1 l1))]) ∧ ∃ n, w' = w.drewN n := by
  by_cases c1 : l0 < l1
  · by_cases c2 : h1 < h0
    · exact Du h0 h1 l0 l1 g w hb u0 u1 v0 v1 c1 c2
    · exact Dv h0 h1 l0 l1 g w hb u0 u1 v0 v1 c1 (by omega)
  · by_cases c2 : h1 ≤ h0
    · exact Dt h0 h1 l0 l1 g w hb u0 u1 v0 v1 (by omega) c2
    · by_cases c3 : l1 = l0
      · exact Co h0 h1 l0 l1 g w hb u0 u1 v0 v1 c3 (by omega)
      · exact Cp h0 h1 l0 l1 g w hb u0 u1 v0 v1 (by omega) (by omega)
end

section
open Go.RowKit Lv
def Row (w : World) (A : Option Addr) (zs : List Int) : Prop := ∀ i, i < zs.length → ∃ b off, A = some ⟨b, off, none⟩ ∧ b < w.heap.size ∧ w.cell? ⟨b, off + i, none⟩ = some (.int .i64 (zs.getD i 0))
theorem Row.kept {w w' : World} {A : Option Addr} {zs : List Int} (h : Row w A zs) (k : Kept w w') : Row w' A zs := fun i hi => by
  obtain ⟨b, off, rfl, hb, hc⟩ := h i hi; exact ⟨b, off, rfl, Nat.lt_of_lt_of_le hb k.size, (k.cell (p := ⟨b, off + i, none⟩) hb).trans hc⟩
theorem Row.box {w : World} {g : Nat} {t : TypeId} {cs : Array Value} (h : Box w g t cs) {zs : List Int} (hz : ∀ i, i < zs.length → cs[i]? = some (.int .i64 (zs.getD i 0))) : Row w (some ⟨g, 0, none⟩) zs := fun i hi =>
  ⟨g, 0, rfl, h.inside, by rw [Nat.zero_add, h.cell i]; exact hz i hi⟩
def dN (zs : List Int) : Array Value := #[.int .u64 (aY (up zs)), .int .u64 (aY (jI zs)), .int .u64 (bj (up zs)), .int .u64 (bj (jI zs))]
theorem mR (zs : List Int) : dN (zs.take 0) = #[.int .u64 0, .int .u64 0, .int .u64 0, .int .u64 0] := rfl
theorem qo {l : List Int} {a : Int} (h : All64 (l ++ [a])) (hl : l.length ≤ 9223372036854775807) (c : 0 ≤ a) :
    #[.int .u64 (aY (up l) + (bj (up l) + Lv.abs a) / 18446744073709551616), .int .u64 (aY (jI l)), .int .u64 ((bj (up l) + Lv.abs a) % 18446744073709551616), .int .u64 (bj (jI l))] = dN (l ++ [a]) := by
  have b := gk l (fun x hx => h x (by simp [hx])); have ha := ga (h a (by simp)); rw [zo b.1 (by omega) ha.1 ha.2, zp]; unfold dN; rw [vm, oo, if_neg (by omega), if_neg (by omega), Int.add_zero]; rw [show Lv.abs a = a by unfold Lv.abs; rw [if_neg (by omega)]]
theorem mS {l : List Int} {a : Int} (h : All64 (l ++ [a])) (hl : l.length ≤ 9223372036854775807) (c : a < 0) :
    #[.int .u64 (aY (up l)), .int .u64 (aY (jI l) + (bj (jI l) + Lv.abs a) / 18446744073709551616), .int .u64 (bj (up l)), .int .u64 ((bj (jI l) + Lv.abs a) % 18446744073709551616)] = dN (l ++ [a]) := by
  have b := gk l (fun x hx => h x (by simp [hx])); have ha := ga (h a (by simp)); rw [zo b.2.2.1 (by omega) ha.1 ha.2, zp]; unfold dN; rw [vm, oo, if_pos c, if_pos c, Int.add_zero]; rw [show Lv.abs a = -a by unfold Lv.abs; rw [if_pos c]]
theorem AA (l : List Int) (a : Int) (g : Nat) (w : World) (h : All64 (l ++ [a])) (hl : l.length ≤ 9223372036854775807) (hb : Box w g 194 (dN l)) :
    Calls Tryz.prog 177 #[.pointer (some ⟨g, 0, none⟩), .int .i64 a, .bool false] w fun e w' => e = .returned (.tuple #[]) ∧ Only g w w' ∧ Box w' g 194 (dN (l ++ [a])) := by
  have b := gk l (fun x hx => h x (by simp [hx])); have ha := h a (by simp)
  by_cases c : 0 ≤ a
  · refine (Ck _ _ _ _ a g w ha hb (bC _) (bD _) c (by have := rn b.1 (by omega); omega)).mono ?_
    rintro e w' ⟨he, ho, hb'⟩; rw [qo h hl c] at hb'; exact ⟨he, ho, hb'⟩
  · refine (Cm _ _ _ _ a g w ha hb (bC _) (bD _) (by omega) (by have := rn b.2.2.1 (by omega); omega)).mono ?_
    rintro e w' ⟨he, ho, hb'⟩; rw [mS h hl (by omega)] at hb'; exact ⟨he, ho, hb'⟩
theorem oI (A : Option Addr) (cap : Nat) (zs : List Int) (w : World) (hr : Row w A zs) (h64 : All64 zs) (hlen : zs.length ≤ 9223372036854775807) :
    Calls Tryz.prog 155 #[.slice A zs.length cap] w fun e w' => e = .returned (.pointer (some ⟨w.heap.size, 0, none⟩)) ∧ Kept w w' ∧ Box w' w.heap.size 194 (dN zs) := by
  go_enter Tryz.func155, Tryz.ntmps155; go_wp2_with fail
  go_loopw [10] (fun i wr => ∃ k : Nat, k ≤ zs.length ∧ i = .int .i64 k ∧ Kept w wr ∧ Box wr w.heap.size 194 (dN (zs.take k))) (fun i _ => zs.length - (intOf i).toNat)
  case atStart => exact ⟨0, by omega, rfl, kpt, by rw [mR]; exact bxd⟩
  case round =>
    obtain ⟨k, hk, rfl, hkept, hbox⟩ := hrel
    by_cases hlt : k < zs.length
    · obtain ⟨b, off, rfl, hb, hc⟩ := hr k hlt
      have hc' : wr.cell? ⟨b, off + k, none⟩ = some (.int .i64 (zs.getD k 0)) := (hkept.cell (p := ⟨b, off + k, none⟩) hb).trans hc; have ts := vl zs k hlt; have HA : All64 (zs.take k ++ [zs.getD k 0]) := by rw [← ts]; exact h64.take _
      have HL : (zs.take k).length ≤ 9223372036854775807 := by have := List.length_take_le k zs; omega
      have AD := Lib.hid (fun g w hb => AA (zs.take k) (zs.getD k 0) g w HA HL hb); have TS := Lib.hid ts; have H64 := Lib.hid h64; have HR := Lib.hid hr; clear ts HA HL hc h64 hr; generalize zs.getD k 0 = a at *; go_wp2_with fail; refine (AD.out _ _ hbox).mono ?_; rintro e w1 ⟨rfl, ho, hb1⟩; go_wp2_with fail
      go_roundw
      case rel => exact ⟨k + 1, by omega, by go_num, ho.kept hkept (Nat.le_refl _), by rw [TS.out]; exact hb1⟩
      case measure => simp [intOf]; omega
    · obtain rfl : k = zs.length := by omega
      rw [List.take_length] at hbox; go_wp2_with fail; go_ret; exact ⟨rfl, hkept, hbox⟩
theorem vN (zs : List Int) (g : Nat) (w : World) (h64 : All64 zs) (hlen : zs.length ≤ 9223372036854775807) (hb : Box w g 194 (dN zs)) :
    Calls Tryz.prog 156 #[.pointer (some ⟨g, 0, none⟩)] w fun e w' => e = .returned (.tuple #[.int .u64 (aY (Lv.abs (cg zs))), .int .u64 (bj (Lv.abs (cg zs))), .bool (Lv.neg (cg zs))]) ∧ ∃ n, w' = w.drewN n := by
  have b := gk zs h64; have e1 : wd (aY (up zs)) (bj (up zs)) = up zs := er b.1 (by omega); have e2 : wd (aY (jI zs)) (bj (jI zs)) = jI zs := er b.2.2.1 (by omega); have H := Aw _ _ _ _ g w hb (bC _) (bC _) (bD _) (bD _); rw [e1, e2, vk] at H; exact H
theorem kS (zs : List Int) (h64 : All64 zs) (hlen : zs.length ≤ 9223372036854775807) : 0 ≤ Lv.abs (cg zs) ∧ Lv.abs (cg zs) < 170141183460469231731687303715884105728 := by
  have b := gk zs h64; rw [← vk]; exact sP b.1 (by omega) b.2.2.1 (by omega)
theorem sY (zs : List Int) (w : World) (h64 : All64 zs) (hlen : zs.length ≤ 9223372036854775807) :
    Calls Tryz.prog 154 #[.int .u64 (aY (Lv.abs (cg zs))), .int .u64 (bj (Lv.abs (cg zs))), .bool (Lv.neg (cg zs))] w fun e w' => e = .returned (.tuple #[.int .i64 (tJ zs).1, .bool (tJ zs).2]) ∧ w = w' := by
  have b := kS zs h64 hlen; have H := cU (aY (Lv.abs (cg zs))) (bj (Lv.abs (cg zs))) (Lv.neg (cg zs)) w (bC _) (bD _); have e : aY (Lv.abs (cg zs)) * 18446744073709551616 + bj (Lv.abs (cg zs)) = Lv.abs (cg zs) := er b.1 (by omega); rw [e, sl] at H; exact H
theorem AB (A : Option Addr) (cap : Nat) (zs : List Int) (w : World) (hr : Row w A zs) (h64 : All64 zs) (hlen : zs.length ≤ 9223372036854775807) :
    Calls Tryz.prog 132 #[.slice A zs.length cap] w fun e w' => e = .returned (.tuple #[.int .i64 (tJ zs).1, .bool (tJ zs).2]) ∧ Kept w w' := by
  have T := Lib.hid (oI A cap zs w hr h64 hlen); have L := Lib.hid (fun g w => vN zs g w h64 hlen); have S := Lib.hid (fun w => sY zs w h64 hlen); clear hr h64; go_enter Tryz.func132, Tryz.ntmps132; go_wp2_with fail; refine T.out.mono ?_; rintro e w1 ⟨rfl, hk, hb⟩; go_wp2_with fail; refine (L.out _ _ hb).mono ?_; rintro e w' ⟨rfl, n, rfl⟩; go_wp2_with fail; refine (S.out _).mono ?_; rintro e w' ⟨rfl, rfl⟩; go_wp2_with fail; go_ret2; exact ⟨rfl, Kept.trans hk (Kept.of_drewN n)⟩
end

section
open Go.RowKit Lv
def OwnI (w : World) (base : Nat) (v : Value) (l : List Int) : Prop := w.ownsRow base 2 1 v l.length (l.map (Value.int .i64))
theorem OwnI.nil (w : World) (base : Nat) : OwnI w base (.slice none 0 0) [] := World.ownsRow_nil w base _ 1
theorem OwnI.kept {w w' : World} {base : Nat} {v : Value} {l : List Int} (h : OwnI w base v l) (k : Kept w w') : OwnI w' base v l := by
  obtain ⟨h1, h2⟩ := h; refine ⟨h1, ?_⟩; rcases h2 with h2 | ⟨g, cap, cur, hv, hg, hh, r⟩
  · exact Or.inl h2
  · have hlt : g < w.heap.size := (Array.getElem?_eq_some_iff.1 hh).1
    exact Or.inr ⟨g, cap, cur, hv, hg, (k.block g hlt).trans hh, r⟩
theorem OwnI.alloc {w : World} {base : Nat} {v : Value} {l : List Int} (h : OwnI w base v l) (o : Obj) : OwnI (w.alloc o) base v l := h.kept ((Kept.refl w).alloc o)
theorem OwnI.drew {w : World} {base : Nat} {v : Value} {l : List Int} (h : OwnI w base v l) : OwnI w.drew base v l := h.kept ((Kept.refl w).drew)
theorem OwnI.grown {a w w' : World} {base : Nat} {v : Value} {l : List Int} (h : OwnI w base v l) (hb : a.heap.size ≤ base) (k : Kept a w) (g : w.grownBy w' v.ownBlock) : Kept a w' :=
  Below.grown k g k.size (fun x hx => Nat.le_trans hb (World.ownsRow.lt h x hx).1)
theorem ym : ∃ i, Tryz.prog.info? 2 = some i ∧ i.zero = some (.int .i64 0) ∧ i.size = 1 ∧ i.bytes = 8 := by
  have h : (Tryz.prog.info? 2).map (fun i => (i.zero, i.size, i.bytes)) = some (some (.int .i64 0), 1, 8) := by kernel_rfl
  cases hi : Tryz.prog.info? 2 with
  | none => rw [hi] at h; cases h
  | some i =>
    rw [hi] at h
    simp at h
    exact ⟨i, rfl, h.1, h.2.1, h.2.2⟩
theorem OwnI.row {w : World} {base : Nat} {v : Value} {l : List Int} (h : OwnI w base v l) : ∃ A cap, v = .slice A l.length cap ∧ Row w A l := by
  rcases h.2 with ⟨rfl, h0⟩ | ⟨g, cap, cur, rfl, _, hh, h4, h5, h6, h7⟩
  · have : l = [] := List.eq_nil_of_length_eq_zero h0
    subst this; exact ⟨none, 0, rfl, fun i hi => by simp at hi⟩
  · have hcells := World.ownsRow.cells h (g := g) rfl
    refine ⟨some ⟨g, 0, none⟩, cap, rfl, fun i hi => ⟨g, 0, rfl, (Array.getElem?_eq_some_iff.1 hh).1, ?_⟩⟩; have hc := hcells i (.int .i64 (l.getD i 0)) (by simp [hi]); rw [Go.WideShapes.add_plain] at hc; exact hc
theorem Row.take {w : World} {A : Option Addr} {l : List Int} (h : Row w A l) (k : Nat) : Row w A (l.take k) := fun i hi => by
  rw [List.length_take] at hi; obtain ⟨b, off, e, hb, hc⟩ := h i (by omega); refine ⟨b, off, e, hb, ?_⟩; rw [hc]
  simp [List.getD, List.getElem?_take, show i < k by omega]
theorem Row.drop {w : World} {b off : Nat} {l : List Int} (h : Row w (some ⟨b, off, none⟩) l) (k : Nat) : Row w (some ⟨b, off + k, none⟩) (l.drop k) := fun i hi => by
  rw [List.length_drop] at hi; obtain ⟨b', off', e, hb, hc⟩ := h (k + i) (by omega)
  cases e
  refine ⟨b, off + k, rfl, hb, ?_⟩; rw [Nat.add_assoc, hc]
  simp [List.getD, List.getElem?_drop]
end

section
end

section
open Go.RowKit Lv
theorem rH (A : Option Addr) (cap : Nat) (zs : List Int) (w : World) (hr : Row w A zs) (h64 : All64 zs) (hlen : zs.length ≤ 9223372036854775807) :
    Calls Tryz.prog 134 #[.slice A zs.length cap] w fun e w' => e = .returned (.tuple #[.int .i64 (dT zs).1, .bool (dT zs).2]) ∧ Kept w w' := by
  have T := Lib.hid (oI A cap zs w hr h64 hlen); have L := Lib.hid (fun g w => vN zs g w h64 hlen); have b := kS zs h64 hlen; have N := fun w => kR (aY (Lv.abs (cg zs))) (bj (Lv.abs (cg zs))) zs.length w (bC _) (bD _) ⟨by omega, by omega⟩; have e : aY (Lv.abs (cg zs)) * 18446744073709551616 + bj (Lv.abs (cg zs)) = Lv.abs (cg zs) := er b.1 (by omega); rw [e] at N; have b1 := b.1; clear e b
  by_cases c : (zs.length : Int) ≠ 0 ∧ Lv.abs (cg zs) / zs.length ≤ 9223372036854775807
  · have E : xi (Lv.abs (cg zs)) zs.length = (rnd (Lv.abs (cg zs)) zs.length, true) := if_pos c
    rw [E] at N; have q0 : 0 ≤ Lv.abs (cg zs) / zs.length := Int.ediv_nonneg b1 (by omega); have rb := gD (Lv.abs (cg zs)) zs.length; have S := fun w => cU 0 (rnd (Lv.abs (cg zs)) zs.length) (Lv.neg (cg zs)) w ⟨by omega, by omega⟩ ⟨by omega, by omega⟩
    have D : dT zs = fit (sg (Lv.neg (cg zs)) (0 * 18446744073709551616 + rnd (Lv.abs (cg zs)) zs.length)) := by
      unfold dT; rw [if_neg (by intro h; subst h; simp at c), Int.zero_mul, Int.zero_add]
    rw [← D] at S; have HS := Lib.hid S; have HN := Lib.hid N; clear S N D q0 rb c E hr h64 b1; generalize rnd (Lv.abs (cg zs)) zs.length = q at *; generalize dT zs = r at *; generalize aY (Lv.abs (cg zs)) = x1 at *; generalize bj (Lv.abs (cg zs)) = x0 at *; generalize Lv.neg (cg zs) = ng at *; go_enter Tryz.func134, Tryz.ntmps134; go_wp2_with fail; refine T.out.mono ?_; rintro e w1 ⟨rfl, hk, hb⟩; go_wp2_with fail; refine (L.out _ _ hb).mono ?_; rintro e w' ⟨rfl, n, rfl⟩; go_wp2_with fail; refine (HN.out _).mono ?_; rintro e w' ⟨rfl, n2, rfl⟩; go_wp2_with fail; refine (HS.out _).mono ?_; rintro e w' ⟨rfl, rfl⟩; go_wp2_with fail; go_ret2; exact ⟨rfl, kpt⟩
  · have E : xi (Lv.abs (cg zs)) zs.length = (0, false) := if_neg c
    rw [E] at N
    have D : dT zs = (0, false) := by
      unfold dT
      by_cases h : zs = []
      · rw [if_pos h]
      · rw [if_neg h]
        have hl : 0 < zs.length := List.length_pos_iff.2 h; have rb := gD (Lv.abs (cg zs)) zs.length; refine dt ?_
        cases Lv.neg (cg zs) <;> simp only [sg] <;> simp <;> omega
    rw [D]; have HN := Lib.hid N; clear N D c E hr h64 b1; generalize aY (Lv.abs (cg zs)) = x1 at *; generalize bj (Lv.abs (cg zs)) = x0 at *; generalize Lv.neg (cg zs) = ng at *; go_enter Tryz.func134, Tryz.ntmps134; go_wp2_with fail; refine T.out.mono ?_; rintro e w1 ⟨rfl, hk, hb⟩; go_wp2_with fail; refine (L.out _ _ hb).mono ?_; rintro e w' ⟨rfl, n, rfl⟩; go_wp2_with fail; refine (HN.out _).mono ?_; rintro e w' ⟨rfl, n2, rfl⟩; go_wp2_with fail; go_ret2; exact ⟨rfl, kpt⟩
end

namespace Lv
open Go
abbrev BK (l : List Int) : Prop := l.Pairwise (· ≤ ·)
theorem kT (l : List Int) : (aV l).Perm l := List.mergeSort_perm l _
theorem AC (l : List Int) : BK (aV l) := by
  have := List.pairwise_mergeSort (le := fun a b : Int => decide (a ≤ b)) (fun a b c h1 h2 => by simp only [decide_eq_true_eq] at *; omega) (fun a b => by simp only [Bool.or_eq_true, decide_eq_true_eq]; omega) l; exact this.imp (fun h => by simpa using h)
theorem vO {l m : List Int} (p : l.Perm m) (h : BK l) (g : BK m) : l = m := p.eq_of_pairwise (le := (· ≤ ·)) (fun a b _ _ h1 h2 => Int.le_antisymm h1 h2) h g
theorem vP {l m : List Int} (p : l.Perm m) (g : BK m) : aV l = m := vO ((kT l).trans p) (AC l) g
theorem aM (l : List Int) : (aV l).length = l.length := (kT l).length_eq
def fH (l : List Int) : Int := l.tail.foldl min (l.headD 0)
def fI (l : List Int) : Int := l.tail.foldl max (l.headD 0)
theorem jM : ∀ (l : List Int) (a : Int), l.foldl min a ≤ a ∧ (∀ b ∈ l, l.foldl min a ≤ b) ∧ (l.foldl min a = a ∨ l.foldl min a ∈ l)
  | [], a => ⟨Int.le_refl _, fun _ h => (by cases h), Or.inl rfl⟩
  | b :: l, a => by
    obtain ⟨h1, h2, h3⟩ := jM l (min a b); rw [List.foldl_cons]; refine ⟨Int.le_trans h1 (Int.min_le_left _ _), fun c hc => ?_, ?_⟩
    · rcases List.mem_cons.1 hc with rfl | hc
      · exact Int.le_trans h1 (Int.min_le_right _ _)
      · exact h2 c hc
    · rcases h3 with h3 | h3
      · rw [h3]
        rcases (show min a b = a ∨ min a b = b by omega) with e | e
        · exact Or.inl e
        · exact Or.inr (by rw [e]; exact List.mem_cons_self)
      · exact Or.inr (List.mem_cons_of_mem _ h3)
theorem jN : ∀ (l : List Int) (a : Int), a ≤ l.foldl max a ∧ (∀ b ∈ l, b ≤ l.foldl max a) ∧ (l.foldl max a = a ∨ l.foldl max a ∈ l)
  | [], a => ⟨Int.le_refl _, fun _ h => (by cases h), Or.inl rfl⟩
  | b :: l, a => by
    obtain ⟨h1, h2, h3⟩ := jN l (max a b); rw [List.foldl_cons]; refine ⟨Int.le_trans (Int.le_max_left _ _) h1, fun c hc => ?_, ?_⟩
    · rcases List.mem_cons.1 hc with rfl | hc
      · exact Int.le_trans (Int.le_max_right _ _) h1
      · exact h2 c hc
    · rcases h3 with h3 | h3
      · rw [h3]
        rcases (show max a b = a ∨ max a b = b by omega) with e | e
        · exact Or.inl e
        · exact Or.inr (by rw [e]; exact List.mem_cons_self)
      · exact Or.inr (List.mem_cons_of_mem _ h3)
theorem sZ {l : List Int} (h : l ≠ []) : fH l ∈ l ∧ ∀ b ∈ l, fH l ≤ b := by
  cases l with
  | nil => exact absurd rfl h
  | cons a l =>
    obtain ⟨h1, h2, h3⟩ := jM l a; show l.foldl min a ∈ a :: l ∧ ∀ b ∈ a :: l, l.foldl min a ≤ b; refine ⟨?_, fun b hb => ?_⟩
    · rcases h3 with h3 | h3
      · rw [h3]; exact List.mem_cons_self
      · exact List.mem_cons_of_mem _ h3
    · rcases List.mem_cons.1 hb with rfl | hb
      · exact h1
      · exact h2 b hb
theorem ta {l : List Int} (h : l ≠ []) : fI l ∈ l ∧ ∀ b ∈ l, b ≤ fI l := by
  cases l with
  | nil => exact absurd rfl h
  | cons a l =>
    obtain ⟨h1, h2, h3⟩ := jN l a; show l.foldl max a ∈ a :: l ∧ ∀ b ∈ a :: l, b ≤ l.foldl max a; refine ⟨?_, fun b hb => ?_⟩
    · rcases h3 with h3 | h3
      · rw [h3]; exact List.mem_cons_self
      · exact List.mem_cons_of_mem _ h3
    · rcases List.mem_cons.1 hb with rfl | hb
      · exact h1
      · exact h2 b hb
end Lv
