/- Layer 14: what a function does, and Call (printed by wip/mkftext4.py). -/
import Derived.Test.YtbpkfnoenkoabaaGreatDoorFhGText3
import Derived.MapKept
import Derived.WideMake
namespace Go.Proofs.YtbpkfnoenkoabaaGreatDoor
set_option linter.unusedVariables false
set_option linter.unusedSimpArgs false
open Go.RowKit Lv
set_option maxRecDepth 100000
section
variable {o : Oper} {a : Act} {w : World}
theorem xmakeMap {T : TypeId} (ho : o.op = .makeMap T none) : (execOp a.eval o).run Tryz.prog w = .ok (.value (.map (some w.heap.size))) (w.alloc (.map #[] 0)) := by
  have hr := run_makeMap_plain (P := Tryz.prog) w T; unfold execOp
  simp only [ho, Option.map_none, Sem.run_bind, Sem.run_pure, hr, Result.andThen_ok]
theorem xmakeFunc1 {F : FuncId} {x : Operand} {u : Value} (ho : o.op = .makeFunc (.func F) #[x] #[]) (hx : a.eval x = u) : (execOp a.eval o).run Tryz.prog w = .ok (.value (.func (.func F) #[u] #[])) w := by
  unfold execOp
  simp only [ho, Instr.makeFunc, List.map_toArray, List.map_cons, List.map_nil, hx, Sem.run_bind, Sem.run_pure, Result.andThen_ok]
theorem xinsertM {x y z : Operand} {g k clock : Nat} {es : Array MapEntry} {v : Value} (ho : o.op = .insert 94 x y z) (hx : a.eval x = .map (some g)) (hy : a.eval y = .int .u8 k) (hz : a.eval z = v) (hb : w.heap[g]? = some (.map es clock)) (hf : Instr.findNow (.int .u8) (.int .u8 k) es.toList 0 = some none) :
    (execOp a.eval o).run Tryz.prog w = .ok .skip { w with heap := w.heap.setIfInBounds g (.map (es.push ⟨.int .u8 k, v, clock⟩) (clock + 1)) } := by
  have hc : (Instr.checkKey false 10000 5 (.int .u8 k)).run Tryz.prog w = .ok () w := MapKept.run_checkKey (k := .int .u8 k) Tryz.underlying5 (by simp [MapKept.IsKey]) false 9999
  have hr : (Instr.mapUpdate 94 (.map (some g)) (.int .u8 k) v).run Tryz.prog w = .ok () { w with heap := w.heap.setIfInBounds g (.map (es.push ⟨.int .u8 k, v, clock⟩) (clock + 1)) } := by
    simp [Instr.mapUpdate, run_underlying Tryz.underlying94, MapKept.run_getObj_map hb, hc, MapKept.run_findKey Tryz.underlying5 hf, MapKept.run_setObj_map _ hb, Result.andThen]
  unfold execOp
  simp only [ho, hx, hy, hz, Sem.run_bind, Sem.run_pure, hr, Result.andThen_ok]
theorem xlookM {x y : Operand} {g k clock i : Nat} {es : Array MapEntry} {v : Value} (ho : o.op = .lookup 94 x y false) (hx : a.eval x = .map (some g)) (hy : a.eval y = .int .u8 k) (hb : w.heap[g]? = some (.map es clock)) (hf : Instr.findNow (.int .u8) (.int .u8 k) es.toList 0 = some (some (i, v))) :
    (execOp a.eval o).run Tryz.prog w = .ok (.value v) w := by
  have hc : (Instr.checkKey es.isEmpty 10000 5 (.int .u8 k)).run Tryz.prog w = .ok () w := MapKept.run_checkKey (k := .int .u8 k) Tryz.underlying5 (by simp [MapKept.IsKey]) _ 9999
  have hr : (Instr.lookup 94 (.map (some g)) (.int .u8 k) false).run Tryz.prog w = .ok v w := by
    simp [Instr.lookup, run_underlying Tryz.underlying94, MapKept.run_getObj_map hb, hc, MapKept.run_findKey Tryz.underlying5 hf, Result.andThen]
  unfold execOp
  simp only [ho, hx, hy, Sem.run_bind, Sem.run_pure, hr, Result.andThen_ok]
end
theorem Own.putM {w0 w : World} {H : List Th} (h : Own w0 H w) (k : Nat) {g : Nat} {b : Obj} (e : H[k]? = some (Th.obj g b)) (b' : Obj) : Own w0 (H.set k (Th.obj g b')) { w with heap := w.heap.setIfInBounds g b' } :=
  h.turn k e (t' := Th.obj g b') (by have hb := h.get k e; have hg := (Array.getElem?_eq_some_iff.1 hb).1; show (w.heap.setIfInBounds g b')[g]? = some b'; rw [Array.getElem?_setIfInBounds_self_of_lt hg]) ⟨rfl, rfl, rfl, by simp, fun j hj ne => Array.getElem?_setIfInBounds_ne (fun c => ne (by rw [c]; rfl))⟩ (Or.inl rfl)
theorem wl_insE {ops : Array Oper} {rest : List Oper} {Q : Exit → Act → World → Prop} {o : Oper} {a : Act} {w w0 : World} {H : List Th} {x y z : Operand} {g k clock : Nat} {es : Array MapEntry} {v : Value} (h : Own w0 H w) (hw : Region.wanted o (yielded ops a.tmps) = true) (hn : o.dst = none) (ho : o.op = .insert 94 x y z) (hx : a.eval x = .map (some g)) (hy : a.eval y = .int .u8 k) (hz : a.eval z = v) (q : Nat) (e : H[q]? = some (Th.obj g (.map es clock))) (hf : Instr.findNow (.int .u8) (.int .u8 k) es.toList 0 = some none)
    (c : ∀ w', Own w0 (H.set q (Th.obj g (.map (es.push ⟨.int .u8 k, v, clock⟩) (clock + 1)))) w' → wpList Tryz.prog ops Q rest a w') : wpList Tryz.prog ops Q (o :: rest) a w :=
  wl_skip hw hn (xinsertM ho hx hy hz (h.get q e) hf) (c _ (h.putM q e _))
def m14 (fn : Nat) : FuncId := if fn = 31 then 132 else if fn = 32 then 133 else if fn = 33 then 134 else if fn = 34 then 135 else if fn = 35 then 136 else if fn = 36 then 137 else if fn = 37 then 138 else if fn = 38 then 139 else if fn = 39 then 140 else if fn = 40 then 141 else if fn = 41 then 142 else 143
def tabs14 (c : Value) : Nat → Array MapEntry
  | 0 => #[]
  | k + 1 => (tabs14 c k).push ⟨.int .u8 (31 + k : Nat), .func (.func (m14 (31 + k))) #[c] #[], k⟩
abbrev tab14 (c : Value) : Array MapEntry := tabs14 c 12
theorem tab14_at {fn : Nat} (c : Value) (h1 : 31 ≤ fn) (h2 : fn ≤ 42) : ∃ i, Instr.findNow (.int .u8) (.int .u8 fn) (tab14 c).toList 0 = some (some (i, .func (.func (m14 fn)) #[c] #[])) := by
  refine ⟨fn - 31, ?_⟩; rcases (show fn = 31 ∨ fn = 32 ∨ fn = 33 ∨ fn = 34 ∨ fn = 35 ∨ fn = 36 ∨ fn = 37 ∨ fn = 38 ∨ fn = 39 ∨ fn = 40 ∨ fn = 41 ∨ fn = 42 by omega) with rfl | rfl | rfl | rfl | rfl | rfl | rfl | rfl | rfl | rfl | rfl | rfl <;> kernel_rfl
theorem en_ftext_arity : En 59 := by intro args w; go_simp
theorem en_ftext_call__does : En 61 := by intro args w; go_simp
theorem en_ftext_convert : En 60 := by intro args w; go_simp
theorem en_val_Check : En 37 := by intro args w; go_simp
set_option maxHeartbeats 4000000 in
theorem does14_any (A B : Option Addr) (n1 c1 n2 c2 : Nat) (w : World) :
    Calls Tryz.prog 61 #[.agg #[.slice A n1 c1, .slice B n2 c2]] w fun e w' => ∃ g, e = .returned (.map (some g)) ∧ w.heap.size ≤ g ∧ w'.heap[g]? = some (.map (tab14 (.agg #[.slice A n1 c1, .slice B n2 c2])) 12) ∧ Kept w w' := by
  go_enter Tryz.func61, Tryz.ntmps61; refine sq fun hK1 => ?_
  refine ro [yNew w.heap.size (.cells #[.slice A n1 c1, .slice B n2 c2] 90 (0, 0)), yV _] 2 29 rfl rfl (Own.start w) (
    aP (fun hk bs hd => xbox rfl (bs.get 0 rfl rfl) (by kernel_rfl)) rfl <|
    aS (fun hk bs hd => xassign rfl rfl) rfl <|
    arm0) fun fa fw bs hv ap z q ov => ?_
  obtain ⟨gb1, s1, bgb1, hgb1⟩ := gotP hv 0 rfl rfl rfl; have ov := ov.cons hgb1 (Nat.le_trans (Own.start w).kept.size bgb1) ((Own.start w).below bgb1); have s2 := gv hv 1 rfl rfl; have ow := ov; refine wt hK1 ?_; refine sq fun hK2 => ?_
  refine ro [yMap fw.heap.size (.map #[] 0)] 1 29 z q ow (
    armM (wn rfl) (fun aa ww hk bs hd => xmakeMap rfl) rfl <|
    arm0) fun fa fw bs hv ap z q ov => ?_
  obtain ⟨s1, s2⟩ := b2 bs s1 s2; obtain ⟨gb2, s3, bgb2, hgb2⟩ := gotM hv 0 rfl rfl rfl; have ov := ov.cons hgb2 (Nat.le_trans ow.kept.size bgb2) (ow.below bgb2); have ow := ov; refine wl_value (v := .agg #[.slice A n1 c1, .slice B n2 c2]) (want0 rfl) (xloadN 2 (vs := [.slice A n1 c1, .slice B n2 c2]) rfl (by kernel_rfl) (by kernel_rfl) s1 (ow.box 1 rfl) (Nat.le_of_ble_eq_true rfl) rfl) ?_; refine wl_value (v := .func (.func 132) #[.agg #[.slice A n1 c1, .slice B n2 c2]] #[]) (want0 rfl) (xmakeFunc1 rfl (put_in (t := 4) z rfl)) ?_; refine wl_insE (k := 31) (v := .func (.func 132) #[.agg #[.slice A n1 c1, .slice B n2 c2]] #[]) ow (want0 rfl) rfl rfl (pb 5 (pb 4 s3 rfl) rfl) rfl (put_in (t := 5) (put_size z) rfl) 0 rfl (by kernel_rfl) (fun fw1 ofw1 => ?_); have ow := ofw1; refine wl_value (v := .agg #[.slice A n1 c1, .slice B n2 c2]) (want0 rfl) (xloadN 2 (vs := [.slice A n1 c1, .slice B n2 c2]) rfl (by kernel_rfl) (by kernel_rfl) (pb 5 (pb 4 s1 rfl) rfl) (ow.box 1 rfl) (Nat.le_of_ble_eq_true rfl) rfl) ?_; refine wl_value (v := .func (.func 133) #[.agg #[.slice A n1 c1, .slice B n2 c2]] #[]) (want0 rfl) (xmakeFunc1 rfl (put_in (t := 6) (put_size (put_size z)) rfl)) ?_; refine wl_insE (k := 32) (v := .func (.func 133) #[.agg #[.slice A n1 c1, .slice B n2 c2]] #[]) ow (want0 rfl) rfl rfl (pb 7 (pb 6 (pb 5 (pb 4 s3 rfl) rfl) rfl) rfl) rfl (put_in (t := 7) (put_size (put_size (put_size z))) rfl) 0 rfl (by kernel_rfl) (fun fw2 ofw2 => ?_); have ow := ofw2
  refine wl_value (v := .agg #[.slice A n1 c1, .slice B n2 c2]) (want0 rfl) (xloadN 2 (vs := [.slice A n1 c1, .slice B n2 c2]) rfl (by kernel_rfl) (by kernel_rfl) (pb 7 (pb 6 (pb 5 (pb 4 s1 rfl) rfl) rfl) rfl) (ow.box 1 rfl) (Nat.le_of_ble_eq_true rfl) rfl) ?_; refine wl_value (v := .func (.func 134) #[.agg #[.slice A n1 c1, .slice B n2 c2]] #[]) (want0 rfl) (xmakeFunc1 rfl (put_in (t := 8) (put_size (put_size (put_size (put_size z)))) rfl)) ?_; refine gt4 (put_size (put_size (put_size (put_size (put_size (put_size z)))))) (put_def (put_def (put_def (put_def (put_def (put_def q)))))) ow 1 (pb 9 (pb 8 (pb 7 (pb 6 (pb 5 (pb 4 s1 rfl) rfl) rfl) rfl) rfl) rfl) 2 (pb 9 (pb 8 (pb 7 (pb 6 (pb 5 (pb 4 s2 rfl) rfl) rfl) rfl) rfl) rfl) 3 (pb 9 (pb 8 (pb 7 (pb 6 (pb 5 (pb 4 s3 rfl) rfl) rfl) rfl) rfl) rfl) 9 (put_in (t := 9) (put_size (put_size (put_size (put_size (put_size z))))) rfl) fun fa fw z q ow s1 s2 s3 s9 => ?_; refine wl_insE (k := 33) (v := .func (.func 134) #[.agg #[.slice A n1 c1, .slice B n2 c2]] #[]) ow (want0 rfl) rfl rfl s3 rfl s9 0 rfl (by kernel_rfl) (fun fw3 ofw3 => ?_); have ow := ofw3; refine wl_value (v := .agg #[.slice A n1 c1, .slice B n2 c2]) (want0 rfl) (xloadN 2 (vs := [.slice A n1 c1, .slice B n2 c2]) rfl (by kernel_rfl) (by kernel_rfl) s1 (ow.box 1 rfl) (Nat.le_of_ble_eq_true rfl) rfl) ?_; refine wl_value (v := .func (.func 135) #[.agg #[.slice A n1 c1, .slice B n2 c2]] #[]) (want0 rfl) (xmakeFunc1 rfl (put_in (t := 10) z rfl)) ?_; refine wl_insE (k := 34) (v := .func (.func 135) #[.agg #[.slice A n1 c1, .slice B n2 c2]] #[]) ow (want0 rfl) rfl rfl (pb 11 (pb 10 s3 rfl) rfl) rfl (put_in (t := 11) (put_size z) rfl) 0 rfl (by kernel_rfl) (fun fw4 ofw4 => ?_)
  have ow := ofw4; refine wl_value (v := .agg #[.slice A n1 c1, .slice B n2 c2]) (want0 rfl) (xloadN 2 (vs := [.slice A n1 c1, .slice B n2 c2]) rfl (by kernel_rfl) (by kernel_rfl) (pb 11 (pb 10 s1 rfl) rfl) (ow.box 1 rfl) (Nat.le_of_ble_eq_true rfl) rfl) ?_; refine wl_value (v := .func (.func 136) #[.agg #[.slice A n1 c1, .slice B n2 c2]] #[]) (want0 rfl) (xmakeFunc1 rfl (put_in (t := 12) (put_size (put_size z)) rfl)) ?_; refine wl_insE (k := 35) (v := .func (.func 136) #[.agg #[.slice A n1 c1, .slice B n2 c2]] #[]) ow (want0 rfl) rfl rfl (pb 13 (pb 12 (pb 11 (pb 10 s3 rfl) rfl) rfl) rfl) rfl (put_in (t := 13) (put_size (put_size (put_size z))) rfl) 0 rfl (by kernel_rfl) (fun fw5 ofw5 => ?_); have ow := ofw5; refine wl_value (v := .agg #[.slice A n1 c1, .slice B n2 c2]) (want0 rfl) (xloadN 2 (vs := [.slice A n1 c1, .slice B n2 c2]) rfl (by kernel_rfl) (by kernel_rfl) (pb 13 (pb 12 (pb 11 (pb 10 s1 rfl) rfl) rfl) rfl) (ow.box 1 rfl) (Nat.le_of_ble_eq_true rfl) rfl) ?_; refine wl_value (v := .func (.func 137) #[.agg #[.slice A n1 c1, .slice B n2 c2]] #[]) (want0 rfl) (xmakeFunc1 rfl (put_in (t := 14) (put_size (put_size (put_size (put_size z)))) rfl)) ?_; refine gt4 (put_size (put_size (put_size (put_size (put_size (put_size z)))))) (put_def (put_def (put_def (put_def (put_def (put_def q)))))) ow 1 (pb 15 (pb 14 (pb 13 (pb 12 (pb 11 (pb 10 s1 rfl) rfl) rfl) rfl) rfl) rfl) 2 (pb 15 (pb 14 (pb 13 (pb 12 (pb 11 (pb 10 s2 rfl) rfl) rfl) rfl) rfl) rfl) 3 (pb 15 (pb 14 (pb 13 (pb 12 (pb 11 (pb 10 s3 rfl) rfl) rfl) rfl) rfl) rfl) 15 (put_in (t := 15) (put_size (put_size (put_size (put_size (put_size z))))) rfl) fun fa fw z q ow s1 s2 s3 s15 => ?_
  refine wl_insE (k := 36) (v := .func (.func 137) #[.agg #[.slice A n1 c1, .slice B n2 c2]] #[]) ow (want0 rfl) rfl rfl s3 rfl s15 0 rfl (by kernel_rfl) (fun fw6 ofw6 => ?_); have ow := ofw6; refine wl_value (v := .agg #[.slice A n1 c1, .slice B n2 c2]) (want0 rfl) (xloadN 2 (vs := [.slice A n1 c1, .slice B n2 c2]) rfl (by kernel_rfl) (by kernel_rfl) s1 (ow.box 1 rfl) (Nat.le_of_ble_eq_true rfl) rfl) ?_; refine wl_value (v := .func (.func 138) #[.agg #[.slice A n1 c1, .slice B n2 c2]] #[]) (want0 rfl) (xmakeFunc1 rfl (put_in (t := 16) z rfl)) ?_; refine wl_insE (k := 37) (v := .func (.func 138) #[.agg #[.slice A n1 c1, .slice B n2 c2]] #[]) ow (want0 rfl) rfl rfl (pb 17 (pb 16 s3 rfl) rfl) rfl (put_in (t := 17) (put_size z) rfl) 0 rfl (by kernel_rfl) (fun fw7 ofw7 => ?_); have ow := ofw7; refine wl_value (v := .agg #[.slice A n1 c1, .slice B n2 c2]) (want0 rfl) (xloadN 2 (vs := [.slice A n1 c1, .slice B n2 c2]) rfl (by kernel_rfl) (by kernel_rfl) (pb 17 (pb 16 s1 rfl) rfl) (ow.box 1 rfl) (Nat.le_of_ble_eq_true rfl) rfl) ?_; refine wl_value (v := .func (.func 139) #[.agg #[.slice A n1 c1, .slice B n2 c2]] #[]) (want0 rfl) (xmakeFunc1 rfl (put_in (t := 18) (put_size (put_size z)) rfl)) ?_; refine wl_insE (k := 38) (v := .func (.func 139) #[.agg #[.slice A n1 c1, .slice B n2 c2]] #[]) ow (want0 rfl) rfl rfl (pb 19 (pb 18 (pb 17 (pb 16 s3 rfl) rfl) rfl) rfl) rfl (put_in (t := 19) (put_size (put_size (put_size z))) rfl) 0 rfl (by kernel_rfl) (fun fw8 ofw8 => ?_); have ow := ofw8; refine wl_value (v := .agg #[.slice A n1 c1, .slice B n2 c2]) (want0 rfl) (xloadN 2 (vs := [.slice A n1 c1, .slice B n2 c2]) rfl (by kernel_rfl) (by kernel_rfl) (pb 19 (pb 18 (pb 17 (pb 16 s1 rfl) rfl) rfl) rfl) (ow.box 1 rfl) (Nat.le_of_ble_eq_true rfl) rfl) ?_
  refine wl_value (v := .func (.func 140) #[.agg #[.slice A n1 c1, .slice B n2 c2]] #[]) (want0 rfl) (xmakeFunc1 rfl (put_in (t := 20) (put_size (put_size (put_size (put_size z)))) rfl)) ?_; refine gt4 (put_size (put_size (put_size (put_size (put_size (put_size z)))))) (put_def (put_def (put_def (put_def (put_def (put_def q)))))) ow 1 (pb 21 (pb 20 (pb 19 (pb 18 (pb 17 (pb 16 s1 rfl) rfl) rfl) rfl) rfl) rfl) 2 (pb 21 (pb 20 (pb 19 (pb 18 (pb 17 (pb 16 s2 rfl) rfl) rfl) rfl) rfl) rfl) 3 (pb 21 (pb 20 (pb 19 (pb 18 (pb 17 (pb 16 s3 rfl) rfl) rfl) rfl) rfl) rfl) 21 (put_in (t := 21) (put_size (put_size (put_size (put_size (put_size z))))) rfl) fun fa fw z q ow s1 s2 s3 s21 => ?_; refine wl_insE (k := 39) (v := .func (.func 140) #[.agg #[.slice A n1 c1, .slice B n2 c2]] #[]) ow (want0 rfl) rfl rfl s3 rfl s21 0 rfl (by kernel_rfl) (fun fw9 ofw9 => ?_); have ow := ofw9; refine wl_value (v := .agg #[.slice A n1 c1, .slice B n2 c2]) (want0 rfl) (xloadN 2 (vs := [.slice A n1 c1, .slice B n2 c2]) rfl (by kernel_rfl) (by kernel_rfl) s1 (ow.box 1 rfl) (Nat.le_of_ble_eq_true rfl) rfl) ?_; refine wl_value (v := .func (.func 141) #[.agg #[.slice A n1 c1, .slice B n2 c2]] #[]) (want0 rfl) (xmakeFunc1 rfl (put_in (t := 22) z rfl)) ?_; refine wl_insE (k := 40) (v := .func (.func 141) #[.agg #[.slice A n1 c1, .slice B n2 c2]] #[]) ow (want0 rfl) rfl rfl (pb 23 (pb 22 s3 rfl) rfl) rfl (put_in (t := 23) (put_size z) rfl) 0 rfl (by kernel_rfl) (fun fw10 ofw10 => ?_); have ow := ofw10; refine wl_value (v := .agg #[.slice A n1 c1, .slice B n2 c2]) (want0 rfl) (xloadN 2 (vs := [.slice A n1 c1, .slice B n2 c2]) rfl (by kernel_rfl) (by kernel_rfl) (pb 23 (pb 22 s1 rfl) rfl) (ow.box 1 rfl) (Nat.le_of_ble_eq_true rfl) rfl) ?_
  refine wl_value (v := .func (.func 142) #[.agg #[.slice A n1 c1, .slice B n2 c2]] #[]) (want0 rfl) (xmakeFunc1 rfl (put_in (t := 24) (put_size (put_size z)) rfl)) ?_; refine wl_insE (k := 41) (v := .func (.func 142) #[.agg #[.slice A n1 c1, .slice B n2 c2]] #[]) ow (want0 rfl) rfl rfl (pb 25 (pb 24 (pb 23 (pb 22 s3 rfl) rfl) rfl) rfl) rfl (put_in (t := 25) (put_size (put_size (put_size z))) rfl) 0 rfl (by kernel_rfl) (fun fw11 ofw11 => ?_); have ow := ofw11; refine wl_value (v := .agg #[.slice A n1 c1, .slice B n2 c2]) (want0 rfl) (xloadN 2 (vs := [.slice A n1 c1, .slice B n2 c2]) rfl (by kernel_rfl) (by kernel_rfl) (pb 25 (pb 24 (pb 23 (pb 22 s1 rfl) rfl) rfl) rfl) (ow.box 1 rfl) (Nat.le_of_ble_eq_true rfl) rfl) ?_; refine wl_value (v := .func (.func 143) #[.agg #[.slice A n1 c1, .slice B n2 c2]] #[]) (want0 rfl) (xmakeFunc1 rfl (put_in (t := 26) (put_size (put_size (put_size (put_size z)))) rfl)) ?_; refine gt3 (put_size (put_size (put_size (put_size (put_size (put_size z)))))) (put_def (put_def (put_def (put_def (put_def (put_def q)))))) ow 2 (pb 27 (pb 26 (pb 25 (pb 24 (pb 23 (pb 22 s2 rfl) rfl) rfl) rfl) rfl) rfl) 3 (pb 27 (pb 26 (pb 25 (pb 24 (pb 23 (pb 22 s3 rfl) rfl) rfl) rfl) rfl) rfl) 27 (put_in (t := 27) (put_size (put_size (put_size (put_size (put_size z))))) rfl) fun fa fw z q ow s2 s3 s27 => ?_; refine wl_insE (k := 42) (v := .func (.func 143) #[.agg #[.slice A n1 c1, .slice B n2 c2]] #[]) ow (want0 rfl) rfl rfl s3 rfl s27 0 rfl (by kernel_rfl) (fun fw12 ofw12 => ?_)
  have ow := ofw12; refine wl_value (v := .map (some gb2)) (want0 rfl) (xmove rfl s3) ?_; refine wl_value (v := .map (some gb2)) (want0 rfl) (xassign rfl (put_in (t := 28) z rfl)) ?_; refine gt1 (put_size (put_size z)) (put_def (put_def q)) ow 2 (put_in (t := 2) (put_size z) rfl) fun fa fw z q ow s2 => ?_; refine wt hK2 ?_; refine wp_ret ?_; refine results_one rfl (res_tmp s2) q ?_; exact ⟨gb2, rfl, ow.old _ (List.mem_of_getElem? (i := 0) rfl) _ rfl, ow.get 0 rfl, ow.kept⟩
theorem en_m14 (fn : Nat) (args : Array Value) (w : World) : (callFunc (m14 fn) args).run Tryz.prog w = .ok (.enter (m14 fn) args) w := by
  unfold m14
  (repeat' split) <;> go_simp
theorem lo_pos (fn : Nat) : 1 ≤ lo14 fn := by unfold lo14; (repeat' split) <;> omega
theorem hi_le (fn : Nat) : hi14 fn ≤ 20 := by unfold hi14; (repeat' split) <;> omega
theorem chk_bad {v : Vl} (h : vChk v ≠ (0 : Int)) : vOk v = false := by
  unfold vChk at h
  cases e : vOk v with
  | false => rfl
  | true => rw [e] at h; exact absurd rfl h
theorem chk_ok {v : Vl} (h : ¬ (vChk v ≠ (0 : Int))) : vOk v = true := by
  unfold vChk at h
  cases e : vOk v with
  | true => rfl
  | false => rw [e] at h; exact absurd (by decide) h
theorem ret_pair {p : Vl × Int} {x : Vl} {c : Int} (h : p = (x, c)) : Ending.returned (.tuple #[aggV x, .int .i64 c]) = .returned (.tuple #[aggV p.1, .int .i64 p.2]) := by rw [h]
theorem num_small {v : Vl} (h : i64 v.n) : -922337203685478 ≤ Int.tdiv (vNum v).n 10000 ∧ Int.tdiv (vNum v).n 10000 ≤ 922337203685478 := by
  obtain ⟨h1, h2⟩ := num_i64 h; have e := tdiv_trunc (vNum v).n; have t := tmod_near (vNum v).n; have m := Int.tmod_add_mul_tdiv (vNum v).n 10000
  omega
set_option maxHeartbeats 4000000 in
theorem meth14_any (fn : Nat) (l : List Vl) (A : Option Addr) (n1 : Nat) (B : Option Addr) (n2 : Nat) (w : World) (mx : Int) (HM : Mx w mx) (h1 : 31 ≤ fn) (h2 : fn ≤ 42) (hlo : lo14 fn ≤ l.length ∧ l.length ≤ hi14 fn) (hall : ∀ v ∈ l, vOk v = true) (hs : ∀ v ∈ l, Small v) {base1 base2 : Nat} {e1 e2 : TypeId}
    (rs : w.ownsRow base1 e1 1 (.slice A ((txts14 fn 0 l).map strV).length n1) ((txts14 fn 0 l).map strV).length ((txts14 fn 0 l).map strV)) (rn : w.ownsRow base2 e2 1 (.slice B ((nums14 fn 0 l).map numV).length n2) ((nums14 fn 0 l).map numV).length ((nums14 fn 0 l).map numV)) :
    Calls Tryz.prog (m14 fn) #[.agg #[.slice A ((txts14 fn 0 l).map strV).length n1, .slice B ((nums14 fn 0 l).map numV).length n2]] w fun e w' => e = .returned (aggV (val14 fn (txts14 fn 0 l) (nums14 fn 0 l))) ∧ Kept w w' := by
  obtain ⟨ra, ca, _⟩ := RowC.of_own rs; obtain ⟨rb, _, _⟩ := RowC.of_own rn; clear rs rn; have tl : ∀ v ∈ l, (vTxt v).t.length ≤ 300 := fun v hv => Nat.le_trans (txt_short (hall v hv) (hs v hv).1) (by decide); have nl : ∀ v ∈ l, -922337203685478 ≤ Int.tdiv (vNum v).n 10000 ∧ Int.tdiv (vNum v).n 10000 ≤ 922337203685478 := fun v hv => num_small (hs v hv).1
  by_cases h38 : fn = 38
  · subst h38
    rw [nums38, txts38] at *; obtain ⟨b, off, rfl⟩ := ra.some (by simp only [List.length_map]; exact hlo.1); have hm : ((l.map fun v => (vTxt v).t).map strV).length = (l.map fun v => (vTxt v).t).length := List.length_map _; rw [hm] at ca ⊢; have hh : hi14 38 = 16 := rfl
    exact concat14_any (l.map fun v => (vTxt v).t) b off n1 B n2 w ra (by simp only [List.length_map]; have := hlo.1; have : lo14 38 = 1 := rfl; omega) ca (fun t ht => by
      obtain ⟨v, hv, rfl⟩ := List.mem_map.1 ht; exact tl v hv)
  have two : l.length ≤ 3 := by
    have := hlo.2; unfold hi14 at this
    (repeat' split at this) <;> omega
  match l, two with
  | [], _ => have := lo_pos fn; simp at hlo; omega
  | [v], _ =>
    have tv := tl v (by simp)
    have g1 : fn = 31 ∨ fn = 32 ∨ fn = 33 ∨ fn = 35 ∨ fn = 36 ∨ fn = 37 ∨ fn = 42 := by
      have := hlo.1; unfold lo14 at this
      simp only [List.length_singleton] at this
      (repeat' split at this) <;> omega
    rcases g1 with rfl | rfl | rfl | rfl | rfl | rfl | rfl <;> obtain ⟨b, off, rfl⟩ := ra.some (Nat.zero_lt_one)
    · exact len14_any (vTxt v).t b off n1 B n2 w ra tv
    · exact left14_none (vTxt v).t b off n1 B n2 w ra tv
    · exact right14_none (vTxt v).t b off n1 B n2 w ra tv
    · exact upper14_any (vTxt v).t b off n1 B n2 w ra tv
    · exact lower14_any (vTxt v).t b off n1 B n2 w ra tv
    · exact trim14_any (vTxt v).t b off n1 B n2 w ra tv mx HM
    · exact value14_any (vTxt v).t b off n1 B n2 w ra tv mx HM
  | [v, u], _ =>
    have tv := tl v (by simp); have tu := tl u (by simp); have nu := nl u (by simp)
    have g1 : fn = 32 ∨ fn = 33 ∨ fn = 39 ∨ fn = 40 ∨ fn = 41 := by
      have a := hlo.1; have b := hlo.2; unfold lo14 at a; unfold hi14 at b
      simp only [List.length_cons, List.length_nil] at a b
      (repeat' split at a) <;> (repeat' split at b) <;> omega
    rcases g1 with rfl | rfl | rfl | rfl | rfl
    · obtain ⟨b, off, rfl⟩ := ra.some (Nat.zero_lt_one)
      obtain ⟨b2, off2, rfl⟩ := rb.some (Nat.zero_lt_one); exact left14_some (vTxt v).t _ b off n1 b2 off2 n2 w ra rb tv nu
    · obtain ⟨b, off, rfl⟩ := ra.some (Nat.zero_lt_one)
      obtain ⟨b2, off2, rfl⟩ := rb.some (Nat.zero_lt_one); exact right14_some (vTxt v).t _ b off n1 b2 off2 n2 w ra rb tv nu
    · obtain ⟨b, off, rfl⟩ := ra.some (Nat.zero_lt_one)
      obtain ⟨b2, off2, rfl⟩ := rb.some (Nat.zero_lt_one); exact rept14_any (vTxt v).t _ b off n1 b2 off2 n2 w ra rb tv nu
    · obtain ⟨b, off, rfl⟩ := ra.some (Nat.zero_lt_succ _)
      exact exact14_any (vTxt v).t (vTxt u).t b off n1 B n2 w ra tv tu
    · obtain ⟨b, off, rfl⟩ := ra.some (Nat.zero_lt_succ _)
      exact find14_none (vTxt v).t (vTxt u).t b off n1 B n2 w ra tv tu mx HM
  | [v, u, x], _ =>
    have tv := tl v (by simp); have tu := tl u (by simp); have nu := nl u (by simp); have nx := nl x (by simp)
    have g1 : fn = 34 ∨ fn = 41 := by
      have b := hlo.2; unfold hi14 at b
      simp only [List.length_cons, List.length_nil] at b
      (repeat' split at b) <;> omega
    rcases g1 with rfl | rfl
    · obtain ⟨b, off, rfl⟩ := ra.some (Nat.zero_lt_one)
      obtain ⟨b2, off2, rfl⟩ := rb.some (Nat.zero_lt_succ _); exact mid14_any (vTxt v).t _ _ b off n1 b2 off2 n2 w ra rb tv nu nx
    · obtain ⟨b, off, rfl⟩ := ra.some (Nat.zero_lt_succ _)
      obtain ⟨b2, off2, rfl⟩ := rb.some (Nat.zero_lt_one); exact find14_some (vTxt v).t (vTxt u).t _ b off n1 b2 off2 n2 w ra rb tv tu nx mx HM
set_option maxHeartbeats 8000000 in
theorem call14_any (fn : Nat) (A : Option Addr) (cap : Nat) (l : List Vl) (w : World) (mx : Int) (HM : Mx w mx) (hr : RowV w A l) (hs : ∀ v ∈ l, Small v) (hl : l.length ≤ 1000000) (hc : l.length ≤ cap) :
    Calls Tryz.prog 21 #[.int .u8 fn, .slice A l.length cap] w fun e w' => e = .returned (.tuple #[aggV (vCall14 fn l).1, .int .i64 (vCall14 fn l).2]) ∧ Kept w w' := by
  go_enter Tryz.func21, Tryz.ntmps21; refine sq fun hK1 => ?_
  refine ro [yNew w.heap.size (.cells #[.int .u8 0, .int .i64 0, .string ⟨[].toArray⟩] 25 (0, 0)), yV _] 2 62 rfl rfl (Own.start w) (
    aP (fun hk bs hd => xalloc rfl (by kernel_rfl)) rfl <|
    aS (fun hk bs hd => xassign rfl rfl) rfl <|
    arm0) fun fa fw bs hv ap z q ov => ?_
  have s0 := bs.get 0 rfl rfl; have s1 := bs.get 1 rfl rfl; obtain ⟨gb1, s4, bgb1, hgb1⟩ := gotP hv 0 rfl rfl rfl; have ov := ov.cons hgb1 (Nat.le_trans (Own.start w).kept.size bgb1) ((Own.start w).below bgb1); have s5 := gv hv 1 rfl rfl; have ow := ov; refine wt hK1 ?_; refine sq fun hK2 => ?_; refine sq fun hK3 => ?_
  refine ro [yV _, yV _, yV _, yIf (((decide ((fn : Int) < (31 : Int))) = false)) (yV (.int .u8 (fn : Int))), yIf (((decide ((fn : Int) < (31 : Int))) = false)) (yV (.bool (decide ((42 : Int) < (fn : Int))))), yV _] 6 62 z q ow (
    mvS s0 rfl rfl rfl rfl <|
    aS (fun hk bs hd => xlss rfl (dp hd 0 rfl) rfl) rfl <|
    mvD 1 rfl rfl rfl rfl rfl rfl <|
    arm (fun aa ww hk bs hd => by
      have d2 := dp hd 2 rfl
      by_cases hz : ((decide ((fn : Int) < (31 : Int))) = false)
      · exact stepX_same (v := .int .u8 (fn : Int)) (want1 (j := 2) (b := false) rfl (d2.trans (congrArg Value.bool hz))) (xmove rfl (bg bs s0)) ⟨fun _ => rfl, fun c => absurd hz c⟩ rfl
      · exact stepX_skip (wantN (j := 2) (b := false) (b' := true) rfl (d2.trans (congrArg Value.bool (by simpa using hz))) rfl) ⟨fun c => absurd c hz, fun _ => rfl⟩ rfl
      ) <|
    arm (fun aa ww hk bs hd => by
      have d2 := dp hd 2 rfl; have d3 := dI hd 3 rfl
      by_cases hz : ((decide ((fn : Int) < (31 : Int))) = false)
      · exact stepX_same (v := .bool (decide ((42 : Int) < (fn : Int)))) (want1 (j := 2) (b := false) rfl (d2.trans (congrArg Value.bool hz))) (xgtr rfl (d3.1 hz) rfl) ⟨fun _ => rfl, fun c => absurd hz c⟩ rfl
      · exact stepX_skip (wantN (j := 2) (b := false) (b' := true) rfl (d2.trans (congrArg Value.bool (by simpa using hz))) rfl) ⟨fun c => absurd c hz, fun _ => rfl⟩ rfl
      ) <|
    arm (fun aa ww hk bs hd => by
      have d2 := dp hd 2 rfl; have d4 := dI hd 4 rfl; exact stepX_same (v := .bool ((decide ((fn : Int) < (31 : Int))) || (decide ((42 : Int) < (fn : Int))))) (want0 rfl) (xor_ rfl (d2) rfl (fun hb => d4.1 hb)) rfl rfl
      ) <|
    arm0) fun fa fw bs hv ap z q ow => ?_
  obtain ⟨s0, s1, s4, s5⟩ := b4 bs s0 s1 s4 s5; have s18 := gv hv 5 rfl rfl; refine wt hK3 ?_
  by_cases hc1 : ((fn : Int) < (31 : Int)) ∨ ((42 : Int) < (fn : Int))
  · refine ct s18 ((bor (decide_eq_true_iff) (decide_eq_true_iff)).2 hc1) ?_
    refine sq fun hK4 => ?_
    refine ro [yV (aggV (⟨0, 0, []⟩ : Vl))] 1 62 z q ow (
      aS (fun hk bs hd => xbuild (us := #[]) rfl (by simp) (by kernel_rfl)) rfl <|
      arm0) fun fa fw bs hv ap z q ow => ?_
    obtain ⟨s0, s1, s4, s5⟩ := b4 bs s0 s1 s4 s5; have s19 := gv hv 0 rfl rfl; refine ws ow 0 0 s4 s19 fun fw ow => ?_; refine wl_value (v := .int .i64 10) (want0 rfl) (xassign rfl rfl) ?_; refine gp3 z q ow s0 s1 s4 fun fa fw z q ow s0 s1 s4 s5 => ?_; refine wt hK4 ?_; refine wp_ret ?_; refine then_r ?_; refine resultsL (v := .tuple #[aggV (⟨0, 0, []⟩ : Vl), .int .i64 10]) rfl (.cons (res_cell (n := 3) _ s4 (by kernel_rfl) (by kernel_rfl) (ow.box 0 rfl) (Nat.le_of_ble_eq_true rfl) rfl) (.cons (res_tmp s5) .nil)) rfl q ?_; exact ⟨ret_pair (v14_name (by omega)), ow.kept⟩
  refine cf s18 (bor (decide_eq_true_iff) (decide_eq_true_iff)) hc1 ?_; refine wp_skip ?_; refine tn hK2 ?_; refine sq fun hK5 => ?_; refine sq fun hK6 => ?_
  refine ro [yV _, yV (.tuple #[.int .i64 ((lo14 fn : Nat) : Int), .int .i64 ((hi14 fn : Nat) : Int)]), yV _, yV _, yV _, yV _, yV _] 7 62 z q ow (
    mvS s0 rfl rfl rfl rfl <|
    aC (fun hk bs hd => xcall1 rfl (dp hd 0 rfl) (en_ftext_arity _ _)) (fun hk bs hd => arity14_any fn _) rfl <|
    mvD 1 rfl rfl rfl rfl rfl rfl <|
    aS (fun hk bs hd => xextract rfl (dp hd 2 rfl) rfl) rfl <|
    aS (fun hk bs hd => xextract rfl (dp hd 2 rfl) rfl) rfl <|
    asD 3 rfl rfl rfl rfl rfl rfl <|
    asD 4 rfl rfl rfl rfl rfl rfl <|
    arm0) fun fa fw bs hv ap z q ow => ?_
  obtain ⟨s0, s1, s4, s5⟩ := b4 bs s0 s1 s4 s5; have s6 := gv hv 5 rfl rfl; have s7 := gv hv 6 rfl rfl; refine wt hK6 ?_; refine sq fun hK7 => ?_
  refine ro [yV _, yV _, yV _, yV _, yV _, yIf (((decide (((l.length : Nat) : Int) < ((lo14 fn : Nat) : Int))) = false)) (yV (.slice A l.length cap)), yIf (((decide (((l.length : Nat) : Int) < ((lo14 fn : Nat) : Int))) = false)) (yV (.int .i64 ((l.length : Nat) : Int))), yIf (((decide (((l.length : Nat) : Int) < ((lo14 fn : Nat) : Int))) = false)) (yV (.int .i64 ((hi14 fn : Nat) : Int))), yIf (((decide (((l.length : Nat) : Int) < ((lo14 fn : Nat) : Int))) = false)) (yV (.bool (decide (((hi14 fn : Nat) : Int) < ((l.length : Nat) : Int))))), yV _] 10 62 z q ow (
    mvS s1 rfl rfl rfl rfl <|
    aS (fun hk bs hd => xlen Tryz.underlying22 rfl (dp hd 0 rfl)) rfl <|
    mvS s6 rfl rfl rfl rfl <|
    aS (fun hk bs hd => xlss rfl (dp hd 1 rfl) (dp hd 2 rfl)) rfl <|
    mvD 3 rfl rfl rfl rfl rfl rfl <|
    arm (fun aa ww hk bs hd => by
      have d4 := dp hd 4 rfl
      by_cases hz : ((decide (((l.length : Nat) : Int) < ((lo14 fn : Nat) : Int))) = false)
      · exact stepX_same (v := .slice A l.length cap) (want1 (j := 4) (b := false) rfl (d4.trans (congrArg Value.bool hz))) (xmove rfl (bg bs s1)) ⟨fun _ => rfl, fun c => absurd hz c⟩ rfl
      · exact stepX_skip (wantN (j := 4) (b := false) (b' := true) rfl (d4.trans (congrArg Value.bool (by simpa using hz))) rfl) ⟨fun c => absurd c hz, fun _ => rfl⟩ rfl
      ) <|
    arm (fun aa ww hk bs hd => by
      have d4 := dp hd 4 rfl; have d5 := dI hd 5 rfl
      by_cases hz : ((decide (((l.length : Nat) : Int) < ((lo14 fn : Nat) : Int))) = false)
      · exact stepX_same (v := .int .i64 ((l.length : Nat) : Int)) (want1 (j := 4) (b := false) rfl (d4.trans (congrArg Value.bool hz))) (xlen Tryz.underlying22 rfl (d5.1 hz)) ⟨fun _ => rfl, fun c => absurd hz c⟩ rfl
      · exact stepX_skip (wantN (j := 4) (b := false) (b' := true) rfl (d4.trans (congrArg Value.bool (by simpa using hz))) rfl) ⟨fun c => absurd c hz, fun _ => rfl⟩ rfl
      ) <|
    arm (fun aa ww hk bs hd => by
      have d4 := dp hd 4 rfl
      by_cases hz : ((decide (((l.length : Nat) : Int) < ((lo14 fn : Nat) : Int))) = false)
      · exact stepX_same (v := .int .i64 ((hi14 fn : Nat) : Int)) (want1 (j := 4) (b := false) rfl (d4.trans (congrArg Value.bool hz))) (xmove rfl (bg bs s7)) ⟨fun _ => rfl, fun c => absurd hz c⟩ rfl
      · exact stepX_skip (wantN (j := 4) (b := false) (b' := true) rfl (d4.trans (congrArg Value.bool (by simpa using hz))) rfl) ⟨fun c => absurd c hz, fun _ => rfl⟩ rfl
      ) <|
    arm (fun aa ww hk bs hd => by
      have d4 := dp hd 4 rfl; have d6 := dI hd 6 rfl; have d7 := dI hd 7 rfl
      by_cases hz : ((decide (((l.length : Nat) : Int) < ((lo14 fn : Nat) : Int))) = false)
      · exact stepX_same (v := .bool (decide (((hi14 fn : Nat) : Int) < ((l.length : Nat) : Int)))) (want1 (j := 4) (b := false) rfl (d4.trans (congrArg Value.bool hz))) (xgtr rfl (d6.1 hz) (d7.1 hz)) ⟨fun _ => rfl, fun c => absurd hz c⟩ rfl
      · exact stepX_skip (wantN (j := 4) (b := false) (b' := true) rfl (d4.trans (congrArg Value.bool (by simpa using hz))) rfl) ⟨fun c => absurd c hz, fun _ => rfl⟩ rfl
      ) <|
    arm (fun aa ww hk bs hd => by
      have d4 := dp hd 4 rfl; have d8 := dI hd 8 rfl; exact stepX_same (v := .bool ((decide (((l.length : Nat) : Int) < ((lo14 fn : Nat) : Int))) || (decide (((hi14 fn : Nat) : Int) < ((l.length : Nat) : Int))))) (want0 rfl) (xor_ rfl (d4) rfl (fun hb => d8.1 hb)) rfl rfl
      ) <|
    arm0) fun fa fw bs hv ap z q ow => ?_
  obtain ⟨s0, s1, s4, s5⟩ := b4 bs s0 s1 s4 s5; have s34 := gv hv 9 rfl rfl; refine wt hK7 ?_
  by_cases hc2 : (((l.length : Nat) : Int) < ((lo14 fn : Nat) : Int)) ∨ (((hi14 fn : Nat) : Int) < ((l.length : Nat) : Int))
  · refine ct s34 ((bor (decide_eq_true_iff) (decide_eq_true_iff)).2 hc2) ?_
    refine sq fun hK8 => ?_
    refine ro [yV (aggV (⟨0, 0, []⟩ : Vl))] 1 62 z q ow (
      aS (fun hk bs hd => xbuild (us := #[]) rfl (by simp) (by kernel_rfl)) rfl <|
      arm0) fun fa fw bs hv ap z q ow => ?_
    obtain ⟨s0, s1, s4, s5⟩ := b4 bs s0 s1 s4 s5; have s35 := gv hv 0 rfl rfl; refine ws ow 0 0 s4 s35 fun fw ow => ?_; refine wl_value (v := .int .i64 11) (want0 rfl) (xassign rfl rfl) ?_; refine gp3 z q ow s0 s1 s4 fun fa fw z q ow s0 s1 s4 s5 => ?_; refine wt hK8 ?_; refine wp_ret ?_; refine then_r ?_; refine resultsL (v := .tuple #[aggV (⟨0, 0, []⟩ : Vl), .int .i64 11]) rfl (.cons (res_cell (n := 3) _ s4 (by kernel_rfl) (by kernel_rfl) (ow.box 0 rfl) (Nat.le_of_ble_eq_true rfl) rfl) (.cons (res_tmp s5) .nil)) rfl q ?_; exact ⟨ret_pair (v14_count (by omega) (by omega) (by omega)), ow.kept⟩
  refine cf s34 (bor (decide_eq_true_iff) (decide_eq_true_iff)) hc2 ?_; refine wp_skip ?_; refine tn hK5 ?_; refine sq fun hK9 => ?_; refine sq fun hK10 => ?_; have hlo : lo14 fn ≤ l.length ∧ l.length ≤ hi14 fn := by omega
  obtain ⟨b0, off0, rfl, _⟩ := hr 0 (by have := lo_pos fn; omega)
  refine ro [yV _, yV _, yV _] 3 62 z q ow (
    mvS s1 rfl rfl rfl rfl <|
    aS (fun hk bs hd => xlen Tryz.underlying22 rfl (dp hd 0 rfl)) rfl <|
    aS (fun hk bs hd => xmove rfl rfl) rfl <|
    arm0) fun fa fw bs hv ap z q ow => ?_
  obtain ⟨s0, s1, s4, s5⟩ := b4 bs s0 s1 s4 s5; have s36 := gv hv 0 rfl rfl; have s37 := gv hv 1 rfl rfl; have s38 := gv hv 2 rfl rfl; refine wt hK10 ?_; refine wp_block ?_; refine wp_loop_g (fun (k : Nat) fr u => (k ≤ l.length) ∧ (∀ j, j < k → vOk (l.getD j blankV) = true) ∧ fr.tmps.size = 62 ∧ fr.defers = [] ∧ Own w [Th.obj gb1 (.cells #[.int .u8 0, .int .i64 0, .string ⟨[].toArray⟩] 25 (0, 0))] u ∧ fr.eval (.tmp 0) = .int .u8 (fn : Int) ∧ fr.eval (.tmp 1) = .slice (some ⟨b0, off0, none⟩) l.length cap ∧ fr.eval (.tmp 4) = .pointer (some ⟨gb1, 0, none⟩) ∧ fr.eval (.tmp 36) = .slice (some ⟨b0, off0, none⟩) l.length cap ∧ fr.eval (.tmp 37) = .int .i64 ((l.length : Nat) : Int) ∧ fr.eval (.tmp 38) = .int .i64 (k : Int)) (fun k => l.length - k) 0 ⟨(Nat.zero_le _), (fun j hj => absurd hj (Nat.not_lt_zero j)), z, q, ow, s0, s1, s4, s36, s37, s38⟩ (fun k b_ u_ hI => ?_)
  revert b_ u_; intro fa fw hI
  obtain ⟨hk, hoks, z, q, ow, s0, s1, s4, s36, s37, s38⟩ := hI; refine sq fun hK11 => ?_
  refine ro [yV _] 1 62 z q ow (
    aS (fun hk bs hd => xlss rfl (bg bs s38) (bg bs s37)) rfl <|
    arm0) fun fa fw bs hv ap z q ow => ?_
  obtain ⟨s0, s1, s4, s36, s37, s38⟩ := b6 bs s0 s1 s4 s36 s37 s38; have s39 := gv hv 0 rfl rfl; refine wt hK11 ?_; refine sq fun hK12 => ?_
  by_cases hc3 : (k : Int) < ((l.length : Nat) : Int)
  · refine ct s39 ((decide_eq_true_iff).2 hc3) ?_
    refine wp_skip ?_; refine tn hK12 ?_; refine sq fun hK13 => ?_; refine wp_block ?_; refine sq fun hK14 => ?_; have hlt : k < l.length := by omega
    have hsk : Small (l.getD k blankV) := hs _ (by rw [show l.getD k blankV = l[k] by simp [List.getD, hlt]]; exact List.getElem_mem hlt)
    refine ro [yV _, yV (aggV (l.getD k blankV)), yNew fw.heap.size (.cells #[.int .u8 0, .int .i64 0, .string ⟨[].toArray⟩] 25 (0, 0))] 3 62 z q ow (
      aS (fun hk bs hd => xplaceV rfl (k := k) (bg bs s36) (bg bs s38) hlt) rfl <|
      aS (fun hk bs hd => xatV rfl (l := l) (k := k) (dp hd 0 rfl) (hr.kept (ow.keep hk).kept) hlt) rfl <|
      aP (fun hk bs hd => xalloc rfl (by kernel_rfl)) rfl <|
      arm0) fun fa fw bs hv ap z q ov => ?_
    obtain ⟨s0, s1, s4, s36, s37, s38⟩ := b6 bs s0 s1 s4 s36 s37 s38; have s41 := gv hv 1 rfl rfl; obtain ⟨gb2, s9, bgb2, hgb2⟩ := gotP hv 2 rfl rfl rfl; have ov := ov.cons hgb2 (Nat.le_trans ow.kept.size bgb2) (ow.below bgb2); have ow := ov; refine ws ow 0 0 s9 s41 fun fw ow => ?_; refine wt hK14 ?_; refine sq fun hK15 => ?_
    refine ro [yV (aggV (l.getD k blankV)), yV (.int .i64 (vChk (l.getD k blankV))), yV _] 3 62 z q ow (
      aS (fun hk bs hd => xloadN 3 rfl (by kernel_rfl) (by kernel_rfl) (bg bs s9) ((ow.keep hk).box 0 rfl) (Nat.le_of_ble_eq_true rfl) rfl) rfl <|
      aC (fun hk bs hd => xcall1 rfl (dp hd 0 rfl) (en_val_Check _ _)) (fun hk bs hd => vcheck5_any (l.getD k blankV) _ hsk.1 (Nat.le_trans hsk.2 (by decide))) rfl <|
      aS (fun hk bs hd => xnei rfl (dp hd 1 rfl) rfl) rfl <|
      arm0) fun fa fw bs hv ap z q ow => ?_
    obtain ⟨s0, s1, s4, s36, s37, s38⟩ := b6 bs s0 s1 s4 s36 s37 s38; have s44 := gv hv 2 rfl rfl; refine wt hK15 ?_
    by_cases hc4 : (vChk (l.getD k blankV) : Int) ≠ (0 : Int)
    · refine ct s44 ((decide_eq_true_iff).2 hc4) ?_
      have hbad : vOk (l.getD k blankV) = false := chk_bad hc4; refine sq fun hK16 => ?_
      refine ro [yV (aggV (⟨0, 0, []⟩ : Vl))] 1 62 z q ow (
        aS (fun hk bs hd => xbuild (us := #[]) rfl (by simp) (by kernel_rfl)) rfl <|
        arm0) fun fa fw bs hv ap z q ow => ?_
      obtain ⟨s0, s1, s4, s36, s37, s38⟩ := b6 bs s0 s1 s4 s36 s37 s38; have s45 := gv hv 0 rfl rfl; refine ws ow 1 0 s4 s45 fun fw ow => ?_; refine wl_value (v := .int .i64 2) (want0 rfl) (xassign rfl rfl) ?_; refine gp6 z q ow s0 s1 s4 s36 s37 s38 fun fa fw z q ow s0 s1 s4 s36 s37 s38 s5 => ?_; refine wt hK16 ?_; refine wp_ret ?_; refine block_r ?_; refine then_r ?_; refine then_r ?_; refine block_r ?_; refine then_r ?_; refine resultsL (v := .tuple #[aggV (⟨0, 0, []⟩ : Vl), .int .i64 2]) rfl (.cons (res_cell (n := 3) _ s4 (by kernel_rfl) (by kernel_rfl) (ow.box 1 rfl) (Nat.le_of_ble_eq_true rfl) rfl) (.cons (res_tmp s5) .nil)) rfl q ?_; exact ⟨ret_pair (v14_arg (by omega) (by omega) hlo hlt hbad), ow.kept⟩
    refine cf s44 (decide_eq_true_iff) hc4 ?_; have hok : vOk (l.getD k blankV) = true := chk_ok hc4; refine wp_skip ?_; refine block_n ?_; refine tn hK13 ?_
    refine ro [yV (.int .i64 ((k + 1 : Nat) : Int))] 1 62 z q ow (
      aS (fun hk bs hd => xadd (Or.inl rfl) rfl (bg bs s38) rfl (by omega) (by omega)) rfl <|
      arm0) fun fa fw bs hv ap z q ow => ?_
    obtain ⟨s0, s1, s4, s36, s37, s38⟩ := b6 bs s0 s1 s4 s36 s37 s38; have s46 := gv hv 0 rfl rfl; refine wl_value (v := .int .i64 ((k + 1 : Nat) : Int)) (want0 rfl) (xmove rfl s46) ?_; refine gp5 z q ow s0 s1 s4 s36 s37 fun fa fw z q ow s0 s1 s4 s36 s37 s38 => ?_; refine wl_end ?_; exact then_n ⟨(k + 1), ⟨hlt, (fun j hj => (Nat.lt_succ_iff_lt_or_eq.1 hj).elim (hoks j) (fun e => e ▸ hok)), z, q, ow.tail, s0, s1, s4, s36, s37, s38⟩, (show l.length - (k + 1) < l.length - k by omega)⟩
  refine cf s39 (decide_eq_true_iff) hc3 ?_; refine wp_exit ?_; refine then_e ?_; refine then_e ?_; refine block_hit ?_; refine tn hK9 ?_; refine sq fun hK17 => ?_; have hall := all_ok (l := l) (fun j hj => hoks j (by omega)); have hl20 : l.length ≤ 20 := by have := hi_le fn; omega
  have hk2 : (fn = 32 ∨ fn = 33 ∨ fn = 39) → l.length ≤ 2 := by have h := hlo; unfold lo14 hi14 at h; intro hq; (repeat' split at h) <;> omega
  have hk3 : fn = 34 → l.length = 3 := by have h := hlo; unfold lo14 hi14 at h; intro hq; (repeat' split at h) <;> omega
  have hk4 : fn = 41 → l.length ≤ 3 := by have h := hlo; unfold lo14 hi14 at h; intro hq; (repeat' split at h) <;> omega
  refine ro [yV _, yV _] 2 62 z q ow (
    mvS s0 rfl rfl rfl rfl <|
    mvS s1 rfl rfl rfl rfl <|
    arm0) fun fa fw bs hv ap z q ow => ?_
  obtain ⟨s0, s4⟩ := b2 bs s0 s4; have s48 := gv hv 0 rfl rfl; have s49 := gv hv 1 rfl rfl; refine wl_enter (want0 rfl) (xcall2 (u := .int .u8 (fn : Int)) (v := .slice (some ⟨b0, off0, none⟩) l.length cap) rfl s48 s49 (en_ftext_convert _ _)) ((convert14_any fn b0 off0 cap l _ mx (HM.kept ow.kept) (hr.kept ow.kept) hs hl20 hk2 hk3 hk4).mono ?_); rintro _ fw ⟨sv, nv, x, ok, rfl, hk, o1, o2, hcv⟩; refine ⟨_, rfl, ?_⟩; rcases hcv with ⟨rfl, hcv2⟩ | ⟨rfl, hcv2, hown⟩
  · skip
    have ow := ow.keep hk; clear hk; refine wl_value (v := .tuple #[.agg #[sv, nv], aggV x, .bool false]) (want0 rfl) (xmove rfl (put_in (t := 50) z rfl)) ?_; refine wl_value (v := .agg #[sv, nv]) (want0 rfl) (xextract rfl (put_in (t := 47) (put_size z) rfl) rfl) ?_; refine wl_value (v := aggV x) (want0 rfl) (xextract rfl (pb 51 (put_in (t := 47) (put_size z) rfl) rfl) rfl) ?_; refine wl_value (v := .bool false) (want0 rfl) (xextract rfl (pb 52 (pb 51 (put_in (t := 47) (put_size z) rfl) rfl) rfl) rfl) ?_; refine wl_newP ow (want0 rfl) (xalloc (b := .cells #[.slice none 0 0, .slice none 0 0] 90 (0, 0)) rfl (by kernel_rfl)) fun gb3 fw ow => ?_; refine gt6 (put_size (put_size (put_size (put_size (put_size (put_size z)))))) (put_def (put_def (put_def (put_def (put_def (put_def q)))))) ow 0 (pb 10 (pb 53 (pb 52 (pb 51 (pb 47 (pb 50 s0 rfl) rfl) rfl) rfl) rfl) rfl) 4 (pb 10 (pb 53 (pb 52 (pb 51 (pb 47 (pb 50 s4 rfl) rfl) rfl) rfl) rfl) rfl) 51 (pb 10 (pb 53 (pb 52 (put_in (t := 51) (put_size (put_size z)) rfl) rfl) rfl) rfl) 52 (pb 10 (pb 53 (put_in (t := 52) (put_size (put_size (put_size z))) rfl) rfl) rfl) 53 (pb 10 (put_in (t := 53) (put_size (put_size (put_size (put_size z)))) rfl) rfl) 10 (put_in (t := 10) (put_size (put_size (put_size (put_size (put_size z))))) rfl) fun fa fw z q ow s0 s4 s51 s52 s53 s10 => ?_; refine wl_newP ow (want0 rfl) (xalloc (b := .cells #[.int .u8 0, .int .i64 0, .string ⟨[].toArray⟩] 25 (0, 0)) rfl (by kernel_rfl)) fun gb4 fw ow => ?_; refine wl_store ow 1 0 (want0 rfl) rfl rfl (pb 11 s10 rfl) (pb 11 s51 rfl) (by kernel_rfl) rfl (one_cons (o1) (one_cons (o2) rfl)) rfl fun fw ow => ?_
    refine wl_store ow 0 0 (want0 rfl) rfl rfl (put_in (t := 11) z rfl) (pb 11 s52 rfl) (by kernel_rfl) rfl rfl rfl fun fw ow => ?_; refine wl_value (v := .bool false) (want0 rfl) (xassign rfl (pb 11 s53 rfl)) ?_; refine gt5 (put_size (put_size z)) (put_def (put_def q)) ow 0 (pb 12 (pb 11 s0 rfl) rfl) 4 (pb 12 (pb 11 s4 rfl) rfl) 10 (pb 12 (pb 11 s10 rfl) rfl) 11 (pb 12 (put_in (t := 11) z rfl) rfl) 12 (put_in (t := 12) (put_size z) rfl) fun fa fw z q ow s0 s4 s10 s11 s12 => ?_; refine wt hK17 ?_; refine sq fun hK18 => ?_; refine sq fun hK19 => ?_
    refine ro [yV _, yV _] 2 62 z q ow (
      mvS s12 rfl rfl rfl rfl <|
      aS (fun hk bs hd => xnot rfl (dp hd 0 rfl)) rfl <|
      arm0) fun fa fw bs hv ap z q ow => ?_
    obtain ⟨s0, s4, s10, s11⟩ := b4 bs s0 s4 s10 s11; have s55 := gv hv 1 rfl rfl; refine wt hK19 ?_; refine wp_cond_true (s55) ?_; refine sq fun hK20 => ?_
    refine ro [yV (aggV x)] 1 62 z q ow (
      aS (fun hk bs hd => xloadN 3 rfl (by kernel_rfl) (by kernel_rfl) (bg bs s11) ((ow.keep hk).box 0 rfl) (Nat.le_of_ble_eq_true rfl) rfl) rfl <|
      arm0) fun fa fw bs hv ap z q ow => ?_
    obtain ⟨s0, s4, s10⟩ := b3 bs s0 s4 s10; have s56 := gv hv 0 rfl rfl; refine ws ow 2 0 s4 s56 fun fw ow => ?_; refine wl_value (v := .int .i64 0) (want0 rfl) (xassign rfl rfl) ?_; refine gp3 z q ow s0 s4 s10 fun fa fw z q ow s0 s4 s10 s5 => ?_; refine wt hK20 ?_; refine wp_ret ?_; refine then_r ?_; refine resultsL (v := .tuple #[aggV x, .int .i64 0]) rfl (.cons (res_cell (n := 3) _ s4 (by kernel_rfl) (by kernel_rfl) (ow.box 2 rfl) (Nat.le_of_ble_eq_true rfl) rfl) (.cons (res_tmp s5) .nil)) rfl q ?_; exact ⟨ret_pair (v14_err (by omega) (by omega) hlo hall hcv2), ow.kept⟩
  have ow := ow.join hown; clear hk hown; obtain ⟨A, n1, rfl⟩ := row_slice (ow.row 0 rfl); obtain ⟨B, n2, rfl⟩ := row_slice (ow.row 1 rfl); refine wl_value (v := .tuple #[.agg #[.slice A ((txts14 fn 0 l).map strV).length n1, .slice B ((nums14 fn 0 l).map numV).length n2], aggV x, .bool true]) (want0 rfl) (xmove rfl (put_in (t := 50) z rfl)) ?_; refine wl_value (v := .agg #[.slice A ((txts14 fn 0 l).map strV).length n1, .slice B ((nums14 fn 0 l).map numV).length n2]) (want0 rfl) (xextract rfl (put_in (t := 47) (put_size z) rfl) rfl) ?_; refine wl_value (v := aggV x) (want0 rfl) (xextract rfl (pb 51 (put_in (t := 47) (put_size z) rfl) rfl) rfl) ?_; refine wl_value (v := .bool true) (want0 rfl) (xextract rfl (pb 52 (pb 51 (put_in (t := 47) (put_size z) rfl) rfl) rfl) rfl) ?_; refine wl_newP ow (want0 rfl) (xalloc (b := .cells #[.slice none 0 0, .slice none 0 0] 90 (0, 0)) rfl (by kernel_rfl)) fun gb5 fw ow => ?_; refine gt6 (put_size (put_size (put_size (put_size (put_size (put_size z)))))) (put_def (put_def (put_def (put_def (put_def (put_def q)))))) ow 0 (pb 10 (pb 53 (pb 52 (pb 51 (pb 47 (pb 50 s0 rfl) rfl) rfl) rfl) rfl) rfl) 4 (pb 10 (pb 53 (pb 52 (pb 51 (pb 47 (pb 50 s4 rfl) rfl) rfl) rfl) rfl) rfl) 51 (pb 10 (pb 53 (pb 52 (put_in (t := 51) (put_size (put_size z)) rfl) rfl) rfl) rfl) 52 (pb 10 (pb 53 (put_in (t := 52) (put_size (put_size (put_size z))) rfl) rfl) rfl) 53 (pb 10 (put_in (t := 53) (put_size (put_size (put_size (put_size z)))) rfl) rfl) 10 (put_in (t := 10) (put_size (put_size (put_size (put_size (put_size z))))) rfl) fun fa fw z q ow s0 s4 s51 s52 s53 s10 => ?_
  refine wl_newP ow (want0 rfl) (xalloc (b := .cells #[.int .u8 0, .int .i64 0, .string ⟨[].toArray⟩] 25 (0, 0)) rfl (by kernel_rfl)) fun gb6 fw ow => ?_; refine wl_store ow 1 0 (want0 rfl) rfl rfl (pb 11 s10 rfl) (pb 11 s51 rfl) (by kernel_rfl) rfl rfl rfl fun fw ow => ?_; refine wl_store ow 0 0 (want0 rfl) rfl rfl (put_in (t := 11) z rfl) (pb 11 s52 rfl) (by kernel_rfl) rfl rfl rfl fun fw ow => ?_; refine wl_value (v := .bool true) (want0 rfl) (xassign rfl (pb 11 s53 rfl)) ?_; refine gt5 (put_size (put_size z)) (put_def (put_def q)) ow 0 (pb 12 (pb 11 s0 rfl) rfl) 4 (pb 12 (pb 11 s4 rfl) rfl) 10 (pb 12 (pb 11 s10 rfl) rfl) 11 (pb 12 (put_in (t := 11) z rfl) rfl) 12 (put_in (t := 12) (put_size z) rfl) fun fa fw z q ow s0 s4 s10 s11 s12 => ?_; refine wt hK17 ?_; refine sq fun hK21 => ?_; refine sq fun hK22 => ?_
  refine ro [yV _, yV _] 2 62 z q ow (
    mvS s12 rfl rfl rfl rfl <|
    aS (fun hk bs hd => xnot rfl (dp hd 0 rfl)) rfl <|
    arm0) fun fa fw bs hv ap z q ow => ?_
  obtain ⟨s0, s4, s10, s11⟩ := b4 bs s0 s4 s10 s11; have s55 := gv hv 1 rfl rfl; refine wt hK22 ?_; refine wp_cond_false (s55) ?_; refine wp_skip ?_; refine tn hK21 ?_; refine sq fun hK23 => ?_
  refine ro [yV (.agg #[.slice A ((txts14 fn 0 l).map strV).length n1, .slice B ((nums14 fn 0 l).map numV).length n2])] 1 62 z q ow (
    aS (fun hk bs hd => xloadN 2 rfl (by kernel_rfl) (by kernel_rfl) (bg bs s10) ((ow.keep hk).box 1 rfl) (Nat.le_of_ble_eq_true rfl) rfl) rfl <|
    arm0) fun fa fw bs hv ap z q ow => ?_
  obtain ⟨s0, s4⟩ := b2 bs s0 s4; have s57 := gv hv 0 rfl rfl; refine wl_enter (want0 rfl) (xcall1 (u := .agg #[.slice A ((txts14 fn 0 l).map strV).length n1, .slice B ((nums14 fn 0 l).map numV).length n2]) rfl s57 (en_ftext_call__does _ _)) ((does14_any A B ((txts14 fn 0 l).map strV).length n1 ((nums14 fn 0 l).map numV).length n2 _).mono ?_); rintro _ fw ⟨gb7, rfl, hb, hh, hk⟩; refine ⟨_, rfl, ?_⟩; have ow := ow.add (t := Th.obj gb7 (.map (tab14 (.agg #[.slice A ((txts14 fn 0 l).map strV).length n1, .slice B ((nums14 fn 0 l).map numV).length n2])) 12)) hh hk (fun g e => by cases e; exact hb); clear hb hh hk; obtain ⟨im, him⟩ := tab14_at (fn := fn) (.agg #[.slice A ((txts14 fn 0 l).map strV).length n1, .slice B ((nums14 fn 0 l).map numV).length n2]) (by omega) (by omega); refine wl_value (v := .int .u8 (fn : Int)) (want0 rfl) (xmove rfl (pb 58 s0 rfl)) ?_; refine wl_value (v := .func (.func (m14 fn)) #[.agg #[.slice A ((txts14 fn 0 l).map strV).length n1, .slice B ((nums14 fn 0 l).map numV).length n2]] #[]) (want0 rfl) (xlookM rfl (pb 59 (put_in (t := 58) z rfl) rfl) (put_in (t := 59) (put_size z) rfl) (ow.get 0 rfl) him) ?_; refine wl_enter (want0 rfl) (xcall0M (F := (m14 fn)) rfl (put_in (t := 60) (put_size (put_size z)) rfl) (en_m14 fn _ _)) ((meth14_any fn l A n1 B n2 _ mx (HM.kept ow.kept) (by omega) (by omega) hlo hall hs (ow.row 3 rfl) (ow.row 4 rfl)).mono ?_); rintro _ fw ⟨rfl, hk⟩; refine ⟨_, rfl, ?_⟩; have ow := ow.keep hk; clear hk
  refine wl_store ow 5 0 (want0 rfl) rfl rfl (pb 61 (pb 60 (pb 59 (pb 58 s4 rfl) rfl) rfl) rfl) (put_in (t := 61) (put_size (put_size (put_size z))) rfl) (by kernel_rfl) rfl rfl rfl fun fw ow => ?_; refine wl_value (v := .int .i64 0) (want0 rfl) (xassign rfl rfl) ?_; refine gt2 (put_size (put_size (put_size (put_size (put_size z))))) (put_def (put_def (put_def (put_def (put_def q))))) ow 4 (pb 5 (pb 61 (pb 60 (pb 59 (pb 58 s4 rfl) rfl) rfl) rfl) rfl) 5 (put_in (t := 5) (put_size (put_size (put_size (put_size z)))) rfl) fun fa fw z q ow s4 s5 => ?_; refine wt hK23 ?_; refine wp_ret ?_; refine resultsL (v := .tuple #[aggV (val14 fn (txts14 fn 0 l) (nums14 fn 0 l)), .int .i64 0]) rfl (.cons (res_cell (n := 3) _ s4 (by kernel_rfl) (by kernel_rfl) (ow.box 5 rfl) (Nat.le_of_ble_eq_true rfl) rfl) (.cons (res_tmp s5) .nil)) rfl q ?_; exact ⟨ret_pair (v14_val (by omega) (by omega) hlo hall hcv2), ow.kept⟩
end Go.Proofs.YtbpkfnoenkoabaaGreatDoor
