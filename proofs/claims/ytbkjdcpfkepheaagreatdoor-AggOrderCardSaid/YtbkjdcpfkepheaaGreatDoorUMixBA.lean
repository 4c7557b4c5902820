/- Small texts together: GAgg8, GAgg4. -/
import Derived.Test.YtbkjdcpfkepheaaGreatDoorUGAgg7
import Derived.MapKept
import Derived.WideMake
import Derived.Test.YtbkjdcpfkepheaaGreatDoorUGAgg3
set_option linter.unusedVariables false
set_option linter.unusedSimpArgs false
namespace Go.Proofs.YtbkjdcpfkepheaaGreatDoor
open Go.RowKit Lv
set_option maxRecDepth 100000
section
variable {o : Oper} {a : Act} {w : World}
theorem xmakeMap16 {T : TypeId} (ho : o.op = .makeMap T none) : (execOp a.eval o).run Tryz.prog w = .ok (.value (.map (some w.heap.size))) (w.alloc (.map #[] 0)) := by
  have hr := run_makeMap_plain (P := Tryz.prog) w T; unfold execOp
  simp only [ho, Option.map_none, Sem.run_bind, Sem.run_pure, hr, Result.andThen_ok]
theorem xinsert16 {x y z : Operand} {g k clock : Nat} {es : Array MapEntry} {v : Value} (ho : o.op = .insert 97 x y z) (hx : a.eval x = .map (some g)) (hy : a.eval y = .int .u8 k) (hz : a.eval z = v) (hb : w.heap[g]? = some (.map es clock)) (hf : Instr.findNow (.int .u8) (.int .u8 k) es.toList 0 = some none) :
    (execOp a.eval o).run Tryz.prog w = .ok .skip { w with heap := w.heap.setIfInBounds g (.map (es.push ⟨.int .u8 k, v, clock⟩) (clock + 1)) } := by
  have hc : (Instr.checkKey false 10000 5 (.int .u8 k)).run Tryz.prog w = .ok () w := MapKept.run_checkKey (k := .int .u8 k) Tryz.underlying5 (by simp [MapKept.IsKey]) false 9999
  have hr : (Instr.mapUpdate 97 (.map (some g)) (.int .u8 k) v).run Tryz.prog w = .ok () { w with heap := w.heap.setIfInBounds g (.map (es.push ⟨.int .u8 k, v, clock⟩) (clock + 1)) } := by
    simp [Instr.mapUpdate, run_underlying Tryz.underlying97, MapKept.run_getObj_map hb, hc, MapKept.run_findKey Tryz.underlying5 hf, MapKept.run_setObj_map _ hb, Result.andThen]
  unfold execOp
  simp only [ho, hx, hy, hz, Sem.run_bind, Sem.run_pure, hr, Result.andThen_ok]
theorem xlook16 {x y : Operand} {g k clock i : Nat} {es : Array MapEntry} {v : Value} (ho : o.op = .lookup 97 x y false) (hx : a.eval x = .map (some g)) (hy : a.eval y = .int .u8 k) (hb : w.heap[g]? = some (.map es clock)) (hf : Instr.findNow (.int .u8) (.int .u8 k) es.toList 0 = some (some (i, v))) :
    (execOp a.eval o).run Tryz.prog w = .ok (.value v) w := by
  have hc : (Instr.checkKey es.isEmpty 10000 5 (.int .u8 k)).run Tryz.prog w = .ok () w := MapKept.run_checkKey (k := .int .u8 k) Tryz.underlying5 (by simp [MapKept.IsKey]) _ 9999
  have hr : (Instr.lookup 97 (.map (some g)) (.int .u8 k) false).run Tryz.prog w = .ok v w := by
    simp [Instr.lookup, run_underlying Tryz.underlying97, MapKept.run_getObj_map hb, hc, MapKept.run_findKey Tryz.underlying5 hf, Result.andThen]
  unfold execOp
  simp only [ho, hx, hy, Sem.run_bind, Sem.run_pure, hr, Result.andThen_ok]
theorem xlookN16 {x y : Operand} {g k clock : Nat} {es : Array MapEntry} (ho : o.op = .lookup 97 x y false) (hx : a.eval x = .map (some g)) (hy : a.eval y = .int .u8 k) (hb : w.heap[g]? = some (.map es clock)) (hf : Instr.findNow (.int .u8) (.int .u8 k) es.toList 0 = some none) :
    (execOp a.eval o).run Tryz.prog w = .ok (.value .nilFunc) w := by
  have hc : (Instr.checkKey es.isEmpty 10000 5 (.int .u8 k)).run Tryz.prog w = .ok () w := MapKept.run_checkKey (k := .int .u8 k) Tryz.underlying5 (by simp [MapKept.IsKey]) _ 9999; have hz : (zeroValue 96).run Tryz.prog w = .ok .nilFunc w := by kernel_rfl
  have hr : (Instr.lookup 97 (.map (some g)) (.int .u8 k) false).run Tryz.prog w = .ok .nilFunc w := by
    simp [Instr.lookup, run_underlying Tryz.underlying97, MapKept.run_getObj_map hb, hc, MapKept.run_findKey Tryz.underlying5 hf, Result.andThen, hz]
  unfold execOp
  simp only [ho, hx, hy, Sem.run_bind, Sem.run_pure, hr, Result.andThen_ok]
theorem xneF {T2 : TypeId} {x : Operand} {f : Fn} {b c : Array Value} (ho : o.op = .binOp .neq 96 x (.const .nilFunc) T2) (hx : a.eval x = .func f b c) : (execOp a.eval o).run Tryz.prog w = .ok (.value (.bool true)) w := by
  unfold execOp; rw [ho]
  simp only [hx, show a.eval (.const .nilFunc) = .nilFunc from rfl]
  have h : (binOp .neq 96 (.func f b c) .nilFunc).run Tryz.prog w = .ok (.bool true) w := by kernel_rfl
  have hg : (eqGuard .neq 96 x (.const .nilFunc) (.func f b c) .nilFunc).run Tryz.prog w = .ok () w := by kernel_rfl
  simp only [Sem.run_bind, Sem.run_pure, hg, h, Result.andThen_ok]
theorem xneN {T2 : TypeId} {x : Operand} (ho : o.op = .binOp .neq 96 x (.const .nilFunc) T2) (hx : a.eval x = .nilFunc) : (execOp a.eval o).run Tryz.prog w = .ok (.value (.bool false)) w := by
  unfold execOp; rw [ho]
  simp only [hx, show a.eval (.const .nilFunc) = .nilFunc from rfl]
  have h : (binOp .neq 96 .nilFunc .nilFunc).run Tryz.prog w = .ok (.bool false) w := by kernel_rfl
  have hg : (eqGuard .neq 96 x (.const .nilFunc) .nilFunc .nilFunc).run Tryz.prog w = .ok () w := by kernel_rfl
  simp only [Sem.run_bind, Sem.run_pure, hg, h, Result.andThen_ok]
end
theorem Own.put16 {w0 w : World} {H : List Th} (h : Own w0 H w) (k : Nat) {g : Nat} {b : Obj} (e : H[k]? = some (Th.obj g b)) (b' : Obj) : Own w0 (H.set k (Th.obj g b')) { w with heap := w.heap.setIfInBounds g b' } :=
  h.turn k e (t' := Th.obj g b') (by have hb := h.get k e; have hg := (Array.getElem?_eq_some_iff.1 hb).1; show (w.heap.setIfInBounds g b')[g]? = some b'; rw [Array.getElem?_setIfInBounds_self_of_lt hg]) ⟨rfl, rfl, rfl, by simp, fun j hj ne => Array.getElem?_setIfInBounds_ne (fun c => ne (by rw [c]; rfl))⟩ (Or.inl rfl)
theorem wl_ins16 {ops : Array Oper} {rest : List Oper} {Q : Exit → Act → World → Prop} {o : Oper} {a : Act} {w w0 : World} {H : List Th} {x y z : Operand} {g k clock : Nat} {es : Array MapEntry} {v : Value} (h : Own w0 H w) (hw : Region.wanted o (yielded ops a.tmps) = true) (hn : o.dst = none) (ho : o.op = .insert 97 x y z) (hx : a.eval x = .map (some g)) (hy : a.eval y = .int .u8 k) (hz : a.eval z = v) (q : Nat) (e : H[q]? = some (Th.obj g (.map es clock))) (hf : Instr.findNow (.int .u8) (.int .u8 k) es.toList 0 = some none)
    (c : ∀ w', Own w0 (H.set q (Th.obj g (.map (es.push ⟨.int .u8 k, v, clock⟩) (clock + 1)))) w' → wpList Tryz.prog ops Q rest a w') : wpList Tryz.prog ops Q (o :: rest) a w :=
  wl_skip hw hn (xinsert16 ho hx hy hz (h.get q e) hf) (c _ (h.put16 q e _))
def m16 (fn : Nat) : FuncId := if fn = 9 then 94 else if fn = 10 then 95 else if fn = 14 then 96 else if fn = 15 then 97 else if fn = 16 then 98 else if fn = 17 then 99 else if fn = 46 then 94 else if fn = 48 then 96 else if fn = 49 then 97 else 98
def keys16 : List Nat := [9, 10, 14, 15, 16, 17, 46, 48, 49, 50]
def tabs16 : Nat → Array MapEntry
  | 0 => #[]
  | k + 1 => (tabs16 k).push ⟨.int .u8 (keys16.getD k 0 : Nat), .func (.func (m16 (keys16.getD k 0))) #[] #[], k⟩
theorem fold_cases {fn : Nat} (h : isFold16 fn = true) : fn = 9 ∨ fn = 10 ∨ fn = 14 ∨ fn = 15 ∨ fn = 16 ∨ fn = 17 ∨ fn = 46 ∨ fn = 48 ∨ fn = 49 ∨ fn = 50 := by
  unfold isFold16 at h; rw [decide_eq_true_eq] at h; exact h
theorem tab16_at {fn : Nat} (h : isFold16 fn = true) : ∃ i, Instr.findNow (.int .u8) (.int .u8 fn) (tabs16 10).toList 0 = some (some (i, .func (.func (m16 fn)) #[] #[])) := by
  rcases fold_cases h with rfl | rfl | rfl | rfl | rfl | rfl | rfl | rfl | rfl | rfl
  · exact ⟨0, by kernel_rfl⟩
  · exact ⟨1, by kernel_rfl⟩
  · exact ⟨2, by kernel_rfl⟩
  · exact ⟨3, by kernel_rfl⟩
  · exact ⟨4, by kernel_rfl⟩
  · exact ⟨5, by kernel_rfl⟩
  · exact ⟨6, by kernel_rfl⟩
  · exact ⟨7, by kernel_rfl⟩
  · exact ⟨8, by kernel_rfl⟩
  · exact ⟨9, by kernel_rfl⟩
theorem en_m16 (fn : Nat) (args : Array Value) (w : World) : (callFunc (m16 fn) args).run Tryz.prog w = .ok (.enter (m16 fn) args) w := by
  unfold m16
  (repeat' split) <;> go_simp
set_option maxHeartbeats 4000000 in
theorem amedian_nil (A : Option Addr) (cap : Nat) (w : World) :
    Calls Tryz.prog 99 #[.slice A 0 cap] w fun e w' => e = .returned (aggV (vFail 3)) ∧ Kept w w' := by
  go_enter Tryz.func99, Tryz.ntmps99; refine sq fun hK1 => ?_
  refine ro [yNew w.heap.size (.cells #[.int .u8 0, .int .i64 0, .string ⟨[].toArray⟩] 25 (0, 0))] 1 36 rfl rfl (Own.start w) (
    aP (fun hk bs hd => xalloc rfl (by kernel_rfl)) rfl <|
    arm0) fun fa fw bs hv ap z q ov => ?_
  have s0 := bs.get 0 rfl rfl; obtain ⟨gb1, s2, bgb1, hgb1⟩ := gotP hv 0 rfl rfl rfl; have ov := ov.cons hgb1 (Nat.le_trans (Own.start w).kept.size bgb1) ((Own.start w).below bgb1); have ow := ov; refine wt hK1 ?_; refine sq fun hK2 => ?_; refine sq fun hK3 => ?_
  refine ro [yV _, yV _, yV (.bool true)] 3 36 z q ow (
    mvS s0 rfl rfl rfl rfl <|
    aS (fun hk bs hd => xlen Tryz.underlying54 rfl (dp hd 0 rfl)) rfl <|
    aE (fun hk bs hd => xeqi rfl (dp hd 1 rfl) rfl) (congrArg Value.bool rfl) rfl <|
    arm0) fun fa fw bs hv ap z q ow => ?_
  obtain ⟨s0, s2⟩ := b2 bs s0 s2; have s6 := gv hv 2 rfl rfl; refine wt hK3 ?_; refine wp_cond_true (s6) ?_; refine sq fun hK4 => ?_
  refine ro [yV (aggV (vFail 3))] 1 36 z q ow (
    aC (fun hk bs hd => xcall1 rfl rfl (en_val_Fail _ _)) (fun hk bs hd => vfail_any 3 _) rfl <|
    arm0) fun fa fw bs hv ap z q ow => ?_
  obtain ⟨s0, s2⟩ := b2 bs s0 s2; have s7 := gv hv 0 rfl rfl; refine ws ow 0 0 s2 s7 fun fw ow => ?_; refine wt hK4 ?_; refine wp_ret ?_; refine then_r ?_; refine rs3 s2 (ow.box 0 rfl) q ?_; exact ⟨rfl, ow.kept⟩
set_option maxHeartbeats 4000000 in
theorem asimple_any (w : World) :
    Calls Tryz.prog 63 #[] w fun e w' => ∃ g, e = .returned (.map (some g)) ∧ w.heap.size ≤ g ∧ w'.heap[g]? = some (.map (tabs16 10) 10) ∧ Kept w w' := by
  go_enter Tryz.func63, Tryz.ntmps63; refine sq fun hK1 => ?_
  refine ro [yV _] 1 3 rfl rfl (Own.start w) (
    aS (fun hk bs hd => xassign rfl rfl) rfl <|
    arm0) fun fa fw bs hv ap z q ow => ?_
  have s0 := gv hv 0 rfl rfl; refine wt hK1 ?_; refine sq fun hK2 => ?_
  refine ro [yMap fw.heap.size (.map #[] 0)] 1 3 z q ow (
    armM (wn rfl) (fun aa ww hk bs hd => xmakeMap16 rfl) rfl <|
    arm0) fun fa fw bs hv ap z q ov => ?_
  have s0 := bg bs s0; obtain ⟨gb1, s1, bgb1, hgb1⟩ := gotM hv 0 rfl rfl rfl; have ov := ov.cons hgb1 (Nat.le_trans ow.kept.size bgb1) (ow.below bgb1); have ow := ov; refine wl_ins16 (k := 9) (v := .func (.func 94) #[] #[]) ow (want0 rfl) rfl rfl s1 rfl rfl 0 rfl (by kernel_rfl) (fun fw1 ofw1 => ?_); have ow := ofw1; refine wl_ins16 (k := 10) (v := .func (.func 95) #[] #[]) ow (want0 rfl) rfl rfl s1 rfl rfl 0 rfl (by kernel_rfl) (fun fw2 ofw2 => ?_); have ow := ofw2; refine wl_ins16 (k := 14) (v := .func (.func 96) #[] #[]) ow (want0 rfl) rfl rfl s1 rfl rfl 0 rfl (by kernel_rfl) (fun fw3 ofw3 => ?_); have ow := ofw3; refine wl_ins16 (k := 15) (v := .func (.func 97) #[] #[]) ow (want0 rfl) rfl rfl s1 rfl rfl 0 rfl (by kernel_rfl) (fun fw4 ofw4 => ?_); have ow := ofw4; refine wl_ins16 (k := 16) (v := .func (.func 98) #[] #[]) ow (want0 rfl) rfl rfl s1 rfl rfl 0 rfl (by kernel_rfl) (fun fw5 ofw5 => ?_); have ow := ofw5; refine wl_ins16 (k := 17) (v := .func (.func 99) #[] #[]) ow (want0 rfl) rfl rfl s1 rfl rfl 0 rfl (by kernel_rfl) (fun fw6 ofw6 => ?_); have ow := ofw6; refine wl_ins16 (k := 46) (v := .func (.func 94) #[] #[]) ow (want0 rfl) rfl rfl s1 rfl rfl 0 rfl (by kernel_rfl) (fun fw7 ofw7 => ?_); have ow := ofw7; refine wl_ins16 (k := 48) (v := .func (.func 96) #[] #[]) ow (want0 rfl) rfl rfl s1 rfl rfl 0 rfl (by kernel_rfl) (fun fw8 ofw8 => ?_); have ow := ofw8; refine wl_ins16 (k := 49) (v := .func (.func 97) #[] #[]) ow (want0 rfl) rfl rfl s1 rfl rfl 0 rfl (by kernel_rfl) (fun fw9 ofw9 => ?_)
  have ow := ofw9; refine wl_ins16 (k := 50) (v := .func (.func 98) #[] #[]) ow (want0 rfl) rfl rfl s1 rfl rfl 0 rfl (by kernel_rfl) (fun fw10 ofw10 => ?_); have ow := ofw10; refine wl_value (v := .map (some gb1)) (want0 rfl) (xmove rfl s1) ?_; refine wl_value (v := .map (some gb1)) (want0 rfl) (xassign rfl (put_in (t := 2) z rfl)) ?_; refine gt1 (put_size (put_size z)) (put_def (put_def q)) ow 0 (put_in (t := 0) (put_size z) rfl) fun fa fw z q ow s0 => ?_; refine wt hK2 ?_; refine wp_ret ?_; refine results_one rfl (res_tmp s0) q ?_; exact ⟨gb1, rfl, ow.old _ (List.mem_of_getElem? (i := 0) rfl) _ rfl, ow.get 0 rfl, ow.kept⟩
theorem row_int {w : World} {b n c : Nat} {A : Option Addr} {l : List Int} (h : w.ownsRow b 2 1 (.slice A n c) n (l.map numV)) (hn : n = l.length) : Row w A l ∧ n ≤ c := by
  subst hn; obtain ⟨A2, c2, e, r⟩ := OwnI.row (l := l) h
  cases e
  rcases h.2 with ⟨e, h0⟩ | ⟨g, cap, cur, e, hb, hh, h4, h5, h6, h7⟩
  · exact ⟨r, by omega⟩
  · injection e with e1 e2 e3
    exact ⟨r, by omega⟩
theorem fold16_med {L : List Int} (h : L ≠ []) : fold16 17 L = (if L.length % 2 = 1 then vMake ((sort16 L).getD (L.length / 2) 0) else vRes (dMean [(sort16 L).getD (L.length / 2 - 1) 0, (sort16 L).getD (L.length / 2) 0])) := by
  unfold fold16; rw [if_neg (by decide), if_neg (by decide), if_pos rfl, if_neg h]
theorem fold_own {fn : Nat} (hf : isFold16 fn = true) {w0 w : World} {T : List Th} {b n : Nat} {v : Value} {L : List Int} (h : Own w0 (Th.row b 2 1 v n (L.map numV) :: T) w) (hn : n = L.length) (h64 : All64 L) (hl : L.length ≤ 1000000) :
    Calls Tryz.prog (m16 fn) #[v] w fun e w' => e = .returned (aggV (fold16 fn L)) ∧ Own w0 T w' := by
  subst hn; obtain ⟨A, cap, rfl⟩ := row_slice (h.row 0 rfl); obtain ⟨hr, hc⟩ := row_int (h.row 0 rfl) rfl; have K : ∀ {f : FuncId} {x : Vl}, (Calls Tryz.prog f #[.slice A L.length cap] w fun e w' => e = .returned (aggV x) ∧ Kept w w') → Calls Tryz.prog f #[.slice A L.length cap] w fun e w' => e = .returned (aggV x) ∧ Own w0 T w' := fun H => H.mono fun e w' ⟨he, hk⟩ => ⟨he, h.tail.keep hk⟩; rcases fold_cases hf with rfl | rfl | rfl | rfl | rfl | rfl | rfl | rfl | rfl | rfl
  · exact K (asum_any A cap L w hr h64 hl)
  · exact K (aproduct_any A cap L w hr h64 hl hc)
  · exact K (aaverage_any A cap L w hr h64 hl)
  · exact K (aleast_any A cap L w hr h64 hl)
  · exact K (agreatest_any A cap L w hr h64 hl)
  · show Calls Tryz.prog 99 _ _ _
    rcases Nat.eq_zero_or_pos L.length with h0 | h0
    · have e : L = [] := List.eq_nil_of_length_eq_zero h0
      subst e; exact K (amedian_nil A cap w)
    · obtain ⟨g, c, e, h⟩ := own_slice h h0
      cases e
      refine (amedian_some w0 w T b g _ L h h0 h64 hl).mono fun e w' ⟨he, ho⟩ => ⟨?_, ho⟩; rw [he, fold16_med (fun c => by rw [c] at h0; exact absurd h0 (by decide))]
  · exact K (asum_any A cap L w hr h64 hl)
  · exact K (aaverage_any A cap L w hr h64 hl)
  · exact K (aleast_any A cap L w hr h64 hl)
  · exact K (agreatest_any A cap L w hr h64 hl)
end Go.Proofs.YtbkjdcpfkepheaaGreatDoor

namespace Go.Proofs.YtbkjdcpfkepheaaGreatDoor
open Go.RowKit Lv
set_option maxRecDepth 100000
theorem Own.take {w0 w : World} {H : List Th} (h : Own w0 H w) (n : Nat) : Own w0 (H.take n) w := ⟨h.kept, fun s hs => h.has s (List.mem_of_mem_take hs), fun s hs => h.old s (List.mem_of_mem_take hs), h.apart.sublist (List.take_sublist _ _)⟩
theorem area_len (a : Ar) (h : a.l.length ≤ 1000000) : (area16 a).2.length ≤ 1000000 := by
  unfold area16
  split
  · exact h
  · show List.length (if a.v.k = 0 then [] else [_]) ≤ _
    split <;> simp
def cntP (fn : Nat) (c : Cl) : Bool := decide (fn = 12) || (decide (fn ≠ 13) && decide (c.v.k = 1))
theorem cntP_yes {fn : Nat} {c : Cl} (h : ((fn : Int) = (12 : Int)) ∨ (((fn : Int) ≠ (13 : Int)) ∧ ((c.v.k : Int) = (1 : Int)))) : cntP fn c = true := by
  unfold cntP
  simp only [Bool.or_eq_true, Bool.and_eq_true, decide_eq_true_eq]
  omega
theorem cntP_no {fn : Nat} {c : Cl} (h : ¬ (((fn : Int) = (12 : Int)) ∨ (((fn : Int) ≠ (13 : Int)) ∧ ((c.v.k : Int) = (1 : Int))))) : cntP fn c = false := by
  rw [← Bool.not_eq_true]; unfold cntP
  simp only [Bool.or_eq_true, Bool.and_eq_true, decide_eq_true_eq]
  omega
theorem cntP_13 (l : List Cl) : l.filter (cntP 13) = [] := by
  rw [List.filter_eq_nil_iff]; intro c _; unfold cntP
  simp
theorem count_snoc (fn : Nat) (l : List Ar) (a : Ar) : count16 fn (l ++ [a]) = count16 fn l + count16 fn [a] := by
  unfold count16
  simp
theorem count_blank {fn : Nat} {l : List Ar} {k : Nat} {a : Ar} {n m : Int} (ha : l[k]? = some a) (hf : (fn : Int) = (13 : Int)) (hn : n = count16 fn (l.take k)) (hm : m = n + (((area16 a).2.filter (cntP fn)).length : Int)) : m + (size16 (area16 a).1 - ((area16 a).2.length : Int)) = count16 fn (l.take (k + 1)) := by
  have e : fn = 13 := by omega
  subst e; rw [take_at ha, count_snoc, hm, hn, cntP_13]; unfold count16
  simp
theorem count_cells {fn : Nat} {l : List Ar} {k : Nat} {a : Ar} {n m : Int} (ha : l[k]? = some a) (hf : ¬ ((fn : Int) = (13 : Int))) (hn : n = count16 fn (l.take k)) (hm : m = n + (((area16 a).2.filter (cntP fn)).length : Int)) : m = count16 fn (l.take (k + 1)) := by
  have e : fn ≠ 13 := by omega
  rw [take_at ha, count_snoc, hm, hn]; unfold count16
  simp only [List.map_cons, List.map_nil, List.sum_cons, List.sum_nil, if_neg e]
  have : (cntP fn) = fun c : Cl => decide (fn = 12 ∨ c.v.k = 1) := by
    funext c
    unfold cntP; rw [decide_eq_true (p := fn ≠ 13) e, Bool.true_and, Bool.decide_or]
  rw [this]
  omega
theorem en_agg_area : En 66 := by intro args w; go_simp
set_option maxHeartbeats 4000000 in
theorem acount_any (fn : Nat) (A : Option Addr) (cap : Nat) (l : List Ar) (w : World) (hr : ArgsAt w A l) (hl : ∀ a ∈ l, a.l.length ≤ 1000000) (hc : l.length ≤ 1000) :
    Calls Tryz.prog 69 #[.int .u8 fn, .slice A l.length cap] w fun e w' => e = .returned (aggV (vMake (count16 fn l * 10000))) ∧ Kept w w' := by
  go_enter Tryz.func69, Tryz.ntmps69; refine sq fun hK1 => ?_
  refine ro [yNew w.heap.size (.cells #[.int .u8 0, .int .i64 0, .string ⟨[].toArray⟩] 25 (0, 0))] 1 54 rfl rfl (Own.start w) (
    aP (fun hk bs hd => xalloc rfl (by kernel_rfl)) rfl <|
    arm0) fun fa fw bs hv ap z q ov => ?_
  have s0 := bs.get 0 rfl rfl; have s1 := bs.get 1 rfl rfl; obtain ⟨gb1, s4, bgb1, hgb1⟩ := gotP hv 0 rfl rfl rfl; have ov := ov.cons hgb1 (Nat.le_trans (Own.start w).kept.size bgb1) ((Own.start w).below bgb1); have ow := ov; refine wt hK1 ?_; refine sq fun hK2 => ?_
  refine ro [yV _] 1 54 z q ow (
    aS (fun hk bs hd => xassign rfl rfl) rfl <|
    arm0) fun fa fw bs hv ap z q ow => ?_
  obtain ⟨s0, s1, s4⟩ := b3 bs s0 s1 s4; have s5 := gv hv 0 rfl rfl; refine wt hK2 ?_; refine sq fun hK3 => ?_; refine sq fun hK4 => ?_
  refine ro [yV _, yV _, yV _] 3 54 z q ow (
    mvS s1 rfl rfl rfl rfl <|
    aS (fun hk bs hd => xlen Tryz.underlying22 rfl (dp hd 0 rfl)) rfl <|
    aS (fun hk bs hd => xmove rfl rfl) rfl <|
    arm0) fun fa fw bs hv ap z q ow => ?_
  obtain ⟨s0, s4, s5⟩ := b3 bs s0 s4 s5; have s11 := gv hv 0 rfl rfl; have s12 := gv hv 1 rfl rfl; have s13 := gv hv 2 rfl rfl; refine wt hK4 ?_; refine wp_block ?_; refine wp_loop_g (fun (k : Nat) fr u => ∃ (n : Int), (k ≤ l.length) ∧ (n = count16 fn (l.take k)) ∧ (-1000000 * (k : Int) ≤ n ∧ n ≤ 1048576 * (k : Int)) ∧ fr.tmps.size = 54 ∧ fr.defers = [] ∧ Own w [Th.obj gb1 (.cells #[.int .u8 0, .int .i64 0, .string ⟨[].toArray⟩] 25 (0, 0))] u ∧ fr.eval (.tmp 0) = .int .u8 (fn : Int) ∧ fr.eval (.tmp 4) = .pointer (some ⟨gb1, 0, none⟩) ∧ fr.eval (.tmp 5) = .int .i64 n ∧ fr.eval (.tmp 11) = .slice A l.length cap ∧ fr.eval (.tmp 12) = .int .i64 ((l.length : Nat) : Int) ∧ fr.eval (.tmp 13) = .int .i64 (k : Int)) (fun k => l.length - k) 0 ⟨0, (Nat.zero_le _), rfl, ⟨by omega, by omega⟩, z, q, ow, s0, s4, s5, s11, s12, s13⟩ (fun k b_ u_ hI => ?_)
  revert b_ u_; intro fa fw hI
  obtain ⟨n, hk0, hn, hnb, z, q, ow, s0, s4, s5, s11, s12, s13⟩ := hI; refine sq fun hK5 => ?_
  refine ro [yV _] 1 54 z q ow (
    aS (fun hk bs hd => xlss rfl (bg bs s13) (bg bs s12)) rfl <|
    arm0) fun fa fw bs hv ap z q ow => ?_
  obtain ⟨s0, s4, s5, s11, s12, s13⟩ := b6 bs s0 s4 s5 s11 s12 s13; have s14 := gv hv 0 rfl rfl; refine wt hK5 ?_; refine sq fun hK6 => ?_
  by_cases hc1 : (k : Int) < ((l.length : Nat) : Int)
  ·refine ct s14 ((decide_eq_true_iff).2 hc1) ?_
   refine wp_skip ?_; refine tn hK6 ?_; refine sq fun hK7 => ?_; refine wp_block ?_; refine sq fun hK8 => ?_; have hltk : k < l.length := by omega
   obtain ⟨a, ha⟩ := at_some hltk; obtain ⟨ba, oa, A1, c1, Aa, ea, r1, l1⟩ := hr.elem ha; have la := area_len a (hl a (List.mem_of_getElem? ha))
   refine ro [yV _, yV (.agg #[.bool a.w, .int .u8 a.v.k, .int .i64 a.v.n, .string ⟨a.v.t.toArray⟩, .int .i64 a.x.c1, .int .i64 a.x.r1, .int .i64 a.x.c2, .int .i64 a.x.r2, .slice A1 a.l.length c1]), yNew fw.heap.size (.cells #[.bool false, .int .u8 0, .int .i64 0, .string ⟨[].toArray⟩, .int .i64 0, .int .i64 0, .int .i64 0, .int .i64 0, .slice none 0 0] 39 (0, 0))] 3 54 z q ow (
     aS (fun hk bs hd => xplaceK 9 Tryz.underlying22 (by kernel_rfl) rfl Aa (bg bs s11) (bg bs s13) hltk) rfl <|
     aS (fun hk bs hd => xpartK (n := 9) 0 rfl (by kernel_rfl) (by kernel_rfl) (dp hd 0 rfl) rfl (ea.kept (ow.keep hk).kept)) rfl <|
     aP (fun hk bs hd => xalloc rfl (by kernel_rfl)) rfl <|
     arm0) fun fa fw bs hv ap z q ov => ?_
   obtain ⟨s0, s4, s5, s11, s12, s13⟩ := b6 bs s0 s4 s5 s11 s12 s13; have s16 := gv hv 1 rfl rfl; obtain ⟨gb2, s7, bgb2, hgb2⟩ := gotP hv 2 rfl rfl rfl; have ov := ov.cons hgb2 (Nat.le_trans ow.kept.size bgb2) (ow.below bgb2); have ow := ov; refine ws ow 0 0 s7 s16 fun fw ow => ?_; refine wt hK8 ?_; refine sq fun hK9 => ?_
   refine ro [yV (.agg #[.bool a.w, .int .u8 a.v.k, .int .i64 a.v.n, .string ⟨a.v.t.toArray⟩, .int .i64 a.x.c1, .int .i64 a.x.r1, .int .i64 a.x.c2, .int .i64 a.x.r2, .slice A1 a.l.length c1])] 1 54 z q ow (
     aS (fun hk bs hd => xloadN 9 rfl (by kernel_rfl) (by kernel_rfl) (bg bs s7) ((ow.keep hk).box 0 rfl) (Nat.le_of_ble_eq_true rfl) rfl) rfl <|
     arm0) fun fa fw bs hv ap z q ow => ?_
   obtain ⟨s0, s4, s5, s11, s12, s13⟩ := b6 bs s0 s4 s5 s11 s12 s13; have s17 := gv hv 0 rfl rfl; refine wl_enter (want0 rfl) (xcall1 (u := .agg #[.bool a.w, .int .u8 a.v.k, .int .i64 a.v.n, .string ⟨a.v.t.toArray⟩, .int .i64 a.x.c1, .int .i64 a.x.r1, .int .i64 a.x.c2, .int .i64 a.x.r2, .slice A1 a.l.length c1]) rfl s17 (en_agg_area _ _)) ((aarea_any a _ _ _ l1).mono ?_); rintro _ fw ⟨T, A2, c2, rfl, hT, hc2, hR⟩; refine ⟨_, rfl, ?_⟩; rcases hT with hT
   have ow := Own.both ow hT; have ow : Own w ((Th.obj gb2 (.cells #[.bool a.w, .int .u8 a.v.k, .int .i64 a.v.n, .string ⟨a.v.t.toArray⟩, .int .i64 a.x.c1, .int .i64 a.x.r1, .int .i64 a.x.c2, .int .i64 a.x.r2, .slice A1 a.l.length c1] 39 (0, 0))) :: (Th.obj gb1 (.cells #[.int .u8 0, .int .i64 0, .string ⟨[].toArray⟩] 25 (0, 0))) :: T) fw := ow; refine wl_newP ow (want0 rfl) (xalloc (b := .cells #[.int .i64 0, .int .i64 0, .int .i64 0, .int .i64 0, .slice none 0 0] 37 (0, 0)) rfl (by kernel_rfl)) fun gb3 fw ow => ?_; refine wl_store ow 0 0 (want0 rfl) rfl rfl (put_in (t := 8) (put_size z) rfl) (pb 8 (put_in (t := 18) z rfl) rfl) (by kernel_rfl) rfl rfl rfl fun fw ow => ?_; refine gt7 (put_size (put_size z)) (put_def (put_def q)) ow 0 (pb 8 (pb 18 s0 rfl) rfl) 4 (pb 8 (pb 18 s4 rfl) rfl) 5 (pb 8 (pb 18 s5 rfl) rfl) 11 (pb 8 (pb 18 s11 rfl) rfl) 12 (pb 8 (pb 18 s12 rfl) rfl) 13 (pb 8 (pb 18 s13 rfl) rfl) 8 (put_in (t := 8) (put_size z) rfl) fun fa fw z q ow s0 s4 s5 s11 s12 s13 s8 => ?_; refine wt hK9 ?_; refine sq fun hK10 => ?_; refine sq fun hK11 => ?_
   refine ro [yV (.pointer (some ⟨gb3, 4, none⟩)), yV _, yV _, yV _] 4 54 z q ow (
     aS (fun hk bs hd => xfieldAddr rfl (bg bs s8) (by kernel_rfl)) rfl <|
     aS (fun hk bs hd => xloadB rfl (by kernel_rfl) (dp hd 0 rfl) ((ow.keep hk).box 0 rfl) rfl) rfl <|
     aS (fun hk bs hd => xlen Tryz.underlying35 rfl (dp hd 1 rfl)) rfl <|
     aS (fun hk bs hd => xmove rfl rfl) rfl <|
     arm0) fun fa fw bs hv ap z q ow => ?_
   obtain ⟨s0, s4, s5, s11, s12, s13, s8⟩ := b7 bs s0 s4 s5 s11 s12 s13 s8; have s20 := gv hv 1 rfl rfl; have s21 := gv hv 2 rfl rfl; have s22 := gv hv 3 rfl rfl; refine wt hK11 ?_; refine wp_block ?_; refine wp_loop_g (fun (j : Nat) fr u => ∃ (m : Int), (j ≤ (area16 a).2.length) ∧ (m = n + ((((area16 a).2.take j).filter (cntP fn)).length : Int)) ∧ fr.tmps.size = 54 ∧ fr.defers = [] ∧ Own w ((Th.obj gb3 (.cells #[.int .i64 (((area16 a).1).c1), .int .i64 (((area16 a).1).r1), .int .i64 (((area16 a).1).c2), .int .i64 (((area16 a).1).r2), .slice A2 ((area16 a).2.length) c2] 37 (0, 0))) :: (Th.obj gb2 (.cells #[.bool a.w, .int .u8 a.v.k, .int .i64 a.v.n, .string ⟨a.v.t.toArray⟩, .int .i64 a.x.c1, .int .i64 a.x.r1, .int .i64 a.x.c2, .int .i64 a.x.r2, .slice A1 a.l.length c1] 39 (0, 0))) :: (Th.obj gb1 (.cells #[.int .u8 0, .int .i64 0, .string ⟨[].toArray⟩] 25 (0, 0))) :: T) u ∧ fr.eval (.tmp 0) = .int .u8 (fn : Int) ∧ fr.eval (.tmp 4) = .pointer (some ⟨gb1, 0, none⟩) ∧ fr.eval (.tmp 5) = .int .i64 m ∧ fr.eval (.tmp 11) = .slice A l.length cap ∧ fr.eval (.tmp 12) = .int .i64 ((l.length : Nat) : Int) ∧ fr.eval (.tmp 13) = .int .i64 (k : Int) ∧ fr.eval (.tmp 8) = .pointer (some ⟨gb3, 0, none⟩) ∧ fr.eval (.tmp 20) = .slice A2 ((area16 a).2.length) c2 ∧ fr.eval (.tmp 21) = .int .i64 (((area16 a).2.length : Nat) : Int) ∧ fr.eval (.tmp 22) = .int .i64 (j : Int)) (fun j => (area16 a).2.length - j) 0 ⟨n, (Nat.zero_le _), (by simp), z, q, ow, s0, s4, s5, s11, s12, s13, s8, s20, s21, s22⟩ (fun j b_ u_ hI => ?_)
   revert b_ u_; intro fa fw hI
   obtain ⟨m, hj0, hm, z, q, ow, s0, s4, s5, s11, s12, s13, s8, s20, s21, s22⟩ := hI; refine sq fun hK12 => ?_
   refine ro [yV _] 1 54 z q ow (
     aS (fun hk bs hd => xlss rfl (bg bs s22) (bg bs s21)) rfl <|
     arm0) fun fa fw bs hv ap z q ow => ?_
   obtain ⟨s0, s4, s5, s11, s12, s13, s8, s20⟩ := b8 bs s0 s4 s5 s11 s12 s13 s8 s20; obtain ⟨s21, s22⟩ := b2 bs s21 s22; have s23 := gv hv 0 rfl rfl; refine wt hK12 ?_; refine sq fun hK13 => ?_
   by_cases hc2 : (j : Int) < (((area16 a).2.length : Nat) : Int)
   ·refine ct s23 ((decide_eq_true_iff).2 hc2) ?_
    refine wp_skip ?_; refine tn hK13 ?_; refine sq fun hK14 => ?_; refine wp_block ?_; refine sq fun hK15 => ?_; have hr2 := hR _ _ (r1.kept ow.kept) ow.tail.tail.tail; have hltj : j < (area16 a).2.length := by omega
    obtain ⟨cl, hcl⟩ := at_some hltj; obtain ⟨bcl, ocl, Acl, ecl⟩ := hr2.elem hcl
    refine ro [yV _, yV (.agg #[.int .i64 cl.c, .int .i64 cl.r, .int .u8 cl.v.k, .int .i64 cl.v.n, .string ⟨cl.v.t.toArray⟩]), yNew fw.heap.size (.cells #[.int .i64 0, .int .i64 0, .int .u8 0, .int .i64 0, .string ⟨[].toArray⟩] 46 (0, 0))] 3 54 z q ow (
      aS (fun hk bs hd => xplaceK 5 Tryz.underlying35 (by kernel_rfl) rfl Acl (bg bs s20) (bg bs s22) hltj) rfl <|
      aS (fun hk bs hd => xpartK (n := 5) 0 rfl (by kernel_rfl) (by kernel_rfl) (dp hd 0 rfl) rfl (ecl.kept hk)) rfl <|
      aP (fun hk bs hd => xalloc rfl (by kernel_rfl)) rfl <|
      arm0) fun fa fw bs hv ap z q ov => ?_
    obtain ⟨s0, s4, s5, s11, s12, s13, s8, s20⟩ := b8 bs s0 s4 s5 s11 s12 s13 s8 s20; obtain ⟨s21, s22⟩ := b2 bs s21 s22; have s25 := gv hv 1 rfl rfl; obtain ⟨gb4, s10, bgb4, hgb4⟩ := gotP hv 2 rfl rfl rfl; have ov := ov.cons hgb4 (Nat.le_trans ow.kept.size bgb4) (ow.below bgb4); have ow := ov; refine ws ow 0 0 s10 s25 fun fw ow => ?_; refine wt hK15 ?_; refine sq fun hK16 => ?_
    refine ro [yV _, yV _, yV _, yIf _ (yV _), yIf _ (yV _), yIf _ (yV _), yIf _ (yV (.pointer (some ⟨gb4, 2, none⟩))), yIf _ (yV (.pointer (some ⟨gb4, 2, none⟩))), yIf _ (yV _), yIf _ (yV _), yIf _ (yV _), yV _] 12 54 z q ow (
      mvS s0 rfl rfl rfl rfl <|
      aS (fun hk bs hd => xeqi rfl (dp hd 0 rfl) rfl) rfl <|
      mvD 1 rfl rfl rfl rfl rfl rfl <|
      ai (g1 2 rfl rfl) (fun hk bs hd hz => xmove rfl (bg bs s0)) rfl <|
      ai (g1 2 rfl rfl) (fun hk bs hd hz => xnei rfl (di hd 3 rfl hz) rfl) rfl <|
      ai (g1 2 rfl rfl) (fun hk bs hd hz => xmove rfl (di hd 4 rfl hz)) rfl <|
      ai (g2 5 rfl rfl) (fun hk bs hd hz => xfieldAddr rfl (bg bs s10) (by kernel_rfl)) rfl <|
      ai (g2 5 rfl rfl) (fun hk bs hd hz => xfieldAddr rfl (di hd 6 rfl hz) (by kernel_rfl)) rfl <|
      ai (g2 5 rfl rfl) (fun hk bs hd hz => xloadB rfl (by kernel_rfl) (di hd 7 rfl hz) ((ow.keep hk).box 0 rfl) rfl) rfl <|
      ai (g2 5 rfl rfl) (fun hk bs hd hz => xeqi rfl (di hd 8 rfl hz) rfl) rfl <|
      ai (g1 2 rfl rfl) (fun hk bs hd hz => xand rfl (di hd 5 rfl hz) (fun hb => di hd 9 rfl ⟨hz, hb⟩) rfl) rfl <|
      aS (fun hk bs hd => xor_ rfl (dp hd 2 rfl) rfl (fun hb => di hd 10 rfl hb)) rfl <|
      arm0) fun fa fw bs hv ap z q ow => ?_
    obtain ⟨s0, s4, s5, s11, s12, s13, s8, s20⟩ := b8 bs s0 s4 s5 s11 s12 s13 s8 s20; obtain ⟨s21, s22⟩ := b2 bs s21 s22; have s37 := gv hv 11 rfl rfl; refine wt hK16 ?_
    by_cases hc3 : ((fn : Int) = (12 : Int)) ∨ (((fn : Int) ≠ (13 : Int)) ∧ ((cl.v.k : Int) = (1 : Int)))
    ·refine ct s37 ((bor (decide_eq_true_iff) (band (decide_eq_true_iff) (decide_eq_true_iff))).2 hc3) ?_
     have hcp : cntP fn cl = true := cntP_yes hc3; have fb := filter_le (area16 a).2 j (cntP fn)
     refine ro [yV _, yV _] 2 54 z q ow (
       mvS s5 rfl rfl rfl rfl <|
       aS (fun hk bs hd => xadd (Or.inl rfl) rfl (dp hd 0 rfl) rfl (by omega) (by omega)) rfl <|
       arm0) fun fa fw bs hv ap z q ow => ?_
     obtain ⟨s0, s4, s5, s11, s12, s13, s8, s20⟩ := b8 bs s0 s4 s5 s11 s12 s13 s8 s20; obtain ⟨s21, s22⟩ := b2 bs s21 s22; have s39 := gv hv 1 rfl rfl; refine wl_value (v := .int .i64 (m + 1)) (want0 rfl) (xassign rfl s39) ?_; refine gp9 z q ow s0 s4 s11 s12 s13 s8 s20 s21 s22 fun fa fw z q ow s0 s4 s11 s12 s13 s8 s20 s21 s22 s5 => ?_; refine wl_end ?_; refine block_n ?_; refine tn hK14 ?_
     refine ro [yV (.int .i64 ((j + 1 : Nat) : Int))] 1 54 z q ow (
       aS (fun hk bs hd => xadd (Or.inl rfl) rfl (bg bs s22) rfl (by omega) (by omega)) rfl <|
       arm0) fun fa fw bs hv ap z q ow => ?_
     obtain ⟨s0, s4, s11, s12, s13, s8, s20, s21⟩ := b8 bs s0 s4 s11 s12 s13 s8 s20 s21; obtain ⟨s22, s5⟩ := b2 bs s22 s5; have s40 := gv hv 0 rfl rfl; refine wl_value (v := .int .i64 ((j + 1 : Nat) : Int)) (want0 rfl) (xmove rfl s40) ?_; refine gp9 z q ow s0 s4 s11 s12 s13 s8 s20 s21 s5 fun fa fw z q ow s0 s4 s11 s12 s13 s8 s20 s21 s5 s22 => ?_; refine wl_end ?_; exact then_n ⟨(j + 1), ⟨(m + 1), hltj, (cnt_yes hm hcl hcp), z, q, ow.tail, s0, s4, s5, s11, s12, s13, s8, s20, s21, s22⟩, (show (area16 a).2.length - (j + 1) < (area16 a).2.length - j by omega)⟩
    refine cf s37 (bor (decide_eq_true_iff) (band (decide_eq_true_iff) (decide_eq_true_iff))) hc3 ?_; have hcp : cntP fn cl = false := cntP_no hc3; refine wp_skip ?_; refine block_n ?_; refine tn hK14 ?_
    refine ro [yV (.int .i64 ((j + 1 : Nat) : Int))] 1 54 z q ow (
      aS (fun hk bs hd => xadd (Or.inl rfl) rfl (bg bs s22) rfl (by omega) (by omega)) rfl <|
      arm0) fun fa fw bs hv ap z q ow => ?_
    obtain ⟨s0, s4, s5, s11, s12, s13, s8, s20⟩ := b8 bs s0 s4 s5 s11 s12 s13 s8 s20; obtain ⟨s21, s22⟩ := b2 bs s21 s22; have s40 := gv hv 0 rfl rfl; refine wl_value (v := .int .i64 ((j + 1 : Nat) : Int)) (want0 rfl) (xmove rfl s40) ?_; refine gp9 z q ow s0 s4 s5 s11 s12 s13 s8 s20 s21 fun fa fw z q ow s0 s4 s5 s11 s12 s13 s8 s20 s21 s22 => ?_; refine wl_end ?_; exact then_n ⟨(j + 1), ⟨m, hltj, (cnt_no hm hcl hcp), z, q, ow.tail, s0, s4, s5, s11, s12, s13, s8, s20, s21, s22⟩, (show (area16 a).2.length - (j + 1) < (area16 a).2.length - j by omega)⟩
   refine cf s23 (decide_eq_true_iff) hc2 ?_; refine wp_exit ?_; refine then_e ?_; refine then_e ?_; refine block_hit ?_; refine tn hK10 ?_; refine sq fun hK17 => ?_
   refine ro [yV _, yV _] 2 54 z q ow (
     mvS s0 rfl rfl rfl rfl <|
     aS (fun hk bs hd => xeqi rfl (dp hd 0 rfl) rfl) rfl <|
     arm0) fun fa fw bs hv ap z q ow => ?_
   obtain ⟨s0, s4, s5, s11, s12, s13, s8⟩ := b7 bs s0 s4 s5 s11 s12 s13 s8; have s42 := gv hv 1 rfl rfl; refine wt hK17 ?_
   by_cases hc4 : (fn : Int) = (13 : Int)
   ·refine ct s42 ((decide_eq_true_iff).2 hc4) ?_
    have hfn := hc4; have fb := filter_le (area16 a).2 j (cntP fn); have sz := size_in (x := (area16 a).1)
    refine ro [yV _, yV (.agg #[.int .i64 (((area16 a).1).c1), .int .i64 (((area16 a).1).r1), .int .i64 (((area16 a).1).c2), .int .i64 (((area16 a).1).r2), .slice A2 ((area16 a).2.length) c2]), yV (.int .i64 (size16 ((area16 a).1))), yV (.pointer (some ⟨gb3, 4, none⟩)), yV _, yV _, yV _, yV _] 8 54 z q ow (
      mvS s5 rfl rfl rfl rfl <|
      aS (fun hk bs hd => xloadN 5 rfl (by kernel_rfl) (by kernel_rfl) (bg bs s8) ((ow.keep hk).box 0 rfl) (Nat.le_of_ble_eq_true rfl) rfl) rfl <|
      aC (fun hk bs hd => xcall1 rfl (dp hd 1 rfl) (en_agg_size _ _)) (fun hk bs hd => asize_any ((area16 a).1) _ _ _ _) rfl <|
      aS (fun hk bs hd => xfieldAddr rfl (bg bs s8) (by kernel_rfl)) rfl <|
      aS (fun hk bs hd => xloadB rfl (by kernel_rfl) (dp hd 3 rfl) ((ow.keep hk).box 0 rfl) rfl) rfl <|
      aS (fun hk bs hd => xlen Tryz.underlying35 rfl (dp hd 4 rfl)) rfl <|
      aS (fun hk bs hd => xsub (Or.inl rfl) rfl (dp hd 2 rfl) (dp hd 5 rfl) (by omega) (by omega)) rfl <|
      aS (fun hk bs hd => xadd (Or.inl rfl) rfl (dp hd 0 rfl) (dp hd 6 rfl) (by omega) (by omega)) rfl <|
      arm0) fun fa fw bs hv ap z q ow => ?_
    obtain ⟨s0, s4, s5, s11, s12, s13⟩ := b6 bs s0 s4 s5 s11 s12 s13; have s50 := gv hv 7 rfl rfl; refine wl_value (v := .int .i64 (m + ((size16 ((area16 a).1)) - (((area16 a).2.length : Nat) : Int)))) (want0 rfl) (xassign rfl s50) ?_; refine gp5 z q ow s0 s4 s11 s12 s13 fun fa fw z q ow s0 s4 s11 s12 s13 s5 => ?_; refine wl_end ?_; refine block_n ?_; refine tn hK7 ?_
    refine ro [yV (.int .i64 ((k + 1 : Nat) : Int))] 1 54 z q ow (
      aS (fun hk bs hd => xadd (Or.inl rfl) rfl (bg bs s13) rfl (by omega) (by omega)) rfl <|
      arm0) fun fa fw bs hv ap z q ow => ?_
    obtain ⟨s0, s4, s11, s12, s13, s5⟩ := b6 bs s0 s4 s11 s12 s13 s5; have s51 := gv hv 0 rfl rfl; refine wl_value (v := .int .i64 ((k + 1 : Nat) : Int)) (want0 rfl) (xmove rfl s51) ?_; refine gp5 z q ow s0 s4 s11 s12 s5 fun fa fw z q ow s0 s4 s11 s12 s5 s13 => ?_; refine wl_end ?_; exact then_n ⟨(k + 1), ⟨(m + ((size16 ((area16 a).1)) - (((area16 a).2.length : Nat) : Int))), hltk, (count_blank ha hfn hn (cnt_all hm (by omega))), (by constructor <;> omega), z, q, (ow.take 3).tail.tail, s0, s4, s5, s11, s12, s13⟩, (show l.length - (k + 1) < l.length - k by omega)⟩
   refine cf s42 (decide_eq_true_iff) hc4 ?_; have hfn := hc4; have fb := filter_le (area16 a).2 j (cntP fn); have sz := size_in (x := (area16 a).1); refine wp_skip ?_; refine block_n ?_; refine tn hK7 ?_
   refine ro [yV (.int .i64 ((k + 1 : Nat) : Int))] 1 54 z q ow (
     aS (fun hk bs hd => xadd (Or.inl rfl) rfl (bg bs s13) rfl (by omega) (by omega)) rfl <|
     arm0) fun fa fw bs hv ap z q ow => ?_
   obtain ⟨s0, s4, s5, s11, s12, s13⟩ := b6 bs s0 s4 s5 s11 s12 s13; have s51 := gv hv 0 rfl rfl; refine wl_value (v := .int .i64 ((k + 1 : Nat) : Int)) (want0 rfl) (xmove rfl s51) ?_; refine gp5 z q ow s0 s4 s5 s11 s12 fun fa fw z q ow s0 s4 s5 s11 s12 s13 => ?_; refine wl_end ?_; exact then_n ⟨(k + 1), ⟨m, hltk, (count_cells ha hfn hn (cnt_all hm (by omega))), (by constructor <;> omega), z, q, (ow.take 3).tail.tail, s0, s4, s5, s11, s12, s13⟩, (show l.length - (k + 1) < l.length - k by omega)⟩
  refine cf s14 (decide_eq_true_iff) hc1 ?_; refine wp_exit ?_; refine then_e ?_; refine then_e ?_; refine block_hit ?_; refine tn hK3 ?_; refine sq fun hK18 => ?_
  refine ro [yV _, yV (aggV (vMake (n * 10000)))] 2 54 z q ow (
    mvS s5 rfl rfl rfl rfl <|
    aC (fun hk bs hd => xcall1 rfl (dp hd 0 rfl) (en_agg_whole _ _)) (fun hk bs hd => awhole_any n _ (by omega) (by omega)) rfl <|
    arm0) fun fa fw bs hv ap z q ow => ?_
  have s4 := bg bs s4; have s53 := gv hv 1 rfl rfl; refine ws ow 0 0 s4 s53 fun fw ow => ?_; refine wt hK18 ?_; refine wp_ret ?_; refine rs3 s4 (ow.box 0 rfl) q ?_; exact ⟨congrArg (fun v => Ending.returned (aggV v)) (show vMake _ = vMake _ by rw [hn, List.take_of_length_le (by omega)]), ow.kept⟩
end Go.Proofs.YtbkjdcpfkepheaaGreatDoor
