/- Small texts together: GAgg8, GAgg4. -/
import Derived.Test.YtbkjdcpfkepheaaGreatDoorVGAgg7
import Derived.MapKept
import Derived.WideMake
import Derived.Test.YtbkjdcpfkepheaaGreatDoorVGAgg3
set_option linter.unusedVariables false
set_option linter.unusedSimpArgs false
set_option maxHeartbeats 4000000
namespace Go.Proofs.YtbkjdcpfkepheaaGreatDoor
section
open Go.RowKit Lv
set_option maxRecDepth 100000
section
variable {o : Oper} {a : Act} {w : World}
theorem tu {T : TypeId} (ho : o.op = .makeMap T none) : (execOp a.eval o).run Tryz.prog w = .ok (.value (.map (some w.heap.size))) (w.alloc (.map #[] 0)) := by
  have hr := run_makeMap_plain (P := Tryz.prog) w T; unfold execOp
  simp only [ho, Option.map_none, Sem.run_bind, Sem.run_pure, hr, Result.andThen_ok]
theorem wF {x y z : Operand} {g k clock : Nat} {es : Array MapEntry} {v : Value} (ho : o.op = .insert 97 x y z) (hx : a.eval x = .map (some g)) (hy : a.eval y = .int .u8 k) (hz : a.eval z = v) (hb : w.heap[g]? = some (.map es clock)) (hf : Instr.findNow (.int .u8) (.int .u8 k) es.toList 0 = some none) :
    (execOp a.eval o).run Tryz.prog w = .ok .skip { w with heap := w.heap.setIfInBounds g (.map (es.push ⟨.int .u8 k, v, clock⟩) (clock + 1)) } := by
  have hc : (Instr.checkKey false 10000 5 (.int .u8 k)).run Tryz.prog w = .ok () w := MapKept.run_checkKey (k := .int .u8 k) Tryz.underlying5 (by simp [MapKept.IsKey]) false 9999
  have hr : (Instr.mapUpdate 97 (.map (some g)) (.int .u8 k) v).run Tryz.prog w = .ok () { w with heap := w.heap.setIfInBounds g (.map (es.push ⟨.int .u8 k, v, clock⟩) (clock + 1)) } := by
    simp [Instr.mapUpdate, run_underlying Tryz.underlying97, MapKept.run_getObj_map hb, hc, MapKept.run_findKey Tryz.underlying5 hf, MapKept.run_setObj_map _ hb, Result.andThen]
  unfold execOp
  simp only [ho, hx, hy, hz, Sem.run_bind, Sem.run_pure, hr, Result.andThen_ok]
theorem AW {x y : Operand} {g k clock i : Nat} {es : Array MapEntry} {v : Value} (ho : o.op = .lookup 97 x y false) (hx : a.eval x = .map (some g)) (hy : a.eval y = .int .u8 k) (hb : w.heap[g]? = some (.map es clock)) (hf : Instr.findNow (.int .u8) (.int .u8 k) es.toList 0 = some (some (i, v))) :
    (execOp a.eval o).run Tryz.prog w = .ok (.value v) w := by
  have hc : (Instr.checkKey es.isEmpty 10000 5 (.int .u8 k)).run Tryz.prog w = .ok () w := MapKept.run_checkKey (k := .int .u8 k) Tryz.underlying5 (by simp [MapKept.IsKey]) _ 9999
  have hr : (Instr.lookup 97 (.map (some g)) (.int .u8 k) false).run Tryz.prog w = .ok v w := by
    simp [Instr.lookup, run_underlying Tryz.underlying97, MapKept.run_getObj_map hb, hc, MapKept.run_findKey Tryz.underlying5 hf, Result.andThen]
  unfold execOp
  simp only [ho, hx, hy, Sem.run_bind, Sem.run_pure, hr, Result.andThen_ok]
theorem dQ {x y : Operand} {g k clock : Nat} {es : Array MapEntry} (ho : o.op = .lookup 97 x y false) (hx : a.eval x = .map (some g)) (hy : a.eval y = .int .u8 k) (hb : w.heap[g]? = some (.map es clock)) (hf : Instr.findNow (.int .u8) (.int .u8 k) es.toList 0 = some none) :
    (execOp a.eval o).run Tryz.prog w = .ok (.value .nilFunc) w := by
  have hc : (Instr.checkKey es.isEmpty 10000 5 (.int .u8 k)).run Tryz.prog w = .ok () w := MapKept.run_checkKey (k := .int .u8 k) Tryz.underlying5 (by simp [MapKept.IsKey]) _ 9999; have hz : (zeroValue 96).run Tryz.prog w = .ok .nilFunc w := by kernel_rfl
  have hr : (Instr.lookup 97 (.map (some g)) (.int .u8 k) false).run Tryz.prog w = .ok .nilFunc w := by
    simp [Instr.lookup, run_underlying Tryz.underlying97, MapKept.run_getObj_map hb, hc, MapKept.run_findKey Tryz.underlying5 hf, Result.andThen, hz]
  unfold execOp
  simp only [ho, hx, hy, Sem.run_bind, Sem.run_pure, hr, Result.andThen_ok]
theorem D6 {T2 : TypeId} {x : Operand} {f : Fn} {b c : Array Value} (ho : o.op = .binOp .neq 96 x (.const .nilFunc) T2) (hx : a.eval x = .func f b c) : (execOp a.eval o).run Tryz.prog w = .ok (.value (.bool true)) w := by
  unfold execOp; rw [ho]
  simp only [hx, show a.eval (.const .nilFunc) = .nilFunc from rfl]
  have h : (binOp .neq 96 (.func f b c) .nilFunc).run Tryz.prog w = .ok (.bool true) w := by kernel_rfl
  have hg : (eqGuard .neq 96 x (.const .nilFunc) (.func f b c) .nilFunc).run Tryz.prog w = .ok () w := by kernel_rfl
  simp only [Sem.run_bind, Sem.run_pure, hg, h, Result.andThen_ok]
theorem xp {T2 : TypeId} {x : Operand} (ho : o.op = .binOp .neq 96 x (.const .nilFunc) T2) (hx : a.eval x = .nilFunc) : (execOp a.eval o).run Tryz.prog w = .ok (.value (.bool false)) w := by
  unfold execOp; rw [ho]
  simp only [hx, show a.eval (.const .nilFunc) = .nilFunc from rfl]
  have h : (binOp .neq 96 .nilFunc .nilFunc).run Tryz.prog w = .ok (.bool false) w := by kernel_rfl
  have hg : (eqGuard .neq 96 x (.const .nilFunc) .nilFunc .nilFunc).run Tryz.prog w = .ok () w := by kernel_rfl
  simp only [Sem.run_bind, Sem.run_pure, hg, h, Result.andThen_ok]
end
theorem Own.put16 {w0 w : World} {H : List Th} (h : Own w0 H w) (k : Nat) {g : Nat} {b : Obj} (e : H[k]? = some (Th.obj g b)) (b' : Obj) : Own w0 (H.set k (Th.obj g b')) { w with heap := w.heap.setIfInBounds g b' } :=
  h.turn k e (t' := Th.obj g b') (by have hb := h.get k e; have hg := (Array.getElem?_eq_some_iff.1 hb).1; show (w.heap.setIfInBounds g b')[g]? = some b'; rw [Array.getElem?_setIfInBounds_self_of_lt hg]) ⟨rfl, rfl, rfl, by simp, fun j hj ne => Array.getElem?_setIfInBounds_ne (fun c => ne (by rw [c]; rfl))⟩ (Or.inl rfl)
theorem dR {ops : Array Oper} {rest : List Oper} {Q : Exit → Act → World → Prop} {o : Oper} {a : Act} {w w0 : World} {H : List Th} {x y z : Operand} {g k clock : Nat} {es : Array MapEntry} {v : Value} (h : Own w0 H w) (hw : Region.wanted o (yielded ops a.tmps) = true) (hn : o.dst = none) (ho : o.op = .insert 97 x y z) (hx : a.eval x = .map (some g)) (hy : a.eval y = .int .u8 k) (hz : a.eval z = v) (q : Nat) (e : H[q]? = some (Th.obj g (.map es clock))) (hf : Instr.findNow (.int .u8) (.int .u8 k) es.toList 0 = some none)
    (c : ∀ w', Own w0 (H.set q (Th.obj g (.map (es.push ⟨.int .u8 k, v, clock⟩) (clock + 1)))) w' → wpList Tryz.prog ops Q rest a w') : wpList Tryz.prog ops Q (o :: rest) a w :=
  kD hw hn (wF ho hx hy hz (h.get q e) hf) (c _ (h.put16 q e _))
def m16 (fn : Nat) : FuncId := if fn = 9 then 94 else if fn = 10 then 95 else if fn = 14 then 96 else if fn = 15 then 97 else if fn = 16 then 98 else if fn = 17 then 99 else if fn = 46 then 94 else if fn = 48 then 96 else if fn = 49 then 97 else 98
def zy : List Nat := [9, 10, 14, 15, 16, 17, 46, 48, 49, 50]
def cL : Nat → Array MapEntry
  | 0 => #[]
  | k + 1 => (cL k).push ⟨.int .u8 (zy.getD k 0 : Nat), .func (.func (m16 (zy.getD k 0))) #[] #[], k⟩
theorem mt {fn : Nat} (h : dM fn = true) : fn = 9 ∨ fn = 10 ∨ fn = 14 ∨ fn = 15 ∨ fn = 16 ∨ fn = 17 ∨ fn = 46 ∨ fn = 48 ∨ fn = 49 ∨ fn = 50 := by
  unfold dM at h; rw [decide_eq_true_eq] at h; exact h
theorem yN {fn : Nat} (h : dM fn = true) : ∃ i, Instr.findNow (.int .u8) (.int .u8 fn) (cL 10).toList 0 = some (some (i, .func (.func (m16 fn)) #[] #[])) := by
  rcases mt h with rfl | rfl | rfl | rfl | rfl | rfl | rfl | rfl | rfl | rfl
  · exact ⟨0, by kernel_rfl⟩
  · exact ⟨1, by kernel_rfl⟩
  · exact ⟨2, by kernel_rfl⟩
  · exact ⟨3, by kernel_rfl⟩
  · exact ⟨4, by kernel_rfl⟩
  · exact ⟨5, by kernel_rfl⟩
  · exact ⟨6, by kernel_rfl⟩
  · exact ⟨7, by kernel_rfl⟩
  · exact ⟨8, by kernel_rfl⟩
  · exact ⟨9, by kernel_rfl⟩
theorem Cz (fn : Nat) (args : Array Value) (w : World) : (callFunc (m16 fn) args).run Tryz.prog w = .ok (.enter (m16 fn) args) w := by
  unfold m16
  (repeat' split) <;> go_simp
theorem qw (A : Option Addr) (cap : Nat) (w : World) :
    Calls Tryz.prog 99 #[.slice A 0 cap] w fun e w' => e = .returned (al (aW 3)) ∧ Kept w w' := by
  go_enter Tryz.func99, Tryz.ntmps99
  refine rgx [bJ w.heap.size (.cells #[.int .u8 0, .int .i64 0, .string ⟨[].toArray⟩] 25 (0, 0))] 1 36 rfl rfl (Own.start w) (
    uq4 <|
    ah) fun fa fw bs hv ap z q ov => ?_
  have s0 := bs.get 0 rfl rfl; obtain ⟨gb1, s2, bgb1, hgb1⟩ := zn hv 0; have ov := ov.hc (Own.start w) bgb1 hgb1; have ow := ov; refine sq fun hK2 => ?_
  refine rgx [yV _, yV _, yV (.bool true)] 3 36 z q ow (
    um s0 rfl <|
    ua (rle Tryz.underlying54 (zd 0)) rfl <|
    ub (req (zd 1) zc) rfl <|
    ah) fun fa fw bs hv ap z q ow => ?_
  obtain ⟨s0, s2⟩ := b2 bs s0 s2; have s6 := zh hv 2; refine wp_cond_true (s6) ?_; refine sq fun hK4 => ?_
  refine ro [yV (al (aW 3))] 1 36 z q ow (
    uc (rc1 zc cD) (fun hk => cj 3 _) rfl <|
    ah) fun fa fw bs hv ap z q ow => ?_
  obtain ⟨s0, s2⟩ := b2 bs s0 s2; have s7 := zh hv 0; refine ws ow 0 0 s2 s7 fun fw ow => ?_; refine wt hK4 ?_; refine wp_ret ?_; refine ao ?_; refine rs3 s2 (ow.box 0 rfl) q ?_; exact ⟨rfl, ow.kept⟩
theorem bZ (w : World) :
    Calls Tryz.prog 63 #[] w fun e w' => ∃ g, e = .returned (.map (some g)) ∧ w.heap.size ≤ g ∧ w'.heap[g]? = some (.map (cL 10) 10) ∧ Kept w w' := by
  go_enter Tryz.func63, Tryz.ntmps63
  refine rgx [yV _] 1 3 rfl rfl (Own.start w) (
    uq1 rfl rfl rfl <|
    ah) fun fa fw bs hv ap z q ow => ?_
  have s0 := zh hv 0; refine sq fun hK2 => ?_
  refine ro [Dl fw.heap.size (.map #[] 0)] 1 3 z q ow (
    DV (wn rfl) (fun aa ww hk bs hd => tu rfl) rfl <|
    ah) fun fa fw bs hv ap z q ov => ?_
  have s0 := bg bs s0; obtain ⟨gb1, s1, bgb1, hgb1⟩ := DY hv 0 rfl rfl rfl; have ov := ov.hc ow bgb1 hgb1; have ow := ov; refine dR (k := 9) (v := .func (.func 94) #[] #[]) ow (ag rfl) rfl rfl s1 rfl rfl 0 rfl (by kernel_rfl) (fun fw1 ofw1 => ?_); have ow := ofw1; refine dR (k := 10) (v := .func (.func 95) #[] #[]) ow (ag rfl) rfl rfl s1 rfl rfl 0 rfl (by kernel_rfl) (fun fw2 ofw2 => ?_); have ow := ofw2; refine dR (k := 14) (v := .func (.func 96) #[] #[]) ow (ag rfl) rfl rfl s1 rfl rfl 0 rfl (by kernel_rfl) (fun fw3 ofw3 => ?_); have ow := ofw3; refine dR (k := 15) (v := .func (.func 97) #[] #[]) ow (ag rfl) rfl rfl s1 rfl rfl 0 rfl (by kernel_rfl) (fun fw4 ofw4 => ?_); have ow := ofw4; refine dR (k := 16) (v := .func (.func 98) #[] #[]) ow (ag rfl) rfl rfl s1 rfl rfl 0 rfl (by kernel_rfl) (fun fw5 ofw5 => ?_); have ow := ofw5; refine dR (k := 17) (v := .func (.func 99) #[] #[]) ow (ag rfl) rfl rfl s1 rfl rfl 0 rfl (by kernel_rfl) (fun fw6 ofw6 => ?_); have ow := ofw6; refine dR (k := 46) (v := .func (.func 94) #[] #[]) ow (ag rfl) rfl rfl s1 rfl rfl 0 rfl (by kernel_rfl) (fun fw7 ofw7 => ?_); have ow := ofw7; refine dR (k := 48) (v := .func (.func 96) #[] #[]) ow (ag rfl) rfl rfl s1 rfl rfl 0 rfl (by kernel_rfl) (fun fw8 ofw8 => ?_); have ow := ofw8; refine dR (k := 49) (v := .func (.func 97) #[] #[]) ow (ag rfl) rfl rfl s1 rfl rfl 0 rfl (by kernel_rfl) (fun fw9 ofw9 => ?_)
  have ow := ofw9; refine dR (k := 50) (v := .func (.func 98) #[] #[]) ow (ag rfl) rfl rfl s1 rfl rfl 0 rfl (by kernel_rfl) (fun fw10 ofw10 => ?_); have ow := ofw10; refine ae (v := .map (some gb1)) (ag rfl) (ce rfl s1) ?_; refine ae (v := .map (some gb1)) (ag rfl) (aq rfl (af (t := 2) z rfl)) ?_; refine gt1 (ab (ab z)) (ac (ac q)) ow 0 (af (t := 0) (ab z) rfl) fun fa fw z q ow s0 => ?_; refine wt hK2 ?_; refine wp_ret ?_; refine am rfl (ak s0) q ?_; exact ⟨gb1, rfl, ow.old _ (List.mem_of_getElem? (i := 0) rfl) _ rfl, ow.get 0 rfl, ow.kept⟩
theorem AX {w : World} {b n c : Nat} {A : Option Addr} {l : List Int} (h : w.ownsRow b 2 1 (.slice A n c) n (l.map dV)) (hn : n = l.length) : Row w A l ∧ n ≤ c := by
  subst hn; obtain ⟨A2, c2, e, r⟩ := OwnI.row (l := l) h
  cases e
  rcases h.2 with ⟨e, h0⟩ | ⟨g, cap, cur, e, hb, hh, h4, h5, h6, h7⟩
  · exact ⟨r, by omega⟩
  · injection e with e1 e2 e3
    exact ⟨r, by omega⟩
theorem tv {L : List Int} (h : L ≠ []) : oq 17 L = (if L.length % 2 = 1 then aK ((aV L).getD (L.length / 2) 0) else mL (dT [(aV L).getD (L.length / 2 - 1) 0, (aV L).getD (L.length / 2) 0])) := by
  unfold oq; rw [if_neg (by decide), if_neg (by decide), if_pos rfl, if_neg h]
theorem yO {fn : Nat} (hf : dM fn = true) {w0 w : World} {T : List Th} {b n : Nat} {v : Value} {L : List Int} (h : Own w0 (Th.row b 2 1 v n (L.map dV) :: T) w) (hn : n = L.length) (h64 : All64 L) (hl : L.length ≤ 1000000) :
    Calls Tryz.prog (m16 fn) #[v] w fun e w' => e = .returned (al (oq fn L)) ∧ Own w0 T w' := by
  subst hn; obtain ⟨A, cap, rfl⟩ := bV (h.row 0 rfl); obtain ⟨hr, hc⟩ := AX (h.row 0 rfl) rfl; have K : ∀ {f : FuncId} {x : Vl}, (Calls Tryz.prog f #[.slice A L.length cap] w fun e w' => e = .returned (al x) ∧ Kept w w') → Calls Tryz.prog f #[.slice A L.length cap] w fun e w' => e = .returned (al x) ∧ Own w0 T w' := fun H => H.mono fun e w' ⟨he, hk⟩ => ⟨he, h.tail.keep hk⟩; rcases mt hf with rfl | rfl | rfl | rfl | rfl | rfl | rfl | rfl | rfl | rfl
  · exact K (rJ A cap L w hr h64 hl)
  · exact K (oK A cap L w hr h64 hl hc)
  · exact K (jO A cap L w hr h64 hl)
  · exact K (mp A cap L w hr h64 hl)
  · exact K (iX A cap L w hr h64 hl)
  · show Calls Tryz.prog 99 _ _ _
    rcases Nat.eq_zero_or_pos L.length with h0 | h0
    · have e : L = [] := List.eq_nil_of_length_eq_zero h0
      subst e; exact K (qw A cap w)
    · obtain ⟨g, c, e, h⟩ := oM h h0
      cases e
      refine (pj w0 w T b g _ L h h0 h64 hl).mono fun e w' ⟨he, ho⟩ => ⟨?_, ho⟩; rw [he, tv (fun c => by rw [c] at h0; exact absurd h0 (by decide))]
  · exact K (rJ A cap L w hr h64 hl)
  · exact K (jO A cap L w hr h64 hl)
  · exact K (mp A cap L w hr h64 hl)
  · exact K (iX A cap L w hr h64 hl)
end

section
open Go.RowKit Lv
set_option maxRecDepth 100000
theorem Own.take {w0 w : World} {H : List Th} (h : Own w0 H w) (n : Nat) : Own w0 (H.take n) w := ⟨h.kept, fun s hs => h.has s (List.mem_of_mem_take hs), fun s hs => h.old s (List.mem_of_mem_take hs), h.apart.sublist (List.take_sublist _ _)⟩
theorem kn (a : Ar) (h : a.l.length ≤ 1000000) : (av a).2.length ≤ 1000000 := by
  unfold av
  split
  · exact h
  · show List.length (if a.v.k = 0 then [] else [_]) ≤ _
    split <;> simp
def pE (fn : Nat) (c : Cl) : Bool := decide (fn = 12) || (decide (fn ≠ 13) && decide (c.v.k = 1))
theorem yQ {fn : Nat} {c : Cl} (h : ((fn : Int) = (12 : Int)) ∨ (((fn : Int) ≠ (13 : Int)) ∧ ((c.v.k : Int) = (1 : Int)))) : pE fn c = true := by
  unfold pE
  simp only [Bool.or_eq_true, Bool.and_eq_true, decide_eq_true_eq]
  omega
theorem AY {fn : Nat} {c : Cl} (h : ¬ (((fn : Int) = (12 : Int)) ∨ (((fn : Int) ≠ (13 : Int)) ∧ ((c.v.k : Int) = (1 : Int))))) : pE fn c = false := by
  rw [← Bool.not_eq_true]; unfold pE
  simp only [Bool.or_eq_true, Bool.and_eq_true, decide_eq_true_eq]
  omega
theorem AZ (l : List Cl) : l.filter (pE 13) = [] := by
  rw [List.filter_eq_nil_iff]; intro c _; unfold pE
  simp
theorem mu (fn : Nat) (l : List Ar) (a : Ar) : cR fn (l ++ [a]) = cR fn l + cR fn [a] := by
  unfold cR
  simp
theorem qx {fn : Nat} {l : List Ar} {k : Nat} {a : Ar} {n m : Int} (ha : l[k]? = some a) (hf : (fn : Int) = (13 : Int)) (hn : n = cR fn (l.take k)) (hm : m = n + (((av a).2.filter (pE fn)).length : Int)) : m + (ck (av a).1 - ((av a).2.length : Int)) = cR fn (l.take (k + 1)) := by
  have e : fn = 13 := by omega
  subst e; rw [eT ha, mu, hm, hn, AZ]; unfold cR
  simp
theorem qy {fn : Nat} {l : List Ar} {k : Nat} {a : Ar} {n m : Int} (ha : l[k]? = some a) (hf : ¬ ((fn : Int) = (13 : Int))) (hn : n = cR fn (l.take k)) (hm : m = n + (((av a).2.filter (pE fn)).length : Int)) : m = cR fn (l.take (k + 1)) := by
  have e : fn ≠ 13 := by omega
  rw [eT ha, mu, hm, hn]; unfold cR
  simp only [List.map_cons, List.map_nil, List.sum_cons, List.sum_nil, if_neg e]
  have : (pE fn) = fun c : Cl => decide (fn = 12 ∨ c.v.k = 1) := by
    funext c
    unfold pE; rw [decide_eq_true (p := fn ≠ 13) e, Bool.true_and, Bool.decide_or]
  rw [this]
  omega
theorem eA : En 66 := by intro args w; go_simp
theorem gN (fn : Nat) (A : Option Addr) (cap : Nat) (l : List Ar) (w : World) (hr : ArgsAt w A l) (hl : ∀ a ∈ l, a.l.length ≤ 1000000) (hc : l.length ≤ 1000) :
    Calls Tryz.prog 69 #[.int .u8 fn, .slice A l.length cap] w fun e w' => e = .returned (al (aK (cR fn l * 10000))) ∧ Kept w w' := by
  go_enter Tryz.func69, Tryz.ntmps69
  refine rgx [bJ w.heap.size (.cells #[.int .u8 0, .int .i64 0, .string ⟨[].toArray⟩] 25 (0, 0))] 1 54 rfl rfl (Own.start w) (
    uq4 <|
    ah) fun fa fw bs hv ap z q ov => ?_
  have s0 := bs.get 0 rfl rfl; have s1 := bs.get 1 rfl rfl; obtain ⟨gb1, s4, bgb1, hgb1⟩ := zn hv 0; have ov := ov.hc (Own.start w) bgb1 hgb1; have ow := ov
  refine rgx [yV _] 1 54 z q ow (
    uq1 rfl rfl rfl <|
    ah) fun fa fw bs hv ap z q ow => ?_
  obtain ⟨s0, s1, s4⟩ := b3 bs s0 s1 s4; have s5 := zh hv 0; refine sq fun hK3 => ?_
  refine rgx [yV _, yV _, yV _] 3 54 z q ow (
    um s1 rfl <|
    ua (rle Tryz.underlying22 (zd 0)) rfl <|
    ua (rmo zc) rfl <|
    ah) fun fa fw bs hv ap z q ow => ?_
  obtain ⟨s0, s4, s5⟩ := b3 bs s0 s4 s5; have s11 := zh hv 0; have s12 := zh hv 1; have s13 := zh hv 2; refine wp_block ?_; refine bc (fun (k : Nat) fr u => ∃ (n : Int), (k ≤ l.length) ∧ (n = cR fn (l.take k)) ∧ (-1000000 * (k : Int) ≤ n ∧ n ≤ 1048576 * (k : Int)) ∧ fr.tmps.size = 54 ∧ fr.defers = [] ∧ Own w [Th.obj gb1 (.cells #[.int .u8 0, .int .i64 0, .string ⟨[].toArray⟩] 25 (0, 0))] u ∧ fr.eval (.tmp 0) = .int .u8 (fn : Int) ∧ fr.eval (.tmp 4) = .pointer (some ⟨gb1, 0, none⟩) ∧ fr.eval (.tmp 5) = .int .i64 n ∧ fr.eval (.tmp 11) = .slice A l.length cap ∧ fr.eval (.tmp 12) = .int .i64 ((l.length : Nat) : Int) ∧ fr.eval (.tmp 13) = .int .i64 (k : Int)) (fun k => l.length - k) 0 ⟨0, (Nat.zero_le _), rfl, ⟨by omega, by omega⟩, z, q, ow, s0, s4, s5, s11, s12, s13⟩ (fun k b_ u_ hI => ?_)
  revert b_ u_; intro fa fw hI
  obtain ⟨n, hk0, hn, hnb, z, q, ow, s0, s4, s5, s11, s12, s13⟩ := hI
  refine rgx [yV _] 1 54 z q ow (
    ua (rlt (zt s13) (zt s12)) rfl <|
    ah) fun fa fw bs hv ap z q ow => ?_
  obtain ⟨s0, s4, s5, s11, s12, s13⟩ := b6 bs s0 s4 s5 s11 s12 s13; have s14 := zh hv 0; refine sq fun hK6 => ?_
  by_cases hc1 : (k : Int) < ((l.length : Nat) : Int)
  ·refine ct s14 ((decide_eq_true_iff).2 hc1) ?_
   refine wp_skip ?_; refine tn hK6 ?_; refine sq fun hK7 => ?_; refine wp_block ?_; refine sq fun hK8 => ?_; have hltk : k < l.length := by omega
   obtain ⟨a, ha⟩ := bQ hltk; obtain ⟨ba, oa, A1, c1, Aa, ea, r1, l1⟩ := hr.elem ha; have la := kn a (hl a (List.mem_of_getElem? ha))
   refine ro [yV _, yV (.agg #[.bool a.w, .int .u8 a.v.k, .int .i64 a.v.n, .string ⟨a.v.t.toArray⟩, .int .i64 a.x.c1, .int .i64 a.x.r1, .int .i64 a.x.c2, .int .i64 a.x.r2, .slice A1 a.l.length c1]), bJ fw.heap.size (.cells #[.bool false, .int .u8 0, .int .i64 0, .string ⟨[].toArray⟩, .int .i64 0, .int .i64 0, .int .i64 0, .int .i64 0, .slice none 0 0] 39 (0, 0))] 3 54 z q ow (
     ua (rpl 9 Tryz.underlying22 Aa (zt s11) (zt s13) hltk) rfl <|
     ua (rpk 9 0 ea ow (zd 0)) rfl <|
     uq4 <|
     ah) fun fa fw bs hv ap z q ov => ?_
   obtain ⟨s0, s4, s5, s11, s12, s13⟩ := b6 bs s0 s4 s5 s11 s12 s13; have s16 := zh hv 1; obtain ⟨gb2, s7, bgb2, hgb2⟩ := zn hv 2; have ov := ov.hc ow bgb2 hgb2; have ow := ov; refine ws ow 0 0 s7 s16 fun fw ow => ?_; refine wt hK8 ?_; refine sq fun hK9 => ?_
   refine ro [yV (.agg #[.bool a.w, .int .u8 a.v.k, .int .i64 a.v.n, .string ⟨a.v.t.toArray⟩, .int .i64 a.x.c1, .int .i64 a.x.r1, .int .i64 a.x.c2, .int .i64 a.x.r2, .slice A1 a.l.length c1])] 1 54 z q ow (
     ua (rln 9 ow 0 (zt s7)) rfl <|
     ah) fun fa fw bs hv ap z q ow => ?_
   obtain ⟨s0, s4, s5, s11, s12, s13⟩ := b6 bs s0 s4 s5 s11 s12 s13; have s17 := zh hv 0; refine aO (ag rfl) (cz (u := .agg #[.bool a.w, .int .u8 a.v.k, .int .i64 a.v.n, .string ⟨a.v.t.toArray⟩, .int .i64 a.x.c1, .int .i64 a.x.r1, .int .i64 a.x.c2, .int .i64 a.x.r2, .slice A1 a.l.length c1]) rfl s17 (eA _ _)) ((oH a _ _ _ l1).mono ?_); rintro _ fw ⟨T, A2, c2, rfl, hT, hc2, hR⟩; refine ⟨_, rfl, ?_⟩; rcases hT with hT
   have ow := Own.both ow hT; have ow : Own w ((Th.obj gb2 (.cells #[.bool a.w, .int .u8 a.v.k, .int .i64 a.v.n, .string ⟨a.v.t.toArray⟩, .int .i64 a.x.c1, .int .i64 a.x.r1, .int .i64 a.x.c2, .int .i64 a.x.r2, .slice A1 a.l.length c1] 39 (0, 0))) :: (Th.obj gb1 (.cells #[.int .u8 0, .int .i64 0, .string ⟨[].toArray⟩] 25 (0, 0))) :: T) fw := ow; refine eQ ow (ag rfl) (gg (b := .cells #[.int .i64 0, .int .i64 0, .int .i64 0, .int .i64 0, .slice none 0 0] 37 (0, 0)) rfl (by kernel_rfl)) fun gb3 fw ow => ?_; refine cc ow 0 0 (ag rfl) rfl rfl (af (t := 8) (ab z) rfl) (pb 8 (af (t := 18) z rfl) rfl) (by kernel_rfl) rfl rfl rfl fun fw ow => ?_; refine gt7 (ab (ab z)) (ac (ac q)) ow 0 (pb 8 (pb 18 s0 rfl) rfl) 4 (pb 8 (pb 18 s4 rfl) rfl) 5 (pb 8 (pb 18 s5 rfl) rfl) 11 (pb 8 (pb 18 s11 rfl) rfl) 12 (pb 8 (pb 18 s12 rfl) rfl) 13 (pb 8 (pb 18 s13 rfl) rfl) 8 (af (t := 8) (ab z) rfl) fun fa fw z q ow s0 s4 s5 s11 s12 s13 s8 => ?_; refine wt hK9 ?_; refine sq fun hK10 => ?_
   refine rgx [yV (.pointer (some ⟨gb3, 4, none⟩)), yV _, yV _, yV _] 4 54 z q ow (
     ua (rfa (zt s8)) rfl <|
     ua (rlb ow 0 (zd 0)) rfl <|
     ua (rle Tryz.underlying35 (zd 1)) rfl <|
     ua (rmo zc) rfl <|
     ah) fun fa fw bs hv ap z q ow => ?_
   obtain ⟨s0, s4, s5, s11, s12, s13, s8⟩ := b7 bs s0 s4 s5 s11 s12 s13 s8; have s20 := zh hv 1; have s21 := zh hv 2; have s22 := zh hv 3; refine wp_block ?_; refine bc (fun (j : Nat) fr u => ∃ (m : Int), (j ≤ (av a).2.length) ∧ (m = n + ((((av a).2.take j).filter (pE fn)).length : Int)) ∧ fr.tmps.size = 54 ∧ fr.defers = [] ∧ Own w ((Th.obj gb3 (.cells #[.int .i64 (((av a).1).c1), .int .i64 (((av a).1).r1), .int .i64 (((av a).1).c2), .int .i64 (((av a).1).r2), .slice A2 ((av a).2.length) c2] 37 (0, 0))) :: (Th.obj gb2 (.cells #[.bool a.w, .int .u8 a.v.k, .int .i64 a.v.n, .string ⟨a.v.t.toArray⟩, .int .i64 a.x.c1, .int .i64 a.x.r1, .int .i64 a.x.c2, .int .i64 a.x.r2, .slice A1 a.l.length c1] 39 (0, 0))) :: (Th.obj gb1 (.cells #[.int .u8 0, .int .i64 0, .string ⟨[].toArray⟩] 25 (0, 0))) :: T) u ∧ fr.eval (.tmp 0) = .int .u8 (fn : Int) ∧ fr.eval (.tmp 4) = .pointer (some ⟨gb1, 0, none⟩) ∧ fr.eval (.tmp 5) = .int .i64 m ∧ fr.eval (.tmp 11) = .slice A l.length cap ∧ fr.eval (.tmp 12) = .int .i64 ((l.length : Nat) : Int) ∧ fr.eval (.tmp 13) = .int .i64 (k : Int) ∧ fr.eval (.tmp 8) = .pointer (some ⟨gb3, 0, none⟩) ∧ fr.eval (.tmp 20) = .slice A2 ((av a).2.length) c2 ∧ fr.eval (.tmp 21) = .int .i64 (((av a).2.length : Nat) : Int) ∧ fr.eval (.tmp 22) = .int .i64 (j : Int)) (fun j => (av a).2.length - j) 0 ⟨n, (Nat.zero_le _), (by simp), z, q, ow, s0, s4, s5, s11, s12, s13, s8, s20, s21, s22⟩ (fun j b_ u_ hI => ?_)
   revert b_ u_; intro fa fw hI
   obtain ⟨m, hj0, hm, z, q, ow, s0, s4, s5, s11, s12, s13, s8, s20, s21, s22⟩ := hI
   refine rgx [yV _] 1 54 z q ow (
     ua (rlt (zt s22) (zt s21)) rfl <|
     ah) fun fa fw bs hv ap z q ow => ?_
   obtain ⟨s0, s4, s5, s11, s12, s13, s8, s20⟩ := b8 bs s0 s4 s5 s11 s12 s13 s8 s20; obtain ⟨s21, s22⟩ := b2 bs s21 s22; have s23 := zh hv 0; refine sq fun hK13 => ?_
   by_cases hc2 : (j : Int) < (((av a).2.length : Nat) : Int)
   ·refine ct s23 ((decide_eq_true_iff).2 hc2) ?_
    refine wp_skip ?_; refine tn hK13 ?_; refine sq fun hK14 => ?_; refine wp_block ?_; refine sq fun hK15 => ?_; have hr2 := hR _ _ (r1.kept ow.kept) ow.tail.tail.tail; have hltj : j < (av a).2.length := by omega
    obtain ⟨cl, hcl⟩ := bQ hltj; obtain ⟨bcl, ocl, Acl, ecl⟩ := hr2.elem hcl
    refine ro [yV _, yV (.agg #[.int .i64 cl.c, .int .i64 cl.r, .int .u8 cl.v.k, .int .i64 cl.v.n, .string ⟨cl.v.t.toArray⟩]), bJ fw.heap.size (.cells #[.int .i64 0, .int .i64 0, .int .u8 0, .int .i64 0, .string ⟨[].toArray⟩] 46 (0, 0))] 3 54 z q ow (
      ua (rpl 5 Tryz.underlying35 Acl (zt s20) (zt s22) hltj) rfl <|
      aS (fun hk bs hd => mi (n := 5) 0 rfl (by kernel_rfl) (by kernel_rfl) (dp hd 0 rfl) rfl (ecl.kept hk)) rfl <|
      uq4 <|
      ah) fun fa fw bs hv ap z q ov => ?_
    obtain ⟨s0, s4, s5, s11, s12, s13, s8, s20⟩ := b8 bs s0 s4 s5 s11 s12 s13 s8 s20; obtain ⟨s21, s22⟩ := b2 bs s21 s22; have s25 := zh hv 1; obtain ⟨gb4, s10, bgb4, hgb4⟩ := zn hv 2; have ov := ov.hc ow bgb4 hgb4; have ow := ov; refine ws ow 0 0 s10 s25 fun fw ow => ?_; refine wt hK15 ?_
    refine rgx [yV _, yV _, yV _, yIf _ (yV _), yIf _ (yV _), yIf _ (yV _), yIf _ (yV (.pointer (some ⟨gb4, 2, none⟩))), yIf _ (yV (.pointer (some ⟨gb4, 2, none⟩))), yIf _ (yV _), yIf _ (yV _), yIf _ (yV _), yV _] 12 54 z q ow (
      um s0 rfl <|
      ua (req (zd 0) zc) rfl <|
      uq2 1 rfl rfl <|
      ui (gd1 2) (rmo (zt s0)) rfl <|
      ui (gd1 2) (rne (zi 3) zc) rfl <|
      ui (gd1 2) (rmo (zi 4)) rfl <|
      ui (gd2 5) (rfa (zt s10)) rfl <|
      ui (gd2 5) (rfa (zi 6)) rfl <|
      ui (gd2 5) (rlb ow 0 (zi 7)) rfl <|
      ui (gd2 5) (req (zi 8) zc) rfl <|
      ui (gd1 2) (rai (zi 5) (zi 9)) rfl <|
      ua (ron (zd 2) (zi 10)) rfl <|
      ah) fun fa fw bs hv ap z q ow => ?_
    obtain ⟨s0, s4, s5, s11, s12, s13, s8, s20⟩ := b8 bs s0 s4 s5 s11 s12 s13 s8 s20; obtain ⟨s21, s22⟩ := b2 bs s21 s22; have s37 := zh hv 11
    by_cases hc3 : ((fn : Int) = (12 : Int)) ∨ (((fn : Int) ≠ (13 : Int)) ∧ ((cl.v.k : Int) = (1 : Int)))
    ·refine ct s37 ((bor (decide_eq_true_iff) (lV (decide_eq_true_iff) (decide_eq_true_iff))).2 hc3) ?_
     have hcp : pE fn cl = true := yQ hc3; have fb := gn (av a).2 j (pE fn)
     refine ro [yV _, yV _] 2 54 z q ow (
       um s5 rfl <|
       ua (rad (zd 0) zc) rfl <|
       ah) fun fa fw bs hv ap z q ow => ?_
     obtain ⟨s0, s4, s5, s11, s12, s13, s8, s20⟩ := b8 bs s0 s4 s5 s11 s12 s13 s8 s20; obtain ⟨s21, s22⟩ := b2 bs s21 s22; have s39 := zh hv 1; refine ae (v := .int .i64 (m + 1)) (ag rfl) (aq rfl s39) ?_; refine gp9 z q ow s0 s4 s11 s12 s13 s8 s20 s21 s22 fun fa fw z q ow s0 s4 s11 s12 s13 s8 s20 s21 s22 s5 => ?_; refine bp ?_; refine bn ?_; refine tn hK14 ?_
     refine ro [yV (.int .i64 ((j + 1 : Nat) : Int))] 1 54 z q ow (
       ua (rad (zt s22) zc) rfl <|
       ah) fun fa fw bs hv ap z q ow => ?_
     obtain ⟨s0, s4, s11, s12, s13, s8, s20, s21⟩ := b8 bs s0 s4 s11 s12 s13 s8 s20 s21; obtain ⟨s22, s5⟩ := b2 bs s22 s5; have s40 := zh hv 0; refine ae (v := .int .i64 ((j + 1 : Nat) : Int)) (ag rfl) (ce rfl s40) ?_; refine gp9 z q ow s0 s4 s11 s12 s13 s8 s20 s21 s5 fun fa fw z q ow s0 s4 s11 s12 s13 s8 s20 s21 s5 s22 => ?_; refine bp ?_; exact bK ⟨(j + 1), ⟨(m + 1), hltj, (vy hm hcl hcp), z, q, ow.tail, s0, s4, s5, s11, s12, s13, s8, s20, s21, s22⟩, (show (av a).2.length - (j + 1) < (av a).2.length - j by omega)⟩
    refine cf s37 (bor (decide_eq_true_iff) (lV (decide_eq_true_iff) (decide_eq_true_iff))) hc3 ?_; have hcp : pE fn cl = false := AY hc3; refine wp_skip ?_; refine bn ?_; refine tn hK14 ?_
    refine ro [yV (.int .i64 ((j + 1 : Nat) : Int))] 1 54 z q ow (
      ua (rad (zt s22) zc) rfl <|
      ah) fun fa fw bs hv ap z q ow => ?_
    obtain ⟨s0, s4, s5, s11, s12, s13, s8, s20⟩ := b8 bs s0 s4 s5 s11 s12 s13 s8 s20; obtain ⟨s21, s22⟩ := b2 bs s21 s22; have s40 := zh hv 0; refine ae (v := .int .i64 ((j + 1 : Nat) : Int)) (ag rfl) (ce rfl s40) ?_; refine gp9 z q ow s0 s4 s5 s11 s12 s13 s8 s20 s21 fun fa fw z q ow s0 s4 s5 s11 s12 s13 s8 s20 s21 s22 => ?_; refine bp ?_; exact bK ⟨(j + 1), ⟨m, hltj, (zr hm hcl hcp), z, q, ow.tail, s0, s4, s5, s11, s12, s13, s8, s20, s21, s22⟩, (show (av a).2.length - (j + 1) < (av a).2.length - j by omega)⟩
   refine cf s23 (decide_eq_true_iff) hc2 ?_; refine wp_exit ?_; refine aX ?_; refine aX ?_; refine aP ?_; refine tn hK10 ?_
   refine rgx [yV _, yV _] 2 54 z q ow (
     um s0 rfl <|
     ua (req (zd 0) zc) rfl <|
     ah) fun fa fw bs hv ap z q ow => ?_
   obtain ⟨s0, s4, s5, s11, s12, s13, s8⟩ := b7 bs s0 s4 s5 s11 s12 s13 s8; have s42 := zh hv 1
   by_cases hc4 : (fn : Int) = (13 : Int)
   ·refine ct s42 ((decide_eq_true_iff).2 hc4) ?_
    have hfn := hc4; have fb := gn (av a).2 j (pE fn); have sz := mO (x := (av a).1)
    refine ro [yV _, yV (.agg #[.int .i64 (((av a).1).c1), .int .i64 (((av a).1).r1), .int .i64 (((av a).1).c2), .int .i64 (((av a).1).r2), .slice A2 ((av a).2.length) c2]), yV (.int .i64 (ck ((av a).1))), yV (.pointer (some ⟨gb3, 4, none⟩)), yV _, yV _, yV _, yV _] 8 54 z q ow (
      um s5 rfl <|
      ua (rln 5 ow 0 (zt s8)) rfl <|
      uc (rc1 (zd 1) iu) (fun hk => kN ((av a).1) _ _ _ _) rfl <|
      ua (rfa (zt s8)) rfl <|
      ua (rlb ow 0 (zd 3)) rfl <|
      ua (rle Tryz.underlying35 (zd 4)) rfl <|
      ua (rsb (zd 2) (zd 5)) rfl <|
      ua (rad (zd 0) (zd 6)) rfl <|
      ah) fun fa fw bs hv ap z q ow => ?_
    obtain ⟨s0, s4, s5, s11, s12, s13⟩ := b6 bs s0 s4 s5 s11 s12 s13; have s50 := zh hv 7; refine ae (v := .int .i64 (m + ((ck ((av a).1)) - (((av a).2.length : Nat) : Int)))) (ag rfl) (aq rfl s50) ?_; refine gp5 z q ow s0 s4 s11 s12 s13 fun fa fw z q ow s0 s4 s11 s12 s13 s5 => ?_; refine bp ?_; refine bn ?_; refine tn hK7 ?_
    refine ro [yV (.int .i64 ((k + 1 : Nat) : Int))] 1 54 z q ow (
      ua (rad (zt s13) zc) rfl <|
      ah) fun fa fw bs hv ap z q ow => ?_
    obtain ⟨s0, s4, s11, s12, s13, s5⟩ := b6 bs s0 s4 s11 s12 s13 s5; have s51 := zh hv 0; refine ae (v := .int .i64 ((k + 1 : Nat) : Int)) (ag rfl) (ce rfl s51) ?_; refine gp5 z q ow s0 s4 s11 s12 s5 fun fa fw z q ow s0 s4 s11 s12 s5 s13 => ?_; refine bp ?_; exact bK ⟨(k + 1), ⟨(m + ((ck ((av a).1)) - (((av a).2.length : Nat) : Int))), hltk, (qx ha hfn hn (qk hm (by omega))), (by constructor <;> omega), z, q, (ow.take 3).tail.tail, s0, s4, s5, s11, s12, s13⟩, (show l.length - (k + 1) < l.length - k by omega)⟩
   refine cf s42 (decide_eq_true_iff) hc4 ?_; have hfn := hc4; have fb := gn (av a).2 j (pE fn); have sz := mO (x := (av a).1); refine wp_skip ?_; refine bn ?_; refine tn hK7 ?_
   refine ro [yV (.int .i64 ((k + 1 : Nat) : Int))] 1 54 z q ow (
     ua (rad (zt s13) zc) rfl <|
     ah) fun fa fw bs hv ap z q ow => ?_
   obtain ⟨s0, s4, s5, s11, s12, s13⟩ := b6 bs s0 s4 s5 s11 s12 s13; have s51 := zh hv 0; refine ae (v := .int .i64 ((k + 1 : Nat) : Int)) (ag rfl) (ce rfl s51) ?_; refine gp5 z q ow s0 s4 s5 s11 s12 fun fa fw z q ow s0 s4 s5 s11 s12 s13 => ?_; refine bp ?_; exact bK ⟨(k + 1), ⟨m, hltk, (qy ha hfn hn (qk hm (by omega))), (by constructor <;> omega), z, q, (ow.take 3).tail.tail, s0, s4, s5, s11, s12, s13⟩, (show l.length - (k + 1) < l.length - k by omega)⟩
  refine cf s14 (decide_eq_true_iff) hc1 ?_; refine wp_exit ?_; refine aX ?_; refine aX ?_; refine aP ?_; refine tn hK3 ?_; refine sq fun hK18 => ?_
  refine ro [yV _, yV (al (aK (n * 10000)))] 2 54 z q ow (
    um s5 rfl <|
    uc (rc1 (zd 0) cC) (fun hk => dn n _ (by omega) (by omega)) rfl <|
    ah) fun fa fw bs hv ap z q ow => ?_
  have s4 := bg bs s4; have s53 := zh hv 1; refine ws ow 0 0 s4 s53 fun fw ow => ?_; refine wt hK18 ?_; refine wp_ret ?_; refine rs3 s4 (ow.box 0 rfl) q ?_; exact ⟨congrArg (fun v => Ending.returned (al v)) (show aK _ = aK _ by rw [hn, List.take_of_length_le (by omega)]), ow.kept⟩
