/- Layer 16: agg.collect: a range over the iterator; its body collects, and returns at an error. -/
import Derived.Test.YtbkjdcpfkepheaaGreatDoorVGAgg5
import Derived.Test.YtbkjdcpfkepheaaGreatDoorVMixAS
set_option maxHeartbeats 8000000
namespace Go.Proofs.YtbkjdcpfkepheaaGreatDoor
section
set_option linter.unusedVariables false
set_option linter.unusedSimpArgs false
open Go.RowKit Lv
set_option maxRecDepth 100000
attribute [local go_sem] Oper.semAt_some
def AQ (w : World) (l : List Ar) (e : Ending) (w' : World) : Prop := ∃ v x b, e = .returned (.tuple #[v, al x, .bool b]) ∧ Kept w w' ∧ ((b = false ∧ v = .slice none 0 0 ∧ aN (aF l) = some x) ∨ (b = true ∧ x = aG ∧ aN (aF l) = none ∧ w'.ownsRow w.heap.size 2 1 v ((aF l).map Vl.n).length (((aF l).map Vl.n).map (Value.int .i64))))
abbrev yK (X : World) (row : Option Nat) : Prop := ∀ r, row = some r → ∃ o : Obj, X.heap[r]? = some o ∧ o.isCells = false
theorem iz {X Y : World} {row : Option Nat} {g : Nat} {t : TypeId} {cs : Array Value} (h : Box X g t cs) (hg : X.grownBy Y row) (hr : yK X row) : Box Y g t cs := by
  refine (hg.block g h.inside fun e => ?_).trans h; obtain ⟨o, ho, hc⟩ := hr g e.symm; rw [show X.heap[g]? = _ from h] at ho
  cases ho; cases hc
theorem AR {X Y : World} {row : Option Nat} {n₀ : Nat} {e : TypeId} {size k : Nat} {v : Value} {xs : List Value} (h : X.ownsRow n₀ e size v k xs) (hg : X.grownBy Y row) (hr : yK X row) : Y.ownsRow n₀ e size v k xs := by
  refine h.kept hg ?_; rcases h.2 with ⟨rfl, _⟩ | ⟨g, cap, cur, rfl, _, hgb, _⟩
  · exact Or.inl rfl
  · refine Or.inr fun e' => ?_
    obtain ⟨o, ho, hc⟩ := hr g (by simpa [Value.ownBlock] using e'.symm); rw [hgb] at ho; cases ho; cases hc
def Cw (w : World) (gl gf go : Nat) (pre : List Vl) (W : World) : Prop := (∃ v, Boxed W gl 54 v ∧ W.ownsRow w.heap.size 2 1 v pre.length (pre.map fun x => Value.int .i64 x.n)) ∧ Box W gf 25 #[.int .u8 0, .int .i64 0, .string ⟨#[]⟩] ∧ Box W go 4 #[.bool false] ∧ aN pre = none ∧ Below w.heap.size w W
def Cx (w : World) (gl gf go : Nat) (c : Code) (pre : List Vl) (W : World) : Prop := c = .ret ∧ ∃ p x, pre = p ++ [x] ∧ aN p = none ∧ isE x = true ∧ Box W gl 54 #[.slice none 0 0] ∧ Box W gf 25 #[.int .u8 x.k, .int .i64 x.n, .string ⟨x.t.toArray⟩] ∧ Box W go 4 #[.bool false] ∧ Below w.heap.size w W
theorem wq {w : World} {gl gf go B : Nat} (hB : w.heap.size ≤ B) : OwnFrom B (Cw w gl gf go) := fun s X Y row h hg hr => by
  obtain ⟨⟨v, h1, h2⟩, h3, h4, h5, h6⟩ := h; have hn : yK X row := fun r e => (hr r e).2; exact ⟨⟨v, iz h1 hg hn, AR h2 hg hn⟩, iz h3 hg hn, iz h4 hg hn, h5, h6.grown hg h6.size (fun k e => Nat.le_trans hB (hr k e).1)⟩
theorem wu {w : World} {gl gf go B : Nat} (hB : w.heap.size ≤ B) (c : Code) : OwnFrom B (Cx w gl gf go c) := fun s X Y row h hg hr => by
  obtain ⟨h0, p, x, e1, e2, e3, h1, h3, h4, h6⟩ := h; have hn : yK X row := fun r e => (hr r e).2; exact ⟨h0, p, x, e1, e2, e3, iz h1 hg hn, iz h3 hg hn, iz h4 hg hn, h6.grown hg h6.size (fun k e => Nat.le_trans hB (hr k e).1)⟩
theorem ph {n₀ : Nat} {W : World} (h : n₀ ≤ W.heap.size) (o : Obj) : KeepsC n₀ W (W.alloc o) := ⟨(Below.refl _ W).alloc h o, fun k cs t r e _ _ => (Below.heap_alloc W o k (Array.getElem?_eq_some_iff.1 e).1).trans e⟩
theorem nf {W w1 : World} {n₀ B : Nat} {v v' : Value} {k m : Nat} {xs ys : List Value} {tmp : Obj} (hv : Boxed W B 54 v) (hrow : W.ownsRow n₀ 2 1 v k xs) (hn₀ : n₀ ≤ W.heap.size) (hB : n₀ ≤ B) (hown' : w1.ownsRow n₀ 2 1 v' m ys) (hgrow : (W.alloc tmp).grownBy w1 v.ownBlock) : KeepsC n₀ W (w1.setCell ⟨B, 0, none⟩ v') := by
  refine ⟨(hv.appended (by decide) hrow hn₀ hB hown' hgrow).2.2.2.2, fun j cs t r e h1 h2 => ?_⟩; have hj := (Array.getElem?_eq_some_iff.1 e).1
  have ne1 : j ≠ B := fun c => by
    subst c; rw [show W.heap[j]? = _ from hv] at e
    cases e
    exact h2 rfl
  have e2 : (W.alloc tmp).heap[j]? = some (.cells cs t r) := (Below.heap_alloc W tmp j hj).trans e
  have ne2 : some j ≠ v.ownBlock := fun c => by
    rcases hrow.2 with ⟨rfl, _⟩ | ⟨g, cap, cur, rfl, _, hgb, _⟩
    · simp [Value.ownBlock] at c
    · obtain rfl : j = g := by simpa [Value.ownBlock] using c
      rw [e] at hgb
      cases hgb
      exact h1 rfl
  exact (Below.heap_setCell w1 ⟨B, 0, none⟩ v' j ne1).trans ((hgrow.block j (by rw [World.size_alloc]; omega) ne2).trans e2)
theorem wA (A : Option Addr) (cap : Nat) (l : List Ar) (w w1 : World) (mx : Int) (HM : Mx w mx) (hr : ArgsAt w A l) (hs : ∀ a ∈ l, bI a) (hl : l.length ≤ 1000000) (hla : ∀ a ∈ l, a.l.length ≤ 1000000) (hB : Kept w w1) (g n : Nat) (hg : Box w1 g 22 #[.slice A l.length cap]) :
    SeqStopsK Fence.wide n Tryz.prog 121 #[.pointer (some ⟨g, 0, none⟩)] (fun x : Vl => #[al x]) (KeepsC w.heap.size) (fun ys => ys = upE (aF l)) (fun pre => pre <+: aF l) (aF l).length w1 := fun lp J Jx W hW hJ hJx hY h0 =>
  callsIn_wide.2 (wm A cap l w W mx HM hr hs hl hla (hB.trans hW) g ((hW.block g hg.inside).trans hg) (n - 1) lp J Jx hJ hJx hY h0)
section
variable {P : Program} {ops : Array Oper} {Q : Exit → Act → World → Prop} {K : Act → World → Prop} {a : Act} {w w' : World} {lp n i : Nat} {o : Oper} {v : Value}
theorem rY (ho : ops[i]? = some o) (hg : o.guard = none) (hd : ∀ c, o.op ≠ .defer c) (hr : (execOp a.eval o).run P w = .ok (.value v) w') (h : K (a.put o.dst v) w') : wpOpIn (Fence.wide.inRound lp) n P ops Q i K a w := by
  unfold wpOpIn; rw [ho]
  simp only
  rw [if_pos (ag hg)]; refine ⟨fun _ _ => trivial, ?_⟩; show Oper.uponIn _ _ _ _ _ _ _ ((Oper.semAt (some lp) a.eval o).run P w); rw [Oper.semAt_some lp a.eval o hd, hr]; exact h
theorem nh (ho : ops[i]? = some o) (hg : o.guard = none) (hn : o.dst = none) (hd : ∀ c, o.op ≠ .defer c) (hr : (execOp a.eval o).run P w = .ok .skip w') (h : K a w') : wpOpIn (Fence.wide.inRound lp) n P ops Q i K a w := by
  unfold wpOpIn; rw [ho]
  simp only
  rw [if_pos (ag hg)]; refine ⟨fun _ _ => trivial, ?_⟩; show Oper.uponIn _ _ _ _ _ _ _ ((Oper.semAt (some lp) a.eval o).run P w); rw [Oper.semAt_some lp a.eval o hd, hr, Oper.uponIn_skip, hn]; exact h
end
theorem Box.grownA {W w1 : World} {n₀ B g k : Nat} {t : TypeId} {cs : Array Value} {v v' : Value} {xs : List Value} {tmp : Obj} (h : Box W g t cs) (hgrow : (W.alloc tmp).grownBy w1 v.ownBlock) (hrow : W.ownsRow n₀ 2 1 v k xs) (ht : t ≠ 2) (ne : B ≠ g) : Box (w1.setCell ⟨B, 0, none⟩ v') g t cs := by
  have e2 : (W.alloc tmp).heap[g]? = some (.cells cs t (0, 0)) := (Below.heap_alloc W tmp g h.inside).trans h
  have ne2 : some g ≠ v.ownBlock := fun c => by
    rcases hrow.2 with ⟨rfl, _⟩ | ⟨b, cap, cur, rfl, _, hgb, _⟩
    · simp [Value.ownBlock] at c
    · obtain rfl : g = b := by simpa [Value.ownBlock] using c
      rw [show W.heap[g]? = _ from h] at hgb
      cases hgb
      exact ht rfl
  exact (Below.heap_setCell w1 ⟨B, 0, none⟩ v' g (fun c => ne c.symm)).trans ((hgrow.block g (by rw [World.size_alloc]; have := h.inside; omega) ne2).trans e2)
theorem DK {w W : World} {a b c : Nat} {s t u : TypeId} {x y z : Array Value} (hB : Below w.heap.size w W) (h1 : Box W a s x) (h2 : Box W b t y) (h3 : Box W c u z) (k1 : w.heap.size ≤ a) (k2 : w.heap.size ≤ b) (k3 : w.heap.size ≤ c) (n : a ≠ b ∧ a ≠ c ∧ b ≠ c) : Own w [Th.obj a (.cells x s (0, 0)), Th.obj b (.cells y t (0, 0)), Th.obj c (.cells z u (0, 0))] W := by
  have o : Own w [] W := ⟨hB, fun _ h => (by cases h), fun _ h => (by cases h), List.Pairwise.nil⟩; have o3 := o.cons h3 k3 (fun _ h => by cases h); have o2 := o3.cons h2 k2 (fun s hs e => by rw [List.mem_singleton.1 hs] at e; exact n.2.2 (Option.some.inj e).symm)
  exact o2.cons h1 k1 (fun s hs e => by
    rcases List.mem_cons.1 hs with rfl | hs
    · exact n.1 (Option.some.inj e).symm
    · rw [List.mem_singleton.1 hs] at e; exact n.2.1 (Option.some.inj e).symm)
theorem gM (W : World) (b i : Nat) (vs : List Value) : KeepsOthers W (bN W b i vs) := by
  induction vs generalizing W i with
  | nil => exact KeepsOthers.refl W
  | cons v r ih => exact (KeepsOthers.setCell W _ v).trans (ih _ _)
theorem AU {W : World} {g b i : Nat} {t : TypeId} {cs : Array Value} (h : Box W g t cs) (ne : g ≠ b) : ∀ {vs : List Value}, Box (bN W b i vs) g t cs := by
  intro vs
  induction vs generalizing W i with
  | nil => exact h
  | cons v r ih => exact ih ((Below.heap_setCell W ⟨b, i, none⟩ v g ne).trans h)
theorem nk {P : Program} {ops : Array Oper} {Q : Exit → Act → World → Prop} {rest : List Oper} {o : Oper} {a : Act} {w w0 : World} {n : Nat} {H : List Th} (ow : Own w0 H w) (k off : Nat) {g : Nat} {cs : Array Value} {t T : TypeId} {x y : Operand} {v : Value} (hw : Region.wanted o (yielded ops a.tmps) = true) (hn : o.dst = none) (ho : o.op = .store T x y) (hx : a.eval x = .pointer (some ⟨g, off, none⟩)) (hy : a.eval y = v) (hs : (sizeOf T).run P w = .ok v.cells.size w) (e : H[k]? = some (Th.obj g (.cells cs t (0, 0)))) (h1 : (v.cells.toList.all fun v => v.oneCell') = true) (hb : Nat.ble (off + v.cells.toList.length) cs.size = true)
    (c : ∀ w', Own w0 (H.set k (Th.obj g (.cells (fA cs off v.cells.toList) t (0, 0)))) w' → KeepsOthers w w' → wpListIn Fence.wide n P ops Q rest a w') : wpListIn Fence.wide n P ops Q (o :: rest) a w := by
  have hr := fC (P := P) ho hx hy hs (ow.box k e) h1 (Nat.le_of_ble_eq_true hb); unfold wpListIn; rw [if_pos hw]; refine ⟨fun _ _ => trivial, ?_⟩; show Oper.uponIn _ _ _ _ _ _ _ ((Oper.semAt none a.eval o).run P w); rw [Oper.semAt_none, hr, Oper.uponIn_skip, hn]; exact c _ (ow.put k e off _) (gM _ _ _ _)
theorem pi {P : Program} {n : Nat} {fn : Func} {R : Ending → World → Prop} {a : Act} {W : World} {D : Nat} (hd : a.defers = [{ target := .collected D, args := #[] }]) (hK : W.heap[D]? = some (.deferred (some []))) (h : bodyPost P fn R .ret { a with defers := [] } (W.putObj D (.deferred none))) : bodyPostM Fence.wide n P fn R .ret a W := by
  obtain ⟨_, v, hr, hR⟩ := h; show LeavesInM _ _ _ _ a.tmps _ a.defers _ _; rw [hd]; exact ⟨by simp, .inl ⟨_, _, rfl, run_takeDeferred hK, v, hr, hR⟩⟩
theorem je {P : Program} {a : Act} {w : World} {t : Tmp} {T : TypeId} {g : Nat} {ty : TypeId} {cs : Array Value} {v : Value} (e : a.eval (.tmp t) = .pointer (some ⟨g, 0, none⟩)) (ha : (isAgg T).run P w = .ok false w) (bx : Box w g ty cs) (hv : cs[0]? = some v) : (fS a (.cell t T)).run P w = .ok v w := by
  have e' : a.tmps.getD t undef = .pointer (some ⟨g, 0, none⟩) := e; have hc := (bx.cell 0).trans hv; have hl : (load ⟨g, 0, none⟩).run P w = .ok v w := by simp [load, Sem.run, hc]
  unfold fS
  simp only [e', asAddr, loadVar, Sem.run_bind, Sem.run_pure, Result.andThen_ok, ha, Bool.false_eq_true, if_false, hl]
theorem Box.putD {W : World} {D g : Nat} {t : TypeId} {cs : Array Value} {o' : Obj} (h : Box W g t cs) (hK : W.heap[D]? = some (.deferred (some []))) : Box (W.putObj D o') g t cs := by
  have ne : g ≠ D := fun c => by
    subst c; rw [show W.heap[g]? = _ from h] at hK
    cases hK
  exact (World.putObj_heap_other ne).trans h
theorem Box.not_row16 {W : World} {n₀ g k : Nat} {t : TypeId} {cs : Array Value} {v : Value} {xs : List Value} (h : Box W g t cs) (ht : t ≠ 2) (hrow : W.ownsRow n₀ 2 1 v k xs) (b : Nat) (c : some g = some b) (e : v.ownBlock = some b) : False := by
  cases c
  rcases hrow.2 with ⟨rfl, _⟩ | ⟨b, cap, cur, rfl, _, hgb, _⟩
  · simp [Value.ownBlock] at e
  · obtain rfl : b = g := by simpa [Value.ownBlock] using e
    rw [show W.heap[b]? = _ from h] at hgb
    cases hgb
    exact ht rfl
theorem wB {l : List Nat} {i j k : Nat} (h : i ∈ l) (e : l = [j, k]) : i = j ∨ i = k := by subst e; simpa using h
theorem jf {l : List Nat} {j : Nat} {r : List Nat} {p : Prop} (e : l = j :: r) (h : l = []) : p := by subst e; cases h
theorem jg {l : List Nat} {i j : Nat} (h : i ∈ l) (e : l = [j]) : i = j := by subst e; simpa using h
theorem gz (A : Option Addr) (cap : Nat) (l : List Ar) (w : World) (mx : Int) (HM : Mx w mx) (hr : ArgsAt w A l) (hs : ∀ a ∈ l, bI a) (hl : l.length ≤ 1000000) (hla : ∀ a ∈ l, a.l.length ≤ 1000000) (hn : (aF l).length ≤ 1000000) :
    Calls Tryz.prog 57 #[.slice A l.length cap] w (AQ w l) := by
  obtain ⟨i0, hi, hz0, hz1, hz2⟩ := ym; refine (callsIn_wide (n := 9)).1 ?_; refine callsIn_of_wp_marks Tryz.func57 rfl trivial ?_ rfl
  simp only [Tryz.ntmps57, List.size_toArray, List.length_cons, List.length_nil, Nat.reduceAdd, Nat.reduceSub, Array.replicate_succ, Array.replicate_zero, List.push_toArray, List.append_toArray, List.nil_append, List.cons_append]
  gi_wp2_with (refine ⟨trivial, ?_⟩; gi_at_call 89; refine (callsIn_wide.2 (pg A cap l _)).mono ?_; rintro e w1 ⟨g, rfl, hg, hge, hk⟩)
  have hsz := hk.size
  simp only [World.size_alloc] at hsz hge
  have hB1 : Below w.heap.size w w1 := ((((Below.refl _ w).alloc (Nat.le_refl _) _).alloc (by simp) _).alloc (by simp; omega) _).trans (hk.mono (by simp; omega)); have bL : Box w1 w.heap.size 54 #[.slice none 0 0] := (hk.block _ (by simp; omega)).trans (((Box.new w _ _).alloc _).alloc _); have bF : Box w1 (w.heap.size + 1) 25 #[.int .u8 0, .int .i64 0, .string ⟨#[]⟩] := (hk.block _ (by simp)).trans ((Box.newAt (by simp) _ _).alloc _); have bO : Box w1 (w.heap.size + 1 + 1) 4 #[.bool false] := (hk.block _ (by simp)).trans (Box.newAt (by simp) _ _); obtain ⟨gl, hgl⟩ : ∃ gl, gl = w.heap.size := ⟨_, rfl⟩; obtain ⟨gf, hgf⟩ : ∃ gf, gf = w.heap.size + 1 := ⟨_, rfl⟩; obtain ⟨go, hgo⟩ : ∃ go, go = w.heap.size + 1 + 1 := ⟨_, rfl⟩; rw [← hgo] at bO; rw [← hgf] at bF
  simp only [← hgo]
  simp only [← hgf]
  simp only [← hgl]
  have HL : Hid (w.heap.size ≤ gl) := Lib.hid (by omega); have HF : Hid (w.heap.size ≤ gf) := Lib.hid (by omega); have HO : Hid (w.heap.size ≤ go) := Lib.hid (by omega); have HN : Hid (gl ≠ gf ∧ gl ≠ go ∧ gf ≠ go) := Lib.hid (by omega); have hle : w.heap.size ≤ w1.heap.size := hB1.size; rw [← hgl] at bL; have hgl' : Hid (gl = w.heap.size) := Lib.hid hgl; clear hgl hgf hgo hsz hge hk
  rename_i K6 h6
  have cell4 : ∀ {W : World} {b : Nat} {t : TypeId} {x : Vl}, Box W b t #[.int .u8 x.k, .int .i64 x.n, .string ⟨x.t.toArray⟩] → W.cell? ⟨b, 0, none⟩ = some (.int .u8 x.k) ∧ W.cell? ⟨b, 1, none⟩ = some (.int .i64 x.n) ∧ W.cell? ⟨b, 2, none⟩ = some (.string ⟨x.t.toArray⟩) := fun h => ⟨h.cell 0, h.cell 1, h.cell 2⟩
  refine wpIn_rangeFunc_ownH rfl (by decide) (gf := 121) (lb := #[.pointer (some ⟨g, 0, none⟩)]) rfl trivial (enters_of Tryz.func121 (by kernel_rfl) rfl)
    (wA A cap l w w1 mx HM hr hs hl hla hB1 g _ hg) yh (yi hle) (Below.refl _ _) (fun _ => rfl)
    (Cw w gl gf go) (Cx w gl gf go) (wq hle) (wu hle) ⟨⟨_, bL, World.ownsRow_nil _ _ _ _⟩, bF, bO, rfl, hB1⟩
    (fun x a' W => ∃ Bx, (gl < Bx ∧ gf < Bx ∧ go < Bx) ∧ Box W Bx 25 #[.int .u8 x.k, .int .i64 x.n, .string ⟨x.t.toArray⟩] ∧ a' = { tmps := #[.slice A l.length cap, undef, .pointer (some ⟨gl, 0, none⟩), .pointer (some ⟨gf, 0, none⟩), .pointer (some ⟨go, 0, none⟩), .pointer (some ⟨Bx, 0, none⟩), .slice A l.length cap, .func (.func 121) #[] #[.pointer (some ⟨g, 0, none⟩)], al x, undef, undef, undef, undef, undef, undef, undef, undef, undef, undef, undef], defers := [] })
    (fun x a' s X Y row hs hg hr => by obtain ⟨Bx, e1, e2, e3⟩ := hs; exact ⟨Bx, e1, iz e2 hg (fun r e => (hr r e).2), e3⟩)
    ?assign ?body ?done ?stop
  case assign =>
    rintro lp pre x W K ⟨⟨v, hv, hrow⟩, hF, hO, hfe, hB⟩ hK
    gi_wp2
    exact hK _ _ ((KeepsOthers.alloc _ _).from _) (ph hB.size _) ⟨⟨v, hv.alloc _, hrow.alloc _⟩, hF.alloc _, hO.alloc _, hfe, hB.alloc hB.size _⟩ ⟨W.heap.size, ⟨hv.lt, hF.inside, hO.inside⟩, Box.new W _ _, rfl⟩
  case body =>
    rintro lp pre x a' W hl' ⟨r, hr'⟩ ⟨⟨v, hv, hrow⟩, hF, hO, hfe, hB⟩ ⟨Bx, ⟨hx1, hx2, hx3⟩, bX, rfl⟩ hlt; obtain ⟨x0, x1, x2⟩ := cell4 bX; have hc := hv.cell; have fc := hv.frozen
    by_cases hx : (x.k : Int) = 4
    · have hx' : ((x.k : Int) == 4) = true := by simp [hx]
      have fL := hv.frozen; have f0 := hF.loose 0; have f1 := hF.loose 1; have f2 := hF.loose 2; have g0 := hF.cell 0; have g1 := hF.cell 1; have g2 := hF.cell 2; have o0 := hO.cell 0; have o1 := hO.loose 0
      gi_wp2
      have ow : Own w [Th.obj gl (.cells #[v] 54 (0, 0)), Th.obj gf (.cells #[.int .u8 0, .int .i64 0, .string ⟨#[]⟩] 25 (0, 0)), Th.obj go (.cells #[.bool false] 4 (0, 0))] W.drew := (DK hB hv hF hO HL.out HF.out HO.out HN.out).keep ((Kept.refl W).drew); have ow1 := ow.put 0 rfl 0 [.slice none 0 0]; have bX1 : Box (bN W.drew gl 0 [.slice none 0 0]) Bx 25 #[.int .u8 x.k, .int .i64 x.n, .string ⟨x.t.toArray⟩] := AU (W := W.drew) bX (by omega); have ow2 := ow1.put 1 rfl 0 [.int .u8 x.k, .int .i64 x.n, .string ⟨x.t.toArray⟩]; have ow3 := ow2.put 2 rfl 0 [.bool false]; have k3 : KeepsFrom w1.heap.size W (bN (bN (bN W.drew gl 0 [.slice none 0 0]) gf 0 [.int .u8 x.k, .int .i64 x.n, .string ⟨x.t.toArray⟩]) go 0 [.bool false]) := ((((KeepsOthers.drew W).trans (gM _ _ _ _)).trans (gM _ _ _ _)).trans (gM _ _ _ _)).from _; refine wpIn_region_any (by kernel_rfl) ?_; refine ⟨fun h => jf (j := 0) (r := [1]) (by kernel_rfl) h, fun i hi => ?_⟩; have hi : i = 0 ∨ i = 1 := wB hi (by kernel_rfl); rcases hi with rfl | rfl
      all_goals first
        | (refine rY rfl rfl (fun _ => by simp) (oe 3 (vs := [.int .u8 x.k, .int .i64 x.n, .string ⟨x.t.toArray⟩]) rfl (by kernel_rfl) (by kernel_rfl) rfl bX (Nat.le_of_ble_eq_true rfl) rfl) ?_; refine ⟨fun h => jf (j := 1) (r := []) (by kernel_rfl) h, fun i hi => ?_⟩; obtain rfl := jg hi (j := 1) (by kernel_rfl); refine nh rfl rfl rfl (fun _ => by simp) (fC (off := 0) rfl rfl rfl (by kernel_rfl) (ow.box 0 rfl) rfl (Nat.le_of_ble_eq_true rfl)) ?_)
        | (refine nh rfl rfl rfl (fun _ => by simp) (fC (off := 0) rfl rfl rfl (by kernel_rfl) (ow.box 0 rfl) rfl (Nat.le_of_ble_eq_true rfl)) ?_; refine ⟨fun h => jf (j := 0) (r := []) (by kernel_rfl) h, fun i hi => ?_⟩; obtain rfl := jg hi (j := 0) (by kernel_rfl); refine rY rfl rfl (fun _ => by simp) (oe 3 (vs := [.int .u8 x.k, .int .i64 x.n, .string ⟨x.t.toArray⟩]) rfl (by kernel_rfl) (by kernel_rfl) rfl bX1 (Nat.le_of_ble_eq_true rfl) rfl) ?_)
      all_goals
        refine ⟨fun h => jf (j := 2) (r := []) (by kernel_rfl) h, fun i hi => ?_⟩; obtain rfl := jg hi (j := 2) (by kernel_rfl); refine nh rfl rfl rfl (fun _ => by simp) (fC (off := 0) rfl rfl rfl (by kernel_rfl) (ow1.box 1 rfl) rfl (Nat.le_of_ble_eq_true rfl)) ?_; refine ⟨fun h => jf (j := 3) (r := []) (by kernel_rfl) h, fun i hi => ?_⟩; obtain rfl := jg hi (j := 3) (by kernel_rfl); refine nh rfl rfl rfl (fun _ => by simp) (fC (off := 0) rfl rfl rfl (by kernel_rfl) (ow2.box 2 rfl) rfl (Nat.le_of_ble_eq_true rfl)) ?_; refine ⟨by kernel_rfl, ?_⟩; refine (show ∀ W3, KeepsFrom w1.heap.size W W3 → Own w [Th.obj gl (.cells #[.slice none 0 0] 54 (0, 0)), Th.obj gf (.cells #[.int .u8 x.k, .int .i64 x.n, .string ⟨x.t.toArray⟩] 25 (0, 0)), Th.obj go (.cells #[.bool false] 4 (0, 0))] W3 → Exit.then _ _ .normal _ W3 from ?_) _ k3 ow3; clear k3 ow3 ow2 ow1 ow bX1; intro W3 k3 o3
        simp only [Exit.then]
        gi_wp2
        exact ⟨k3, rfl, pre, x, rfl, hfe, rF hx, o3.box 0 rfl, o3.box 1 rfl, o3.box 2 rfl, o3.kept⟩
    · have hx' : ((x.k : Int) == 4) = false := by simp [hx]
      have hpl : pre.length + 1 ≤ 1000000 := by omega
      gi_wp2_with (gi_at_builtin; refine wpListIn_append_own _ rfl _ _ 54 rfl w.heap.size 2 i0 (.int .i64 0) 1 8 Tryz.underlying54 hi hz0 hz1 hz2 rfl (by decide) _ _ _ rfl (hrow.alloc _) ⟨W.heap.size, 0, none⟩ 1 1 [.int .i64 x.n] rfl rfl (cell_one_new _ _ _) (by simp [Value.oneCell']) (by simp only [maxLen]; omega) (by omega) (by have := hB.size; simp; omega) ?_; intro v' w2 hown' hgrow _; obtain ⟨g', cap', rfl⟩ := ownsRow_succ hown'; obtain ⟨hv1, hv2, hr2, hk2, hb2⟩ := hv.appended (by decide) hrow hB.size HL.out hown' hgrow; have hc1 := hv1.cell; have hf1 := hv1.frozen)
      exact ⟨hk2.from _, nf hv hrow hB.size HL.out hown' hgrow, ⟨_, hv2, by simpa using hr2⟩, hF.grownA hgrow hrow (by decide) HN.out.1, hO.grownA hgrow hrow (by decide) HN.out.2.1, kP hfe (mQ hx), hB.trans hb2⟩
  case done =>
    rintro D ys W hD rfl ⟨⟨v, hv, hrow⟩, hF, hO, hfe, hB⟩ hK; obtain ⟨Av, cv, rfl⟩ := bV hrow
    have ow := (DK hB hv hF hO HL.out HF.out HO.out HN.out).consT (t := Th.row w.heap.size 2 1 _ _ _) hrow (fun g e => (World.ownsRow.lt hrow g e).1) (fun s hs g e => by
      simp only [List.mem_cons, List.not_mem_nil, or_false] at hs
      rcases hs with rfl | rfl | rfl
      · exact fun c => Box.not_row16 hv (by decide) hrow g c e
      · exact fun c => Box.not_row16 hF (by decide) hrow g c e
      · exact fun c => Box.not_row16 hO (by decide) hrow g c e)
    refine h6 _ _ ?_; refine wpIn_seq (wpIn_region_lit ?_); refine bq (v := .slice Av (upE (aF l)).length cv) (ag rfl) (iO rfl (by kernel_rfl) rfl (ow.box 1 rfl) rfl) ?_; refine bq (v := .agg #[.int .u8 0, .int .i64 0, .string ⟨#[]⟩]) (ag rfl) (bP (us := #[]) rfl (by simp) (by kernel_rfl)) ?_; refine nk ow 1 0 (ag rfl) rfl rfl rfl rfl (by kernel_rfl) rfl (fE rfl rfl) rfl fun W1 ow c1 => ?_; refine nk ow 2 0 (ag rfl) rfl rfl rfl rfl (by kernel_rfl) rfl rfl rfl fun W2 ow c2 => ?_; refine nk ow 3 0 (ag rfl) rfl rfl rfl rfl (by kernel_rfl) rfl rfl rfl fun W3 ow c3 => ?_; refine wpListIn_nil ?_; have hK3 := c3.same D _ (c2.same D _ (c1.same D _ hK rfl) rfl) rfl; have hD3 : w.heap.size ≤ D := Nat.le_trans hle hD; refine wpIn_ret (pi rfl hK3 ?_); have hfe' := mo hfe; have hrow3 := ownsRow_putObj (ow.row 0 rfl) (.deferred none) hK3 rfl; refine aU (v := .tuple #[.slice Av (upE (aF l)).length cv, al aG, .bool true]) rfl (.cons (je rfl (by kernel_rfl) (Box.putD (ow.box 1 rfl) hK3) rfl) (.cons (bo (n := 3) [.int .u8 0, .int .i64 0, .string ⟨#[]⟩] rfl (by kernel_rfl) (by kernel_rfl) (Box.putD (ow.box 2 rfl) hK3) (Nat.le_of_ble_eq_true rfl) rfl) (.cons (je rfl (by kernel_rfl) (Box.putD (ow.box 3 rfl) hK3) rfl) .nil))) rfl rfl ?_; refine ⟨_, _, _, rfl, Below.trans ow.kept ?_, Or.inr ⟨rfl, rfl, hfe', ?_⟩⟩
    · exact (belowK_b (w := w1) (n₀ := w.heap.size) hle W3 D _ _ hD hK3 rfl rfl)
    · rw [mP hfe'] at hrow3 ⊢
      rw [List.length_map, List.map_map]; exact hrow3
  case stop =>
    rintro D c pre W hD hpre ⟨rfl, p, x, rfl, hfe, hie, hL, hF, hO, hB⟩ hK; refine wpIn_ret (pi rfl hK ?_); refine aU (v := .tuple #[.slice none 0 0, al x, .bool false]) rfl (.cons (je rfl (by kernel_rfl) (Box.putD hL hK) rfl) (.cons (bo (n := 3) [.int .u8 x.k, .int .i64 x.n, .string ⟨x.t.toArray⟩] rfl (by kernel_rfl) (by kernel_rfl) (Box.putD hF hK) (Nat.le_of_ble_eq_true rfl) rfl) (.cons (je rfl (by kernel_rfl) (Box.putD hO hK) rfl) .nil))) rfl rfl ?_; obtain ⟨r, hr⟩ := hpre; refine ⟨_, _, _, rfl, hB.trans (belowK_b (w := w1) (n₀ := w.heap.size) hle W D _ _ hD hK rfl rfl), Or.inl ⟨rfl, rfl, ?_⟩⟩; rw [← hr, List.append_assoc]; exact An hfe hie
