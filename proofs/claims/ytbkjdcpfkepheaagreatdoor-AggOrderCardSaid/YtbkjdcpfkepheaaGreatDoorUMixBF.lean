/- Small texts together: GArgs16, MAgg10, MAgg11, GLaw16, MAgg12. -/
import Derived.Test.YtbkjdcpfkepheaaGreatDoorUMixAL
import Derived.Test.YtbkjdcpfkepheaaGreatDoorUGRow16
import Derived.Test.YtbkjdcpfkepheaaGreatDoorULift
import Derived.SizedLaws
import Derived.Lib.SmallJoins
import Derived.Test.YtbkjdcpfkepheaaGreatDoorUMixAV
import Derived.Test.YtbkjdcpfkepheaaGreatDoorUGGood16
import Derived.Test.YtbkjdcpfkepheaaGreatDoorUGAwake16
set_option linter.unusedVariables false
set_option linter.unusedSimpArgs false
namespace Go.Proofs.YtbkjdcpfkepheaaGreatDoor
open Go.ChangeShapes Go.WideShapes Go.RowKit Go.Joins Go.Deep Lv
set_option maxRecDepth 100000
theorem lift_sized {H : Type} {enc : TypeId × Value → H} {C : Checked} {os : Os} {f : FuncId} {fn : Func} {s : ChangeSpec} {cs : List PathCond} {apart fresh handsOn again : Bool} {X : World → Prop}
    (hX : ∀ w w' : World, w.heap = w'.heap → X w → X w') (own : ownKnob C.prog.godebug = none) (started : os.Started) (ni : C.prog.inits.idxOf? f = none) (hfn : C.prog.funcs[f]? = some fn)
    (wit : ∃ (w : World) (tape : Tape) (i : Input), w.os = os ∧ (w.forCall tape i).Shaped C.prog ∧ i.vars = [] ∧ Input.okWide C.prog (w.forCall tape i) .any w.heap.size f i ∧
      ((s.pre enc C.prog fn cs apart (w.forCall tape i).memory i.args ∧ X (w.forCall tape i).memory) ∧ sizedMet enc C.prog fn (OpenSpec.ofChange s) apart (w.forCall tape i).memory i.args) ∧ Assume.holds {} C.prog (lone (Frame.enter C.prog f i.args .normal) [] (w.forCall tape i)))
    (walk : ∀ (W : World) (base : Nat) (args : Array Value) (ds gs : List (DataW H)) (before : List MemPlace),
      (∀ (j : Nat) t v, fn.params[j]? = some t → args[j]? = some v → Value.okWide C.prog W .any base t v) →
      DataW.Whole enc C.prog fn.params.toList s.vars apart W args.toList ds gs before →
      (DataW.weightsEach C.prog (fn.params.toList ++ (OpenSpec.ofChange s).bare.plain.varTypes C.prog) (ds ++ gs)).all (· ≤ reachBytes) = true → W.ShapedOpen C.prog → X W →
      Calls C.prog f args W fun e W' => ∃ v, e = .returned v ∧ s.post enc C.prog fn apart fresh handsOn again W args v W') :
    ReturnsInHanded {} C os f .any (fun w args => (s.pre enc C.prog fn cs apart w args ∧ X w) ∧ sizedMet enc C.prog fn (OpenSpec.ofChange s) apart w args) (s.post enc C.prog fn apart fresh handsOn again) := by
  refine returnsInHanded_of_calls own started ni wit ?_; intro w tape i _ hsh _ hok hpre _; obtain ⟨_, _, _, g, hg, _, _, _, _, hv⟩ := hok; obtain rfl : g = fn := Option.some.inj (hg.symm.trans hfn); obtain ⟨⟨⟨ds, gs, before, hw, _⟩, hx⟩, hz⟩ := hpre; have hw2 := DataW.Whole.of_heap (w' := w.forCall tape i) (by rfl) hw; refine (walk _ w.heap.size i.args ds gs before hv hw2 (hz.weights hw) hsh (hX _ _ (by rfl) hx)).mono fun e W' h => ?_; obtain ⟨v, rfl, hp⟩ := h; exact ChangeSpec.post_blind hp
def WideC (c : Cl) : Prop := i64 c.c ∧ i64 c.r ∧ Wide c.v
def WideR (x : Rc) : Prop := i64 x.c1 ∧ i64 x.r1 ∧ i64 x.c2 ∧ i64 x.r2
def WideA (a : Ar) : Prop := Wide a.v ∧ WideR a.x ∧ ∀ c ∈ a.l, WideC c
theorem wf_r64 {n : Int} (h : (Lit.int .i64 n).wf = true) : i64 n := by
  unfold Lit.wf at h; rw [Bool.and_eq_true, decide_eq_true_eq, decide_eq_true_eq] at h; exact h
def Sized {H : Type} (t : TypeId) (d : DataW H) : Prop := (d.weights Tryz.prog t).all (· ≤ reachBytes) = true
theorem cells_of_ref : Tryz.prog.cellsOf 44 = 2 := by kernel_rfl
theorem cells_of_rect : Tryz.prog.cellsOf 34 = 4 := by kernel_rfl
theorem cells_of_cell : Tryz.prog.cellsOf 46 = 5 := by kernel_rfl
theorem cells_of_area : Tryz.prog.cellsOf 37 = 5 := by kernel_rfl
theorem cells_of_arg : Tryz.prog.cellsOf 39 = 9 := by kernel_rfl
theorem bytes_of_cell : Tryz.prog.bytesOf 46 = 48 := by kernel_rfl
section
variable {H : Type} {enc : TypeId × Value → H} {W : World} {b : Nat} {sp : Nat → Bool} {held : Bool} {fuel : Nat} {cs : List Value} {x : DataW H × List MemPlace}
theorem open_rc (h : DataW.trod enc Tryz.prog W b sp held fuel 34 cs = some x) : ∃ r : Rc, cs = rcV r ∧ WideR r := by
  obtain ⟨y0, y1, y2, y3, m, hx, hl, h0, h1, h2, h3⟩ := trod_struct4 Tryz.underlying34 h; rw [cells_of_rect] at hl
  match cs, hl with
  | [c0, c1, c2, c3], _ =>
    have q0 : DataW.trod enc Tryz.prog W b sp held m 3 [c0] = some y0 := h0; have q1 : DataW.trod enc Tryz.prog W b sp held m 3 [c1] = some y1 := h1; have q2 : DataW.trod enc Tryz.prog W b sp held m 3 [c2] = some y2 := h2; have q3 : DataW.trod enc Tryz.prog W b sp held m 3 [c3] = some y3 := h3; obtain ⟨n0, e0, rfl, w0⟩ := DataW.trod_int Tryz.underlying3 q0; obtain ⟨n1, e1, rfl, w1⟩ := DataW.trod_int Tryz.underlying3 q1; obtain ⟨n2, e2, rfl, w2⟩ := DataW.trod_int Tryz.underlying3 q2; obtain ⟨n3, e3, rfl, w3⟩ := DataW.trod_int Tryz.underlying3 q3
    simp at e0 e1 e2 e3
    subst e0 e1 e2 e3; exact ⟨⟨n0, n1, n2, n3⟩, rfl, wf_r64 w0, wf_r64 w1, wf_r64 w2, wf_r64 w3⟩
theorem open_ref (h : DataW.trod enc Tryz.prog W b sp held fuel 44 cs = some x) : ∃ c r : Int, cs = [.int .i64 c, .int .i64 r] ∧ i64 c ∧ i64 r := by
  obtain ⟨y0, y1, m, hx, hl, h0, h1⟩ := trod_struct2 Tryz.underlying44 h; rw [cells_of_ref] at hl
  match cs, hl with
  | [c0, c1], _ =>
    have q0 : DataW.trod enc Tryz.prog W b sp held m 3 [c0] = some y0 := h0; have q1 : DataW.trod enc Tryz.prog W b sp held m 3 [c1] = some y1 := h1; obtain ⟨n0, e0, rfl, w0⟩ := DataW.trod_int Tryz.underlying3 q0; obtain ⟨n1, e1, rfl, w1⟩ := DataW.trod_int Tryz.underlying3 q1
    simp at e0 e1
    subst e0 e1; exact ⟨n0, n1, rfl, wf_r64 w0, wf_r64 w1⟩
theorem open_cell16 (h : DataW.trod enc Tryz.prog W b sp held fuel 46 cs = some x) : ∃ c : Cl, cs = clV c ∧ WideC c := by
  obtain ⟨y0, y1, m, hx, hl, h0, h1⟩ := trod_struct2 Tryz.underlying46 h; rw [cells_of_cell] at hl
  match cs, hl with
  | [c0, c1, c2, c3, c4], _ =>
    have q0 : DataW.trod enc Tryz.prog W b sp held m 44 [c0, c1] = some y0 := h0; have q1 : DataW.trod enc Tryz.prog W b sp held m 25 [c2, c3, c4] = some y1 := h1; obtain ⟨c, r, e0, w0, w1⟩ := open_ref q0; obtain ⟨v, e1, wv, _⟩ := open_cells q1
    simp at e0 e1
    obtain ⟨rfl, rfl⟩ := e0; obtain ⟨rfl, rfl, rfl⟩ := e1; exact ⟨⟨c, r, v⟩, rfl, w0, w1, wv⟩
theorem open_cellrow (h : DataW.trod enc Tryz.prog W b sp held fuel 35 cs = some x) : ∃ s l, cs = [s] ∧ CellsIn W s l ∧ (∀ c ∈ l, WideC c) ∧ (Sized 35 x.1 → l.length ≤ 2932031007402) := by
  rcases open_slice Tryz.underlying35 h with ⟨hcs, _⟩ | ⟨a, len, cap, m, n, D, Pl, hcs, hb, hl, hm, hmm, hx, hi⟩
  · exact ⟨_, [], hcs, ⟨none, 0, rfl, RowK.nil, Nat.le_refl _, fun _ => rfl⟩, (fun c h => by cases h), fun _ => Nat.zero_le _⟩
  · have hle : len ≤ m := by rw [hmm]; split <;> omega
    obtain ⟨l, hlen, hp⟩ := pick (n := len) (p := fun i c => (∀ j v, (clV c)[j]? = some v → W.cell? (a.add (i * 5 + j)) = some v) ∧ WideC c) (fun i hi' => by
      obtain ⟨cs, h1, h2⟩ := hi i (by omega); rw [cells_of_cell] at h1; obtain ⟨_, hl5, hat⟩ := World.cells?_some h1; obtain ⟨c, rfl, hw⟩ := open_cell16 h2; refine ⟨c, fun j v hj => ?_, hw⟩; have hj5 : j < 5 := by have := (List.getElem?_eq_some_iff.1 hj).1; simpa [clV] using this
      have := hat j hj5; rw [add_add] at this; rw [this, hj])
    refine ⟨_, l, hcs, ⟨some a, cap, by rw [hlen], fun i c hc => ?_, by omega, fun h => by cases h⟩, fun c hc => ?_, fun hs => ?_⟩
    · have hi0 := (List.getElem?_eq_some_iff.1 hc).1
      have h0 := (hp 0 _ (List.getElem?_eq_getElem (Nat.lt_of_le_of_lt (Nat.zero_le _) hi0))).1 0 _ rfl; obtain ⟨b, off, spot⟩ := a
      have hspot : spot = none := by
        have := World.cell?_spot h0
        simpa [Addr.add] using this
      subst hspot; refine ⟨b, off, rfl, block_of_cell (by rw [add_plain] at h0; exact h0), fun j v hj => ?_⟩; have := (hp i c hc).1 j v hj; rw [add_plain] at this; rw [Nat.add_assoc]; exact this
    · obtain ⟨i, hi', e⟩ := List.getElem_of_mem hc
      exact (hp i c (by rw [List.getElem?_eq_getElem hi', e])).2
    · rw [hx] at hs
      unfold Sized at hs
      simp only [DataW.weights, Tryz.underlying35, List.all_cons, Bool.and_eq_true, decide_eq_true_eq, bytes_of_cell, List.length_map, List.length_range] at hs
      have h1 := hs.1; unfold reachBytes at h1
      omega
theorem open_area16 (h : DataW.trod enc Tryz.prog W b sp held fuel 37 cs = some x) : ∃ r s l, cs = rcV r ++ [s] ∧ WideR r ∧ CellsIn W s l ∧ (∀ c ∈ l, WideC c) ∧ (Sized 37 x.1 → l.length ≤ 2932031007402) := by
  obtain ⟨y0, y1, m, hx, hl, h0, h1⟩ := trod_struct2 Tryz.underlying37 h; rw [cells_of_area] at hl
  match cs, hl with
  | [c0, c1, c2, c3, c4], _ =>
    have q0 : DataW.trod enc Tryz.prog W b sp held m 34 [c0, c1, c2, c3] = some y0 := h0; have q1 : DataW.trod enc Tryz.prog W b sp held m 35 [c4] = some y1 := h1; obtain ⟨r, e0, w0⟩ := open_rc q0; obtain ⟨s, l, e1, hc, wl, hs⟩ := open_cellrow q1
    simp at e1
    subst e1; refine ⟨r, c4, l, by rw [← e0]; rfl, w0, hc, wl, fun hz => hs ?_⟩; rw [hx] at hz; unfold Sized at hz ⊢
    simp only [DataW.weights, Tryz.underlying37, List.map_cons, List.map_nil, DataW.weightsEach, List.all_append, Bool.and_eq_true] at hz
    exact hz.2.1
theorem open_arg16 (h : DataW.trod enc Tryz.prog W b sp held fuel 39 cs = some x) : ∃ a s, cs = arV a s ∧ CellsIn W s a.l ∧ WideA a ∧ (Sized 39 x.1 → a.l.length ≤ 2932031007402) := by
  obtain ⟨y0, y1, y2, m, hx, hl, h0, h1, h2⟩ := trod_struct3 Tryz.underlying39 h; rw [cells_of_arg] at hl
  match cs, hl with
  | [c0, c1, c2, c3, c4, c5, c6, c7, c8], _ =>
    have q0 : DataW.trod enc Tryz.prog W b sp held m 4 [c0] = some y0 := h0; have q1 : DataW.trod enc Tryz.prog W b sp held m 25 [c1, c2, c3] = some y1 := h1; have q2 : DataW.trod enc Tryz.prog W b sp held m 37 [c4, c5, c6, c7, c8] = some y2 := h2; obtain ⟨w, e0, _⟩ := DataW.trod_bool Tryz.underlying4 q0; obtain ⟨v, e1, wv, _⟩ := open_cells q1; obtain ⟨r, s, l, e2, wr, hc, wl, hs⟩ := open_area16 q2
    simp [rcV] at e0 e1 e2
    subst e0; obtain ⟨rfl, rfl, rfl⟩ := e1; obtain ⟨rfl, rfl, rfl, rfl, rfl⟩ := e2; refine ⟨⟨w, v, r, l⟩, c8, rfl, hc, ⟨wv, wr, wl⟩, fun hz => hs ?_⟩; rw [hx] at hz; unfold Sized at hz ⊢
    simp only [DataW.weights, Tryz.underlying39, List.map_cons, List.map_nil, DataW.weightsEach, List.all_append, Bool.and_eq_true] at hz
    exact hz.2.2.1
end
theorem weightsAll_mem {H : Type} {P : Program} {e : TypeId} : ∀ {l : List (DataW H)}, (DataW.weightsAll P e l).all (· ≤ reachBytes) = true → ∀ d ∈ l, (d.weights P e).all (· ≤ reachBytes) = true
  | d :: l, h, q, hq => by
    rw [DataW.weightsAll, List.all_append, Bool.and_eq_true] at h; rcases List.mem_cons.1 hq with rfl | hq
    · exact h.1
    · exact weightsAll_mem h.2 q hq
structure ArgsW (w : World) (A : Option Addr) (len cap : Nat) (l : List Ar) : Prop where
  row : ArgsIn w A l
  len_eq : l.length = len
  le : len ≤ cap
  max : cap ≤ maxLen
  wide : ∀ a ∈ l, WideA a
  small : ∀ a ∈ l, a.l.length ≤ 2932031007402
theorem open_args16 {H : Type} {enc : TypeId × Value → H} {W : World} {r : Reach} {b0 : Nat} {sp : Nat → Bool} {held : Bool} {v : Value} {d : DataW H} {p : List MemPlace}
    (hv : Value.okWide Tryz.prog W r b0 22 v) (h : DataW.Trod enc Tryz.prog W 0 sp held 22 v d p) (hz : Sized 22 d) :
    ∃ (A : Option Addr) (len cap : Nat) (l : List Ar), v = .slice A len cap ∧ ArgsW W A len cap l := by
  obtain ⟨A, len, cap, rfl⟩ := okWide_slice Tryz.underlying22 hv; obtain ⟨fuel, hf⟩ := h; rcases open_slice Tryz.underlying22 hf with ⟨hcs, _⟩ | ⟨a, len', cap', m, n, D, Pl, hcs, hb, hl, hm, hmm, hx, hi⟩
  · simp [Value.cells] at hcs
    obtain ⟨rfl, rfl, rfl⟩ := hcs; exact ⟨none, 0, 0, [], rfl, ⟨[], rfl, RowK.nil, fun p h => by cases h⟩, rfl, Nat.le_refl _, Nat.zero_le _, (fun v hv => by cases hv), (fun v hv => by cases hv)⟩
  · simp [Value.cells] at hcs
    obtain ⟨rfl, rfl, rfl⟩ := hcs; have hle : len ≤ m := by rw [hmm]; split <;> omega
    simp only [Prod.mk.injEq] at hx
    have hzs : ∀ i, i < len → Sized 39 (D i) := fun i hi' => by
      rw [hx.1] at hz; unfold Sized at hz
      simp only [DataW.weights, Tryz.underlying22, List.all_cons, List.all_append, Bool.and_eq_true] at hz
      exact weightsAll_mem hz.2.1 _ (List.mem_map.2 ⟨i, List.mem_range.2 hi', rfl⟩)
    obtain ⟨L, hlen, hp⟩ := pick (n := len) (p := fun i (q : Ar × Value) => (∀ j v, (arV q.1 q.2)[j]? = some v → W.cell? (a.add (i * 9 + j)) = some v) ∧ CellsIn W q.2 q.1.l ∧ WideA q.1 ∧ q.1.l.length ≤ 2932031007402) (fun i hi' => by
      obtain ⟨cs, h1, h2⟩ := hi i (by omega); rw [cells_of_arg] at h1; obtain ⟨_, hl9, hat⟩ := World.cells?_some h1; obtain ⟨c, s, rfl, hc, hw, hs⟩ := open_arg16 h2; refine ⟨(c, s), fun j v hj => ?_, hc, hw, hs (hzs i hi')⟩; have hj9 : j < 9 := by have := (List.getElem?_eq_some_iff.1 hj).1; simpa [arV] using this
      have := hat j hj9; rw [add_add] at this; rw [this, hj])
    have mem : ∀ q ∈ L, CellsIn W q.2 q.1.l ∧ WideA q.1 ∧ q.1.l.length ≤ 2932031007402 := fun q hq => by
      obtain ⟨i, hi', e⟩ := List.getElem_of_mem hq; exact (hp i q (by rw [List.getElem?_eq_getElem hi', e])).2
    refine ⟨some a, len, cap, L.map Prod.fst, rfl, ⟨L, rfl, fun i c hc => ?_, fun q hq => (mem q hq).1⟩, by rw [List.length_map, hlen], hl, hm, fun q hq => ?_, fun q hq => ?_⟩
    · have hi0 := (List.getElem?_eq_some_iff.1 hc).1
      have h0 := (hp 0 _ (List.getElem?_eq_getElem (Nat.lt_of_le_of_lt (Nat.zero_le _) hi0))).1 0 _ rfl; obtain ⟨b, off, spot⟩ := a
      have hspot : spot = none := by
        have := World.cell?_spot h0
        simpa [Addr.add] using this
      subst hspot; refine ⟨b, off, rfl, block_of_cell (by rw [add_plain] at h0; exact h0), fun j v hj => ?_⟩; have := (hp i c hc).1 j v hj; rw [add_plain] at this; rw [Nat.add_assoc]; exact this
    · obtain ⟨y, hy, rfl⟩ := List.mem_map.1 hq
      exact (mem y hy).2.1
    · obtain ⟨y, hy, rfl⟩ := List.mem_map.1 hq
      exact (mem y hy).2.2
theorem open_areaV {H : Type} {enc : TypeId × Value → H} {W : World} {r : Reach} {b0 : Nat} {sp : Nat → Bool} {held : Bool} {v : Value} {d : DataW H} {p : List MemPlace}
    (hv : Value.okWide Tryz.prog W r b0 37 v) (h : DataW.Trod enc Tryz.prog W 0 sp held 37 v d p) (hz : Sized 37 d) :
    ∃ (x : Rc) (A : Option Addr) (cap : Nat) (l : List Cl), v = .agg #[.int .i64 x.c1, .int .i64 x.r1, .int .i64 x.c2, .int .i64 x.r2, .slice A l.length cap] ∧ WideR x ∧ CellsIn W (.slice A l.length cap) l ∧ (∀ c ∈ l, WideC c) ∧ l.length ≤ 2932031007402 := by
  obtain ⟨cs, rfl, hsz⟩ : ∃ cs, v = .agg cs ∧ cs.size = Tryz.prog.cellsOf 37 := okWide_struct Tryz.underlying37 hv; obtain ⟨fuel, hf⟩ := h; obtain ⟨x, s, l, e, wr, hc, wl, hs⟩ := open_area16 hf; have hs := hs hz; have hc2 := hc; obtain ⟨A, cap, rfl, _⟩ := hc; obtain ⟨cs⟩ := cs
  simp only [Value.cells] at e
  refine ⟨x, A, cap, l, ?_, wr, hc2, wl, hs⟩; have e2 : cs = rcV x ++ [.slice A l.length cap] := e; rw [e2]
  rfl
theorem open_two {H : Type} {enc : TypeId × Value → H} {W : World} {r : Reach} {b0 b : Nat} {sp : Nat → Bool} {held : Bool} {v : Value} {d : DataW H} {p : List MemPlace} {t : TypeId} (ht : Tryz.prog.underlying t = some (.array 2 3)) (hc : Tryz.prog.cellsOf t = 2)
    (hv : Value.okWide Tryz.prog W r b0 t v) (h : DataW.Trod enc Tryz.prog W b sp held t v d p) :
    ∃ (x y : Int), v = .agg #[.int .i64 x, .int .i64 y] ∧ i64 x ∧ i64 y := by
  obtain ⟨cs, rfl, hsz⟩ : ∃ cs, v = .agg cs ∧ cs.size = Tryz.prog.cellsOf t := by
    simp only [Value.okWide, ht] at hv
    obtain ⟨cs, h1, h2, _⟩ := hv; exact ⟨cs, h1, h2⟩
  rw [hc] at hsz; obtain ⟨l⟩ := cs; obtain ⟨fuel, hf⟩ := h; obtain ⟨xs, m, _, hx, _, hl, hg⟩ := DataW.trod_array ht hf; rw [show Tryz.prog.cellsOf 3 = 1 by kernel_rfl] at hg
  match xs, hl with
  | [x0, x1], _ =>
    match l, hsz with
    | [c0, c1], _ =>
      have q0 : DataW.trod enc Tryz.prog W b sp held m 3 [c0] = some x0 := hg 0 (by omega); have q1 : DataW.trod enc Tryz.prog W b sp held m 3 [c1] = some x1 := hg 1 (by omega); obtain ⟨n0, e0, rfl, w0⟩ := DataW.trod_int Tryz.underlying3 q0; obtain ⟨n1, e1, rfl, w1⟩ := DataW.trod_int Tryz.underlying3 q1
      simp at e0 e1
      subst e0 e1; exact ⟨n0, n1, rfl, wf_r64 w0, wf_r64 w1⟩
end Go.Proofs.YtbkjdcpfkepheaaGreatDoor

namespace Go.Proofs.YtbkjdcpfkepheaaGreatDoor.Lv
open Go
abbrev wv (v : Vl) : Ar := ⟨false, v, ⟨0, 0, 0, 0⟩, []⟩
theorem okwv {v : Vl} (h : vOk v = true) : okArg (wv v) = true := by simp [okArg, wv, noRc, h]
theorem wide_eq {y : Ar} (h : okArg y = true) (hw : y.w = true) : y = ⟨true, blankV, y.x, y.l⟩ := by
  obtain ⟨w, v, x, l⟩ := y
  simp only at hw
  subst hw; unfold okArg at h
  simp only [if_true, Bool.and_eq_true, decide_eq_true_eq] at h
  obtain ⟨⟨⟨h1, h2, h3⟩, _⟩, _⟩ := h; obtain ⟨k, n, t⟩ := v
  simp only at h1 h2 h3
  subst h1 h2 h3
  rfl
theorem call44 {v : Vl} {y : Ar} (hv : vOk v = true) (hy : okArg y = true) : vCall16 44 [wv v, y] = (vMatch16 v y, 0) := by
  have h := okwv hv
  simp [vCall16, own16, lo16, hi16, fits16All, fits16, area16At, h, hy, val16, isFold16]
theorem call45 {v : Vl} {y : Ar} (hv : vOk v = true) (hy : okArg y = true) : vCall16 45 [y, wv v] = (countIf16 y v, 0) := by
  have h := okwv hv
  simp [vCall16, own16, lo16, hi16, fits16All, fits16, area16At, h, hy, val16, isFold16]
theorem call43 {v : Vl} {y : Ar} (hv : vOk v = true) (hy : okArg y = true) : vCall16 43 [y, wv v] = (vIndex16 y [v], 0) := by
  have h := okwv hv
  simp [vCall16, own16, lo16, hi16, fits16All, fits16, area16At, h, hy, val16, isFold16]
theorem call43b {v u : Vl} {y : Ar} (hv : vOk v = true) (hu : vOk u = true) (hy : okArg y = true) : vCall16 43 [y, wv v, wv u] = (vIndex16 y [v, u], 0) := by
  have h := okwv hv; have g := okwv hu
  simp [vCall16, own16, lo16, hi16, fits16All, fits16, area16At, h, g, hy, val16, isFold16]
theorem finds_err {v : Vl} {y : Ar} (hv : vOk v = true) (hy : okArg y = true) (hk : (v.k : Int) = 4) : (vCall16 44 [wv v, y]).1 = v ∧ (vCall16 45 [y, wv v]).1 = v := by
  have h : v.k = 4 := by omega
  rw [call44 hv hy, call45 hv hy]; unfold vMatch16 countIf16; rw [if_pos h, if_pos h]; exact ⟨rfl, rfl⟩
theorem okNm {i : Int} (h : -900000000000000 ≤ i ∧ i ≤ 900000000000000) : vOk ⟨1, i * 10000, []⟩ = true := by
  rw [← make_num (n := i * 10000) ⟨by omega, by omega⟩]; exact make_fine _
theorem idx1 {y : Ar} {i : Int} (hi : -900000000000000 ≤ i ∧ i ≤ 900000000000000) : vIndex16 y [⟨1, i * 10000, []⟩] = index1 y i := by
  obtain ⟨p, q⟩ := pos_num hi; unfold vIndex16
  simp only [List.map_cons, List.map_nil, p, q]
  rfl
theorem idx2 {y : Ar} {i j : Int} (hi : -900000000000000 ≤ i ∧ i ≤ 900000000000000) (hj : -900000000000000 ≤ j ∧ j ≤ 900000000000000) : vIndex16 y [⟨1, i * 10000, []⟩, ⟨1, j * 10000, []⟩] = index2 y i j := by
  obtain ⟨p, q⟩ := pos_num hi; obtain ⟨r, s⟩ := pos_num hj; unfold vIndex16
  simp only [List.map_cons, List.map_nil, p, q, r, s]
  rfl
theorem finds_main {v : Vl} {y : Ar} (hv : vOk v = true) (hy : okArg y = true) (hw : y.w = true) (hk : ¬ (v.k : Int) = 4) :
    ∃ m n : Int, (vCall16 45 [y, wv v]).1 = ⟨1, n, []⟩ ∧ 0 ≤ n ∧ (((vCall16 44 [wv v, y]).1 = ⟨4, 4, []⟩ ∧ n = 0) ∨ ((vCall16 44 [wv v, y]).1 = ⟨1, m, []⟩ ∧ 0 < n ∧ vOk ⟨1, m, []⟩ = true ∧ 0 ≤ m ∧ m ≤ 90000000000 ∧ vCmp (vCall16 43 [y, wv ⟨1, m, []⟩]).1 v = (0, 0))) := by
  have e := wide_eq hy hw; generalize y.x = x at e; generalize y.l = l at e; subst e; have h : v.k ≠ 4 := by omega
  rw [call44 hv hy, call45 hv hy]; obtain ⟨n0, n1, hh⟩ := find16 (v := v) hy; obtain ⟨okx, _⟩ := okWide_iff.1 hy; obtain ⟨s1, s2, s3⟩ := size_big okx; have hs : size16 x = wide16 x * high16 x := by unfold size16; rw [if_pos okx]
  refine ⟨match16 x v (same16 blankV v) 0 l * 10000, ((if same16 blankV v then size16 x - l.length else 0) + (hits16 v l : Int)) * 10000, ?_, by omega, ?_⟩
  · unfold countIf16
    rw [if_neg h]; show vMake (((if same16 blankV v = true then size16 x - (l.length : Int) else 0) + (hits16 v l : Int)) * 10000) = _; exact make_num ⟨by omega, by omega⟩
  · unfold vMatch16
    rw [if_neg h]; rcases hh with ⟨m0, c0⟩ | ⟨m1, m2, c1, sm⟩
    · left
      refine ⟨?_, by omega⟩; show (if match16 x v (same16 blankV v) 0 l = 0 then vFail 4 else _) = _; rw [if_pos m0]
      rfl
    · right
      have hm : -900000000000000 ≤ match16 x v (same16 blankV v) 0 l ∧ match16 x v (same16 blankV v) 0 l ≤ 900000000000000 := by omega
      refine ⟨?_, by omega, okNm hm, by omega, by omega, ?_⟩
      · show (if match16 x v (same16 blankV v) 0 l = 0 then vFail 4 else vMake (match16 x v (same16 blankV v) 0 l * 10000)) = _
        rw [if_neg (by omega)]; exact make_num ⟨by omega, by omega⟩
      · rw [call43 (okNm hm) hy, idx1 hm]
        have ei : index1 ⟨true, blankV, x, l⟩ (match16 x v (same16 blankV v) 0 l) = valAt x l (match16 x v (same16 blankV v) 0 l - 1) := by
          unfold index1; refine (if_neg ?_).trans rfl; show ¬ (match16 x v (same16 blankV v) 0 l < 1 ∨ wide16 x * high16 x < match16 x v (same16 blankV v) 0 l)
          omega
        show vCmp (index1 ⟨true, blankV, x, l⟩ (match16 x v (same16 blankV v) 0 l)) v = (0, 0); rw [ei]; unfold same16 at sm; rw [Bool.and_eq_true, decide_eq_true_eq, decide_eq_true_eq] at sm; exact Prod.ext sm.2 sm.1
theorem index_low {y : Ar} {i j : Int} (hy : okArg y = true) (hw : y.w = true) (hi : 0 ≤ i ∧ i < 40) (hj : 0 ≤ j ∧ j < 40) (h : (i < 1 ∨ j < 1) ∨ y.x.c2 - y.x.c1 + 1 < j) : (vCall16 43 [y, wv ⟨1, i * 10000, []⟩, wv ⟨1, j * 10000, []⟩]).1 = ⟨4, 5, []⟩ := by
  rw [call43b (okNm (by omega)) (okNm (by omega)) hy, idx2 (by omega) (by omega)]; have e := wide_eq hy hw; generalize y.x = x at e h; generalize y.l = l at e; subst e; show index2 ⟨true, blankV, x, l⟩ i j = _; unfold index2; refine (if_pos ?_).trans rfl; show i < 1 ∨ high16 x < i ∨ j < 1 ∨ wide16 x < j; unfold wide16
  omega
theorem index_same {y : Ar} {i j k : Int} (hy : okArg y = true) (hw : y.w = true) (hi : 0 ≤ i ∧ i < 40) (hj : 0 ≤ j ∧ j < 40) (h : ¬ ((i < 1 ∨ j < 1) ∨ y.x.c2 - y.x.c1 + 1 < j)) (hk : k = ((i - 1) * (y.x.c2 - y.x.c1 + 1) + j) * 10000) (hW : y.x.c2 - y.x.c1 + 1 ≤ 1024) : (vCall16 43 [y, wv ⟨1, i * 10000, []⟩, wv ⟨1, j * 10000, []⟩]).1 = (vCall16 43 [y, wv ⟨1, k, []⟩]).1 := by
  subst hk; have p0 : 0 ≤ (i - 1) * (y.x.c2 - y.x.c1 + 1) := Int.mul_nonneg (by omega) (by omega); have p1 : (i - 1) * (y.x.c2 - y.x.c1 + 1) ≤ 40 * 1024 := Int.mul_le_mul (by omega) hW (by omega) (by omega); have hb : -900000000000000 ≤ (i - 1) * (y.x.c2 - y.x.c1 + 1) + j ∧ (i - 1) * (y.x.c2 - y.x.c1 + 1) + j ≤ 900000000000000 := by omega
  rw [call43b (okNm (by omega)) (okNm (by omega)) hy, idx2 (by omega) (by omega), call43 (okNm hb) hy, idx1 hb]; have e := wide_eq hy hw; generalize y.x = x at e h; generalize y.l = l at e; subst e; exact index_both hy (by omega) (by omega) (by unfold wide16; omega)
theorem wide_1024 {y : Ar} (hy : okArg y = true) (hw : y.w = true) : (1 ≤ y.x.c1 ∧ y.x.c1 ≤ y.x.c2 ∧ y.x.c2 ≤ 1024) ∧ (1 ≤ y.x.r1 ∧ y.x.r1 ≤ y.x.r2 ∧ y.x.r2 ≤ 1024) := by
  have e := wide_eq hy hw; rw [e] at hy; exact okR_iff.1 (okWide_iff.1 hy).1
theorem at_small {l : List Cl} (h : ∀ c ∈ l, Small c.v) (c r : Int) : Small (at16 l c r) := by
  unfold at16
  split
  · rename_i p hp
    exact h p (List.mem_of_find?_eq_some hp)
  · exact ⟨⟨by decide, by decide⟩, by decide⟩
theorem find_small {y : Ar} {m : Int} {u : Vl} (hu : u = ⟨1, m, []⟩) (hy : okArg y = true) (hw : y.w = true) (hs : ∀ c ∈ y.l, Small c.v) (hm : vOk ⟨1, m, []⟩ = true) : Small (vCall16 43 [y, wv u]).1 := by
  subst hu; rw [call43 hm hy]; have e := wide_eq hy hw; generalize y.x = x at e; generalize y.l = l at e hs; subst e; have hf : Small (vFail 5) := ⟨⟨by decide, by decide⟩, by decide⟩; unfold vIndex16
  split
  · rename_i e he
    have := (first_mem he).1; have h1 : e = vNum ⟨1, m, []⟩ := by simpa using this
    have h2 : vNum ⟨1, m, []⟩ = ⟨1, m, []⟩ := num_stay hm (Or.inl rfl); have h3 := (first_mem he).2; rw [h1, h2] at h3; exact absurd h3 (by simp [isE])
  · simp only [List.map_cons, List.map_nil]
    unfold index1
    by_cases c : pos16 ⟨1, m, []⟩ < 1 ∨ wide16 (area16 ⟨true, blankV, x, l⟩).1 * high16 (area16 ⟨true, blankV, x, l⟩).1 < pos16 ⟨1, m, []⟩
    · rw [if_pos c]; exact hf
    · rw [if_neg c]; exact at_small hs _ _
theorem finds_yes {u : Vl} {P Q : Prop} (h : (u = ⟨4, 4, []⟩ ∧ P) ∨ Q) (hk : (u.k : Int) = (1 : Int)) : Q := by
  rcases h with ⟨e, _⟩ | h
  · rw [e] at hk
    exact absurd hk (by decide)
  · exact h
theorem finds_no2 {a b : Vl} (h : vCmp a b = (0, 0)) : ¬ ((((vCmp a b).2 : Int) ≠ (0 : Int)) ∨ (((vCmp a b).1 : Int) ≠ (0 : Int))) := by
  rw [h]; rintro (c | c) <;> exact c rfl
end Go.Proofs.YtbkjdcpfkepheaaGreatDoor.Lv

namespace Go.Proofs.YtbkjdcpfkepheaaGreatDoor.Lv
open Go
def nth16 (L : List Int) (k : Nat) : Int := (sort16 L).getD k 0
theorem vnums_one {y : Ar} (hy : okArg y = true) : vNums16 [y] = nums16 [y] := by
  unfold vNums16
  simp [hy]
theorem nums_len {y : Ar} (h : y.l.length ≤ 60) : (nums16 [y]).1.length ≤ 100 := by
  have h1 := seq16_len (l := [y]) (n := 60) (fun a ha => by rw [List.mem_singleton] at ha; subst ha; exact h)
  simp only [List.length_singleton, Nat.one_mul] at h1
  unfold nums16
  split
  · simp
  · simp only [List.length_map]
    omega
theorem ranks_pairs {y : Ar} (hy : okArg y = true) (hw : y.w = true) : vCall16 9 [y] = vCall16 46 [y] ∧ vCall16 11 [y] = vCall16 47 [y] ∧ vCall16 14 [y] = vCall16 48 [y] ∧ vCall16 15 [y] = vCall16 49 [y] ∧ vCall16 16 [y] = vCall16 50 [y] := by
  have e := wide_eq hy hw; generalize y.x = x at e; generalize y.l = l at e; subst e; exact ⟨same_area (by simp) hy, same_area (by simp) hy, same_area (by simp) hy, same_area (by simp) hy, same_area (by simp) hy⟩
theorem call_rankY {fn : Nat} (hf : fn = 18 ∨ fn = 19) {y : Ar} (hy : okArg y = true) (hw : y.w = true) {i : Int} (hi : -900000000000000 ≤ i ∧ i ≤ 900000000000000) : (vCall16 fn [y, wv ⟨1, i * 10000, []⟩]).1 = rank16 y ⟨1, i * 10000, []⟩ (decide (fn = 18)) := by
  have e := wide_eq hy hw; generalize y.x = x at e; generalize y.l = l at e; subst e; exact congrArg Prod.fst (call_rank hf hi hy)
theorem ranks_fault {y : Ar} {x : Vl} (hy : okArg y = true) (hw : y.w = true) (hn : vNums16 [y] = ([], x, false)) : (vCall16 19 [y, wv ⟨1, 1 * 10000, []⟩]).1 = x ∧ (vCall16 9 [y]).1 = x := by
  rw [vnums_one hy] at hn; have h1 : (nums16 [y]).2.2 = false := by rw [hn]
  rw [call_rankY (Or.inr rfl) hy hw (by omega), rank_fault h1, hn]; refine ⟨rfl, ?_⟩; have e := wide_eq hy hw; generalize y.x = x' at e; generalize y.l = l at e; subst e; rw [call_area (by simp) hy]
  simp [val16, isFold16, hn]
theorem ranks_at {y : Ar} {x : Vl} {L : List Int} (hy : okArg y = true) (hw : y.w = true) (hi : In16 y) (hl : y.l.length ≤ 60) (hn : vNums16 [y] = (L, x, true)) {i : Nat} (h1 : 1 ≤ i) (h2 : i ≤ L.length) :
    (vCall16 19 [y, wv ⟨1, (i : Int) * 10000, []⟩]).1 = ⟨1, nth16 L (i - 1), []⟩ ∧ (vCall16 18 [y, wv ⟨1, ((L.length : Int) + 1 - (i : Int)) * 10000, []⟩]).1 = ⟨1, nth16 L (i - 1), []⟩ := by
  rw [vnums_one hy] at hn; have hb := nums_len hl; have ht : (nums16 [y]).2.2 = true := by rw [hn]
  have h64 : ∀ n ∈ (nums16 [y]).1, num64 n := by
    rcases nums_ok (l := [y]) (fun a ha => by rw [List.mem_singleton] at ha; subst ha; exact hy) (fun a ha => by rw [List.mem_singleton] at ha; subst ha; exact hi) with ⟨_, _, g⟩ | ⟨g, _⟩
    · exact g
    · rw [ht] at g; cases g
  have e1 : (nums16 [y]).1 = L := by rw [hn]
  rw [e1] at h64 hb; refine ⟨?_, ?_⟩
  · rw [call_rankY (Or.inr rfl) hy hw (by omega), rank_at ht (by rw [e1]; exact h64) h1 (by rw [e1]; exact h2) (by rw [e1]; omega), e1]
    rfl
  · have e2 : (L.length : Int) + 1 - (i : Int) = ((L.length + 1 - i : Nat) : Int) := by omega
    rw [e2, call_rankY (Or.inl rfl) hy hw (by omega), rank_at ht (by rw [e1]; exact h64) (by omega) (by rw [e1]; omega) (by rw [e1]; omega), e1]
    simp only [decide_true, if_true]
    rw [show L.length - (L.length + 1 - i) = i - 1 by omega]
    rfl
theorem ranks_out {y : Ar} {x : Vl} {L : List Int} (hy : okArg y = true) (hw : y.w = true) (hl : y.l.length ≤ 60) (hn : vNums16 [y] = (L, x, true)) : (vCall16 19 [y, wv ⟨1, ((L.length : Int) + 1) * 10000, []⟩]).1 = ⟨4, 3, []⟩ := by
  rw [vnums_one hy] at hn; have hb := nums_len hl; have ht : (nums16 [y]).2.2 = true := by rw [hn]
  have e1 : (nums16 [y]).1 = L := by rw [hn]
  rw [e1] at hb; rw [call_rankY (Or.inr rfl) hy hw (by omega), rank_out ht (by omega) (by rw [e1]; omega)]
  rfl
theorem ranks_ends {y : Ar} {x : Vl} {L : List Int} (hy : okArg y = true) (hw : y.w = true) (hi : In16 y) (hn : vNums16 [y] = (L, x, true)) (h0 : ¬ ((L.length : Nat) : Int) = 0) : (vCall16 15 [y]).1 = ⟨1, nth16 L 0, []⟩ ∧ (vCall16 16 [y]).1 = ⟨1, nth16 L (L.length - 1), []⟩ := by
  rw [vnums_one hy] at hn; have ht : (nums16 [y]).2.2 = true := by rw [hn]
  have h64 : ∀ n ∈ (nums16 [y]).1, num64 n := by
    rcases nums_ok (l := [y]) (fun a ha => by rw [List.mem_singleton] at ha; subst ha; exact hy) (fun a ha => by rw [List.mem_singleton] at ha; subst ha; exact hi) with ⟨_, _, g⟩ | ⟨g, _⟩
    · exact g
    · rw [ht] at g; cases g
  have e1 : (nums16 [y]).1 = L := by rw [hn]
  have e := wide_eq hy hw; generalize y.x = x' at e; generalize y.l = l at e; subst e; have hne : (nums16 [⟨true, blankV, x', l⟩]).1 ≠ [] := by rw [e1]; intro c; rw [c] at h0; exact h0 rfl
  obtain ⟨m1, m2⟩ := min_rank ht h64 hne; rw [call_area (by simp) hy, call_area (by simp) hy, m1, m2, e1]; exact ⟨rfl, rfl⟩
theorem nth_up {L : List Int} {k : Nat} (h : k + 1 < L.length) : nth16 L k ≤ nth16 L (k + 1) := sort_step (by first | exact h | (rw [sort_length]; exact h))
theorem vnums_len {y : Ar} {x : Vl} {L : List Int} {b : Bool} (hy : okArg y = true) (hl : y.l.length ≤ 60) (hn : vNums16 [y] = (L, x, b)) : L.length ≤ 100 := by
  rw [vnums_one hy] at hn; have := nums_len hl; rw [hn] at this; exact this
theorem ranks_no {L : List Int} {k : Nat} {lv : Vl} (hlv : 1 < k → lv = ⟨1, nth16 L (k - 2), []⟩) (hk : k ≤ L.length) : ¬ (((1 : Int) < (k : Int)) ∧ ((nth16 L (k - 1) : Int) < (lv.n : Int))) := by
  rintro ⟨h1, h2⟩; have h3 := nth_up (L := L) (k := k - 2) (by omega); rw [hlv (by omega)] at h2; rw [show k - 2 + 1 = k - 1 by omega] at h3
  simp only at h2
  omega
end Go.Proofs.YtbkjdcpfkepheaaGreatDoor.Lv

namespace Go.Proofs.YtbkjdcpfkepheaaGreatDoor
open Go.RowKit Lv
set_option maxRecDepth 100000
theorem argsObj_in {w : World} {g : Nat} {L : List (Ar × Value)} (h : w.heap[g]? = some (argsObj L)) (hc : ∀ p ∈ L, CellsIn w p.2 p.1.l) : ArgsIn w (some ⟨g, 0, none⟩) (L.map Prod.fst) :=
  ⟨L, rfl, RowK.box (t := 39) (cs := (L.map argE).flatten.toArray) h argE_len (List.take_of_length_le (Nat.le_of_eq (flat_len argE_len L))), hc⟩
theorem OwnArgs.one {w w' : World} {y : Ar} {e : Ending} (h : OwnArgs w [y] e w') : ∃ (gy cy : Nat) (Ay : Option Addr) (cl : Nat), e = .returned (.slice (some ⟨gy, 0, none⟩) 1 cy) ∧ Own w [argTh (.slice (some ⟨gy, 0, none⟩) 1 cy) [(y, .slice Ay y.l.length cl)], cellTh (y, .slice Ay y.l.length cl)] w' := by
  obtain ⟨v, L, rfl, hL, o⟩ := h
  obtain ⟨s, rfl⟩ : ∃ s, L = [(y, s)] := by
    match L, hL with
    | [(a, s)], hL => simp at hL; subst hL; exact ⟨s, rfl⟩
  obtain ⟨A, c, rfl⟩ := row_slice (o.row 0 rfl); obtain ⟨Ay, cl, e2⟩ := row_slice (o.row 1 rfl); obtain ⟨g, rfl, _⟩ := own_at (o.row 0 rfl) (by simp)
  simp only at e2
  subst e2; exact ⟨g, c, Ay, cl, rfl, o⟩
theorem area_facts {x : Rc} {l : List Cl} {y : Ar} (hy : y = goodAr (cutAr ⟨true, blankV, x, l⟩)) (hw : ∀ c ∈ l, WideC c) : okArg y = true ∧ y.l.length ≤ 60 ∧ SmallAr y ∧ In16 y := by
  have h1 := goodAr_ok (cutAr ⟨true, blankV, x, l⟩)
  have hi : In16 (cutAr ⟨true, blankV, x, l⟩) := by
    refine ⟨show i64 (0 : Int) from ⟨by decide, by decide⟩, fun c hc => ?_⟩; obtain ⟨d, hd, rfl⟩ := List.mem_map.1 hc; exact (hw d (List.mem_of_mem_take hd)).2.2.2.1
  have h2 := goodAr_in hi; rw [← hy] at h1 h2; refine ⟨h1.1, Nat.le_trans h1.2 ?_, ok_in16 h1.1 h2, h2⟩; show ((l.take 60).map cutCl).length ≤ 60; rw [List.length_map, List.length_take]
  omega
theorem good_area {x : Rc} {l : List Cl} {y : Ar} (hy : y = goodAr (cutAr ⟨true, blankV, x, l⟩)) {g : Nat} {s : Value} {w : World} (h : w.heap[g]? = some (argsObj [(⟨true, blankV, x, l⟩, s)])) (hc : CellsIn w s l) (hw : ∀ c ∈ l, WideC c) (hl : l.length ≤ 2932031007402) :
    Calls Tryz.prog 13 #[.slice (some ⟨g, 0, none⟩) 1 1] w fun e w' => ∃ (gy cy : Nat) (Ay : Option Addr) (cl : Nat), e = .returned (.slice (some ⟨gy, 0, none⟩) 1 cy) ∧ Own w [argTh (.slice (some ⟨gy, 0, none⟩) 1 cy) [(y, .slice Ay y.l.length cl)], cellTh (y, .slice Ay y.l.length cl)] w' := by
  subst hy
  exact (good16_own (some ⟨g, 0, none⟩) 1 [⟨true, blankV, x, l⟩] w (argsObj_in h (fun p hp => by rw [List.mem_singleton] at hp; subst hp; exact hc)) (Nat.le_refl _) (fun a ha => by rw [List.mem_singleton] at ha; subst ha; exact hl)
    (fun a ha => by rw [List.mem_singleton] at ha; subst ha; exact ⟨show Wide blankV from ⟨by decide, ⟨by decide, by decide⟩, by decide⟩, fun c hc => (hw c hc).2.2⟩)).mono fun _ _ h => OwnArgs.one h
theorem finds_no {u v : Vl} {m n : Int} {P Q R S : Prop} (hv : v = ⟨1, n, []⟩) (h0 : 0 ≤ n) (h : (u = ⟨4, 4, []⟩ ∧ n = 0) ∨ (u = ⟨1, m, []⟩ ∧ 0 < n ∧ P ∧ Q ∧ R ∧ S)) : ¬ ((((v.k : Int) ≠ (1 : Int)) ∨ (((decide ((u.k : Int) = (1 : Int))) != (decide ((0 : Int) < (v.n : Int)))) = true)) ∨ (((u.k : Int) ≠ (1 : Int)) ∧ (¬ ((sameV u (⟨4, 4, []⟩ : Vl)) = true)))) := by
  subst hv; rcases h with ⟨rfl, rfl⟩ | ⟨rfl, h1, _⟩
  · rintro ((c | c) | ⟨_, c⟩)
    · exact c rfl
    · exact absurd c (by decide)
    · exact c (by decide)
  · rintro ((c | c) | ⟨c, _⟩)
    · exact c rfl
    · simp [h1] at c
    · exact c rfl
theorem fit_nil : Fit16 [] := ⟨by simp, fun a h => by cases h⟩
theorem small_wv {v : Vl} (h : Small v) : SmallAr (wv v) ∧ (wv v).l.length ≤ 900 := ⟨⟨h, fun c hc => by cases hc⟩, by simp⟩
theorem nm_small16 {n : Int} (h1 : -9223372036854775808 ≤ n) (h2 : n ≤ 9223372036854775807) : Small (⟨1, n, []⟩ : Vl) := ⟨⟨h1, h2⟩, by show ([] : List UInt8).length ≤ 2000; decide⟩
theorem of16_eq (x : Vl) (fn : Nat) (A : Option Addr) (cap : Nat) (l : List Ar) (w : World) (mx : Int) (HM : Mx w mx) (hr : ArgsAt w A l) (hf : Fit16 l) (hc : l.length ≤ cap) (hx : (vCall16 fn l).1 = x) :
    Calls Tryz.prog 17 #[.int .u8 fn, .slice A l.length cap] w fun e w' => e = .returned (aggV x) ∧ Kept w w' := by
  have h := of16_any fn A cap l w mx HM hr hf hc; rw [hx] at h; exact h
end Go.Proofs.YtbkjdcpfkepheaaGreatDoor

namespace Go.Proofs.YtbkjdcpfkepheaaGreatDoor.Lv
open Go
abbrev Ord16 (fn : Nat) : Prop := fn = 9 ∨ fn = 11 ∨ fn = 12 ∨ fn = 15 ∨ fn = 16 ∨ fn = 17 ∨ fn = 14
theorem i64_of {n : Int} (h : num64 n) : i64 n := ⟨by have := h.1; omega, h.2⟩
theorem fail_i64 {c : Int} (h : c = 1 ∨ c = 3) : i64 (vFail c).n := by
  rcases h with rfl | rfl <;> exact ⟨by decide, by decide⟩
theorem make_i64 {n : Int} (h : num64 n) : i64 (vMake n).n := by
  rw [make_num h]; exact i64_of h
theorem fitr_i64 (n : Int) : i64 (vRes (fit n)).n := by
  unfold fit vRes
  by_cases c : -9223372036854775807 ≤ n ∧ n ≤ 9223372036854775807
  · rw [if_pos c]
    exact make_i64 c
  · rw [if_neg c]
    exact fail_i64 (Or.inr rfl)
theorem mean_i64 (l : List Int) : i64 (vRes (dMean l)).n := by
  unfold dMean
  split
  · exact fail_i64 (Or.inr rfl)
  · exact fitr_i64 _
theorem getD_num {l : List Int} (h : ∀ n ∈ l, num64 n) (k : Nat) : num64 (l.getD k 0) := by
  unfold List.getD
  cases e : l[k]? with
  | none => exact ⟨by decide, by decide⟩
  | some x => exact h x (List.mem_of_getElem? e)
theorem fold_i64 {fn : Nat} (hf : fn = 9 ∨ fn = 15 ∨ fn = 16 ∨ fn = 17 ∨ fn = 14) {l : List Int} (h : ∀ n ∈ l, num64 n) : i64 (fold16 fn l).n := by
  have hs : ∀ k, num64 ((sort16 l).getD k 0) := getD_num (fun n hn => h n ((sort_perm l).mem_iff.1 hn)); have h0 : num64 0 := ⟨by decide, by decide⟩; unfold fold16
  split
  · exact fitr_i64 _
  · split
    · split
      · exact fail_i64 (Or.inl rfl)
      · exact mean_i64 _
    · split
      · split
        · exact fail_i64 (Or.inr rfl)
        · split
          · exact make_i64 (hs _)
          · exact mean_i64 _
      · split
        · exact make_i64 h0
        · rename_i hl
          split
          · exact make_i64 (h _ (least_spec hl).1)
          · split
            · exact make_i64 (h _ (great_spec hl).1)
            · exfalso
              omega
theorem err_i64 {v : Vl} (h : vOk v = true) (hk : v.k = 4) : i64 v.n := by
  rcases ok_cases h with rfl | ⟨n, hn, rfl⟩ | rfl | rfl | ⟨t, ht, rfl⟩ | ⟨c, h1, h2, rfl⟩
  · simp [vTruth, blankV] at hk
  · simp [vTruth, blankV] at hk
  · simp [vTruth, blankV] at hk
  · simp [vTruth, blankV] at hk
  · simp [vTruth, blankV] at hk
  · unfold i64; simp only; omega
theorem count_le {fn : Nat} (hf : fn ≠ 13) {n : Nat} : ∀ {l : List Ar}, (∀ a ∈ l, a.l.length ≤ n) → 0 ≤ count16 fn l ∧ count16 fn l ≤ ((l.length * (n + 1) : Nat) : Int)
  | [], _ => by simp [count16]
  | a :: l, h => by
    obtain ⟨h1, h2⟩ := count_le hf (l := l) (fun b hb => h b (List.mem_cons_of_mem _ hb)); have h3 := h a List.mem_cons_self
    have e : count16 fn (a :: l) = (((area16 a).2.filter fun c => decide (fn = 12 ∨ c.v.k = 1)).length : Nat) + count16 fn l := by
      unfold count16; rw [List.map_cons, List.sum_cons, if_neg hf]
    have h4 : ((area16 a).2.filter fun c => decide (fn = 12 ∨ c.v.k = 1)).length ≤ n + 1 := by
      refine Nat.le_trans (List.length_filter_le _ _) ?_; unfold area16
      split
      · exact Nat.le_succ_of_le h3
      · split <;> simp
    rw [e, List.length_cons, Nat.succ_mul]
    omega
theorem val_i64 {fn : Nat} (hf : Ord16 fn) {l : List Ar} (h : ∀ a ∈ l, okArg a = true) (hi : ∀ a ∈ l, In16 a) (hn : l.length ≤ 20) (hl : ∀ a ∈ l, a.l.length ≤ 60) : i64 (val16 fn l).n := by
  unfold val16
  split
  · rename_i hF
    have hff : fn = 9 ∨ fn = 15 ∨ fn = 16 ∨ fn = 17 ∨ fn = 14 := by
      unfold isFold16 at hF
      simp only [decide_eq_true_eq] at hF
      unfold Ord16 at hf
      omega
    rcases nums_ok h hi with ⟨a, b, c⟩ | ⟨a, b, c, d⟩
    · have e : nums16 l = ((nums16 l).1, (nums16 l).2.1, true) := Prod.ext rfl (Prod.ext rfl a)
      rw [e]; exact fold_i64 hff c
    · have e : nums16 l = ((nums16 l).1, (nums16 l).2.1, false) := Prod.ext rfl (Prod.ext rfl a)
      rw [e]; exact err_i64 c d
  · rename_i hF
    have hff : fn = 11 ∨ fn = 12 := by
      unfold isFold16 at hF
      simp only [decide_eq_true_eq] at hF
      unfold Ord16 at hf
      omega
    rw [if_neg (by omega), if_neg (by omega), if_neg (by omega), if_neg (by omega)]; obtain ⟨c1, c2⟩ := count_le (fn := fn) (by omega) hl; have c3 : l.length * (60 + 1) ≤ 20 * 61 := Nat.mul_le_mul_right _ hn; exact make_i64 ⟨by omega, by omega⟩
theorem val_small {fn : Nat} (hf : Ord16 fn) {l : List Ar} (h : ∀ a ∈ l, okArg a = true) (hi : ∀ a ∈ l, In16 a) (hn : l.length ≤ 20) (hl : ∀ a ∈ l, a.l.length ≤ 60) : Small (val16 fn l) ∧ vOk (val16 fn l) = true := ⟨ok_small (val_fine hf h hi) (val_i64 hf h hi hn hl), val_fine hf h hi⟩
end Go.Proofs.YtbkjdcpfkepheaaGreatDoor.Lv
