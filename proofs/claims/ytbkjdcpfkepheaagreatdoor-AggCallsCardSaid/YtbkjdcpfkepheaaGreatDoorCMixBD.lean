/- Small texts together: GArgs16, MAgg10, MAgg11, GLaw16. -/
import Derived.Test.YtbkjdcpfkepheaaGreatDoorCMixAM
import Derived.Test.YtbkjdcpfkepheaaGreatDoorCGRow16
import Derived.Test.YtbkjdcpfkepheaaGreatDoorCLift
import Derived.SizedLaws
import Derived.Lib.SmallJoins
import Derived.Test.YtbkjdcpfkepheaaGreatDoorCMixAX
import Derived.Test.YtbkjdcpfkepheaaGreatDoorCGAwake16
set_option linter.unusedVariables false
set_option linter.unusedSimpArgs false
namespace Go.Proofs.YtbkjdcpfkepheaaGreatDoor
section
open Go.ChangeShapes Go.WideShapes Go.RowKit Go.Joins Go.Deep Lv
set_option maxRecDepth 100000
theorem wU {H : Type} {enc : TypeId × Value → H} {C : Checked} {os : Os} {f : FuncId} {fn : Func} {s : ChangeSpec} {cs : List PathCond} {apart fresh handsOn again : Bool} {X : World → Prop}
    (hX : ∀ w w' : World, w.heap = w'.heap → X w → X w') (own : ownKnob C.prog.godebug = none) (started : os.Started) (ni : C.prog.inits.idxOf? f = none) (hfn : C.prog.funcs[f]? = some fn)
    (wit : ∃ (w : World) (tape : Tape) (i : Input), w.os = os ∧ (w.forCall tape i).Shaped C.prog ∧ i.vars = [] ∧ Input.okWide C.prog (w.forCall tape i) .any w.heap.size f i ∧
      ((s.pre enc C.prog fn cs apart (w.forCall tape i).memory i.args ∧ X (w.forCall tape i).memory) ∧ sizedMet enc C.prog fn (OpenSpec.ofChange s) apart (w.forCall tape i).memory i.args) ∧ Assume.holds {} C.prog (lone (Frame.enter C.prog f i.args .normal) [] (w.forCall tape i)))
    (walk : ∀ (W : World) (base : Nat) (args : Array Value) (ds gs : List (DataW H)) (before : List MemPlace),
      (∀ (j : Nat) t v, fn.params[j]? = some t → args[j]? = some v → Value.okWide C.prog W .any base t v) →
      DataW.Whole enc C.prog fn.params.toList s.vars apart W args.toList ds gs before →
      (DataW.weightsEach C.prog (fn.params.toList ++ (OpenSpec.ofChange s).bare.plain.varTypes C.prog) (ds ++ gs)).all (· ≤ reachBytes) = true → W.ShapedOpen C.prog → X W →
      Calls C.prog f args W fun e W' => ∃ v, e = .returned v ∧ s.post enc C.prog fn apart fresh handsOn again W args v W') :
    ReturnsInHanded {} C os f .any (fun w args => (s.pre enc C.prog fn cs apart w args ∧ X w) ∧ sizedMet enc C.prog fn (OpenSpec.ofChange s) apart w args) (s.post enc C.prog fn apart fresh handsOn again) := by
  refine returnsInHanded_of_calls own started ni wit ?_; intro w tape i _ hsh _ hok hpre _; obtain ⟨_, _, _, g, hg, _, _, _, _, hv⟩ := hok; obtain rfl : g = fn := Option.some.inj (hg.symm.trans hfn); obtain ⟨⟨⟨ds, gs, before, hw, _⟩, hx⟩, hz⟩ := hpre; have hw2 := DataW.Whole.of_heap (w' := w.forCall tape i) (by rfl) hw; refine (walk _ w.heap.size i.args ds gs before hv hw2 (hz.weights hw) hsh (hX _ _ (by rfl) hx)).mono fun e W' h => ?_; obtain ⟨v, rfl, hp⟩ := h; exact ChangeSpec.post_blind hp
def AF (c : Cl) : Prop := i64 c.c ∧ i64 c.r ∧ oB c.v
def Fu (x : Rc) : Prop := i64 x.c1 ∧ i64 x.r1 ∧ i64 x.c2 ∧ i64 x.r2
def tp (a : Ar) : Prop := oB a.v ∧ Fu a.x ∧ ∀ c ∈ a.l, AF c
theorem nX {n : Int} (h : (Lit.int .i64 n).wf = true) : i64 n := by
  unfold Lit.wf at h; rw [Bool.and_eq_true, decide_eq_true_eq, decide_eq_true_eq] at h; exact h
def pn {H : Type} (t : TypeId) (d : DataW H) : Prop := (d.weights Tryz.prog t).all (· ≤ reachBytes) = true
theorem rn : Tryz.prog.cellsOf 44 = 2 := by kernel_rfl
theorem po : Tryz.prog.cellsOf 34 = 4 := by kernel_rfl
theorem jK : Tryz.prog.cellsOf 46 = 5 := by kernel_rfl
theorem pq : Tryz.prog.cellsOf 37 = 5 := by kernel_rfl
theorem kY : Tryz.prog.cellsOf 39 = 9 := by kernel_rfl
theorem pt : Tryz.prog.bytesOf 46 = 48 := by kernel_rfl
section
variable {H : Type} {enc : TypeId × Value → H} {W : World} {b : Nat} {sp : Nat → Bool} {held : Bool} {fuel : Nat} {cs : List Value} {x : DataW H × List MemPlace}
theorem Fv (h : DataW.trod enc Tryz.prog W b sp held fuel 34 cs = some x) : ∃ r : Rc, cs = rcV r ∧ Fu r := by
  obtain ⟨y0, y1, y2, y3, m, hx, hl, h0, h1, h2, h3⟩ := trod_struct4 Tryz.underlying34 h; rw [po] at hl
  match cs, hl with
  | [c0, c1, c2, c3], _ =>
    have q0 : DataW.trod enc Tryz.prog W b sp held m 3 [c0] = some y0 := h0; have q1 : DataW.trod enc Tryz.prog W b sp held m 3 [c1] = some y1 := h1; have q2 : DataW.trod enc Tryz.prog W b sp held m 3 [c2] = some y2 := h2; have q3 : DataW.trod enc Tryz.prog W b sp held m 3 [c3] = some y3 := h3; obtain ⟨n0, e0, rfl, w0⟩ := DataW.trod_int Tryz.underlying3 q0; obtain ⟨n1, e1, rfl, w1⟩ := DataW.trod_int Tryz.underlying3 q1; obtain ⟨n2, e2, rfl, w2⟩ := DataW.trod_int Tryz.underlying3 q2; obtain ⟨n3, e3, rfl, w3⟩ := DataW.trod_int Tryz.underlying3 q3
    simp at e0 e1 e2 e3
    subst e0 e1 e2 e3; exact ⟨⟨n0, n1, n2, n3⟩, rfl, nX w0, nX w1, nX w2, nX w3⟩
theorem CN (h : DataW.trod enc Tryz.prog W b sp held fuel 44 cs = some x) : ∃ c r : Int, cs = [.int .i64 c, .int .i64 r] ∧ i64 c ∧ i64 r := by
  obtain ⟨y0, y1, m, hx, hl, h0, h1⟩ := trod_struct2 Tryz.underlying44 h; rw [rn] at hl
  match cs, hl with
  | [c0, c1], _ =>
    have q0 : DataW.trod enc Tryz.prog W b sp held m 3 [c0] = some y0 := h0; have q1 : DataW.trod enc Tryz.prog W b sp held m 3 [c1] = some y1 := h1; obtain ⟨n0, e0, rfl, w0⟩ := DataW.trod_int Tryz.underlying3 q0; obtain ⟨n1, e1, rfl, w1⟩ := DataW.trod_int Tryz.underlying3 q1
    simp at e0 e1
    subst e0 e1; exact ⟨n0, n1, rfl, nX w0, nX w1⟩
theorem tq (h : DataW.trod enc Tryz.prog W b sp held fuel 46 cs = some x) : ∃ c : Cl, cs = clV c ∧ AF c := by
  obtain ⟨y0, y1, m, hx, hl, h0, h1⟩ := trod_struct2 Tryz.underlying46 h; rw [jK] at hl
  match cs, hl with
  | [c0, c1, c2, c3, c4], _ =>
    have q0 : DataW.trod enc Tryz.prog W b sp held m 44 [c0, c1] = some y0 := h0; have q1 : DataW.trod enc Tryz.prog W b sp held m 25 [c2, c3, c4] = some y1 := h1; obtain ⟨c, r, e0, w0, w1⟩ := CN q0; obtain ⟨v, e1, wv, _⟩ := nI q1
    simp at e0 e1
    obtain ⟨rfl, rfl⟩ := e0; obtain ⟨rfl, rfl, rfl⟩ := e1; exact ⟨⟨c, r, v⟩, rfl, w0, w1, wv⟩
theorem ro (h : DataW.trod enc Tryz.prog W b sp held fuel 35 cs = some x) : ∃ s l, cs = [s] ∧ CellsIn W s l ∧ (∀ c ∈ l, AF c) ∧ (pn 35 x.1 → l.length ≤ 2932031007402) := by
  rcases open_slice Tryz.underlying35 h with ⟨hcs, _⟩ | ⟨a, len, cap, m, n, D, Pl, hcs, hb, hl, hm, hmm, hx, hi⟩
  · exact ⟨_, [], hcs, ⟨none, 0, rfl, RowK.nil, Nat.le_refl _, fun _ => rfl⟩, (fun c h => by cases h), fun _ => Nat.zero_le _⟩
  · have hle : len ≤ m := by rw [hmm]; split <;> omega
    obtain ⟨l, hlen, hp⟩ := IT (n := len) (p := fun i c => (∀ j v, (clV c)[j]? = some v → W.cell? (a.add (i * 5 + j)) = some v) ∧ AF c) (fun i hi' => by
      obtain ⟨cs, h1, h2⟩ := hi i (by omega); rw [jK] at h1; obtain ⟨_, hl5, hat⟩ := World.cells?_some h1; obtain ⟨c, rfl, hw⟩ := tq h2; refine ⟨c, fun j v hj => ?_, hw⟩; have hj5 : j < 5 := by have := (List.getElem?_eq_some_iff.1 hj).1; simpa [clV] using this
      have := hat j hj5; rw [add_add] at this; rw [this, hj])
    refine ⟨_, l, hcs, ⟨some a, cap, by rw [hlen], fun i c hc => ?_, by omega, fun h => by cases h⟩, fun c hc => ?_, fun hs => ?_⟩
    · have hi0 := (List.getElem?_eq_some_iff.1 hc).1
      have h0 := (hp 0 _ (List.getElem?_eq_getElem (Nat.lt_of_le_of_lt (Nat.zero_le _) hi0))).1 0 _ rfl; obtain ⟨b, off, spot⟩ := a
      have hspot : spot = none := by
        have := World.cell?_spot h0
        simpa [Addr.add] using this
      subst hspot; refine ⟨b, off, rfl, ju (by rw [add_plain] at h0; exact h0), fun j v hj => ?_⟩; have := (hp i c hc).1 j v hj; rw [add_plain] at this; rw [Nat.add_assoc]; exact this
    · obtain ⟨i, hi', e⟩ := List.getElem_of_mem hc
      exact (hp i c (by rw [List.getElem?_eq_getElem hi', e])).2
    · rw [hx] at hs
      unfold pn at hs
      simp only [DataW.weights, Tryz.underlying35, List.all_cons, Bool.and_eq_true, decide_eq_true_eq, pt, List.length_map, List.length_range] at hs
      have h1 := hs.1; unfold reachBytes at h1
      omega
theorem tr (h : DataW.trod enc Tryz.prog W b sp held fuel 37 cs = some x) : ∃ r s l, cs = rcV r ++ [s] ∧ Fu r ∧ CellsIn W s l ∧ (∀ c ∈ l, AF c) ∧ (pn 37 x.1 → l.length ≤ 2932031007402) := by
  obtain ⟨y0, y1, m, hx, hl, h0, h1⟩ := trod_struct2 Tryz.underlying37 h; rw [pq] at hl
  match cs, hl with
  | [c0, c1, c2, c3, c4], _ =>
    have q0 : DataW.trod enc Tryz.prog W b sp held m 34 [c0, c1, c2, c3] = some y0 := h0; have q1 : DataW.trod enc Tryz.prog W b sp held m 35 [c4] = some y1 := h1; obtain ⟨r, e0, w0⟩ := Fv q0; obtain ⟨s, l, e1, hc, wl, hs⟩ := ro q1
    simp at e1
    subst e1; refine ⟨r, c4, l, by rw [← e0]; rfl, w0, hc, wl, fun hz => hs ?_⟩; rw [hx] at hz; unfold pn at hz ⊢
    simp only [DataW.weights, Tryz.underlying37, List.map_cons, List.map_nil, DataW.weightsEach, List.all_append, Bool.and_eq_true] at hz
    exact hz.2.1
theorem wV (h : DataW.trod enc Tryz.prog W b sp held fuel 39 cs = some x) : ∃ a s, cs = arV a s ∧ CellsIn W s a.l ∧ tp a ∧ (pn 39 x.1 → a.l.length ≤ 2932031007402) := by
  obtain ⟨y0, y1, y2, m, hx, hl, h0, h1, h2⟩ := trod_struct3 Tryz.underlying39 h; rw [kY] at hl
  match cs, hl with
  | [c0, c1, c2, c3, c4, c5, c6, c7, c8], _ =>
    have q0 : DataW.trod enc Tryz.prog W b sp held m 4 [c0] = some y0 := h0; have q1 : DataW.trod enc Tryz.prog W b sp held m 25 [c1, c2, c3] = some y1 := h1; have q2 : DataW.trod enc Tryz.prog W b sp held m 37 [c4, c5, c6, c7, c8] = some y2 := h2; obtain ⟨w, e0, _⟩ := DataW.trod_bool Tryz.underlying4 q0; obtain ⟨v, e1, wv, _⟩ := nI q1; obtain ⟨r, s, l, e2, wr, hc, wl, hs⟩ := tr q2
    simp [rcV] at e0 e1 e2
    subst e0; obtain ⟨rfl, rfl, rfl⟩ := e1; obtain ⟨rfl, rfl, rfl, rfl, rfl⟩ := e2; refine ⟨⟨w, v, r, l⟩, c8, rfl, hc, ⟨wv, wr, wl⟩, fun hz => hs ?_⟩; rw [hx] at hz; unfold pn at hz ⊢
    simp only [DataW.weights, Tryz.underlying39, List.map_cons, List.map_nil, DataW.weightsEach, List.all_append, Bool.and_eq_true] at hz
    exact hz.2.2.1
end
theorem iB {H : Type} {P : Program} {e : TypeId} : ∀ {l : List (DataW H)}, (DataW.weightsAll P e l).all (· ≤ reachBytes) = true → ∀ d ∈ l, (d.weights P e).all (· ≤ reachBytes) = true
  | d :: l, h, q, hq => by
    rw [DataW.weightsAll, List.all_append, Bool.and_eq_true] at h; rcases List.mem_cons.1 hq with rfl | hq
    · exact h.1
    · exact iB h.2 q hq
structure ArgsW (w : World) (A : Option Addr) (len cap : Nat) (l : List Ar) : Prop where
  row : ArgsIn w A l
  len_eq : l.length = len
  le : len ≤ cap
  max : cap ≤ maxLen
  wide : ∀ a ∈ l, tp a
  small : ∀ a ∈ l, a.l.length ≤ 2932031007402
theorem tu {H : Type} {enc : TypeId × Value → H} {W : World} {r : Reach} {b0 : Nat} {sp : Nat → Bool} {held : Bool} {v : Value} {d : DataW H} {p : List MemPlace}
    (hv : Value.okWide Tryz.prog W r b0 22 v) (h : DataW.Trod enc Tryz.prog W 0 sp held 22 v d p) (hz : pn 22 d) :
    ∃ (A : Option Addr) (len cap : Nat) (l : List Ar), v = .slice A len cap ∧ ArgsW W A len cap l := by
  obtain ⟨A, len, cap, rfl⟩ := okWide_slice Tryz.underlying22 hv; obtain ⟨fuel, hf⟩ := h; rcases open_slice Tryz.underlying22 hf with ⟨hcs, _⟩ | ⟨a, len', cap', m, n, D, Pl, hcs, hb, hl, hm, hmm, hx, hi⟩
  · simp [Value.cells] at hcs
    obtain ⟨rfl, rfl, rfl⟩ := hcs; exact ⟨none, 0, 0, [], rfl, ⟨[], rfl, RowK.nil, fun p h => by cases h⟩, rfl, Nat.le_refl _, Nat.zero_le _, (fun v hv => by cases hv), (fun v hv => by cases hv)⟩
  · simp [Value.cells] at hcs
    obtain ⟨rfl, rfl, rfl⟩ := hcs; have hle : len ≤ m := by rw [hmm]; split <;> omega
    simp only [Prod.mk.injEq] at hx
    have hzs : ∀ i, i < len → pn 39 (D i) := fun i hi' => by
      rw [hx.1] at hz; unfold pn at hz
      simp only [DataW.weights, Tryz.underlying22, List.all_cons, List.all_append, Bool.and_eq_true] at hz
      exact iB hz.2.1 _ (List.mem_map.2 ⟨i, List.mem_range.2 hi', rfl⟩)
    obtain ⟨L, hlen, hp⟩ := IT (n := len) (p := fun i (q : Ar × Value) => (∀ j v, (arV q.1 q.2)[j]? = some v → W.cell? (a.add (i * 9 + j)) = some v) ∧ CellsIn W q.2 q.1.l ∧ tp q.1 ∧ q.1.l.length ≤ 2932031007402) (fun i hi' => by
      obtain ⟨cs, h1, h2⟩ := hi i (by omega); rw [kY] at h1; obtain ⟨_, hl9, hat⟩ := World.cells?_some h1; obtain ⟨c, s, rfl, hc, hw, hs⟩ := wV h2; refine ⟨(c, s), fun j v hj => ?_, hc, hw, hs (hzs i hi')⟩; have hj9 : j < 9 := by have := (List.getElem?_eq_some_iff.1 hj).1; simpa [arV] using this
      have := hat j hj9; rw [add_add] at this; rw [this, hj])
    have mem : ∀ q ∈ L, CellsIn W q.2 q.1.l ∧ tp q.1 ∧ q.1.l.length ≤ 2932031007402 := fun q hq => by
      obtain ⟨i, hi', e⟩ := List.getElem_of_mem hq; exact (hp i q (by rw [List.getElem?_eq_getElem hi', e])).2
    refine ⟨some a, len, cap, L.map Prod.fst, rfl, ⟨L, rfl, fun i c hc => ?_, fun q hq => (mem q hq).1⟩, by rw [List.length_map, hlen], hl, hm, fun q hq => ?_, fun q hq => ?_⟩
    · have hi0 := (List.getElem?_eq_some_iff.1 hc).1
      have h0 := (hp 0 _ (List.getElem?_eq_getElem (Nat.lt_of_le_of_lt (Nat.zero_le _) hi0))).1 0 _ rfl; obtain ⟨b, off, spot⟩ := a
      have hspot : spot = none := by
        have := World.cell?_spot h0
        simpa [Addr.add] using this
      subst hspot; refine ⟨b, off, rfl, ju (by rw [add_plain] at h0; exact h0), fun j v hj => ?_⟩; have := (hp i c hc).1 j v hj; rw [add_plain] at this; rw [Nat.add_assoc]; exact this
    · obtain ⟨y, hy, rfl⟩ := List.mem_map.1 hq
      exact (mem y hy).2.1
    · obtain ⟨y, hy, rfl⟩ := List.mem_map.1 hq
      exact (mem y hy).2.2
end

namespace Lv
open Go
abbrev wv (v : Vl) : Ar := ⟨false, v, ⟨0, 0, 0, 0⟩, []⟩
theorem Fw {y : Ar} (h : Js y = true) (hw : y.w = true) : y = ⟨true, aj, y.x, y.l⟩ := by
  obtain ⟨w, v, x, l⟩ := y
  simp only at hw
  subst hw; unfold Js at h
  simp only [if_true, Bool.and_eq_true, decide_eq_true_eq] at h
  obtain ⟨⟨⟨h1, h2, h3⟩, _⟩, _⟩ := h; obtain ⟨k, n, t⟩ := v
  simp only at h1 h2 h3
  subst h1 h2 h3
  rfl
end Lv

namespace Lv
open Go
end Lv

section
open Go.RowKit Lv
set_option maxRecDepth 100000
theorem OwnArgs.one {w w' : World} {y : Ar} {e : Ending} (h : OwnArgs w [y] e w') : ∃ (gy cy : Nat) (Ay : Option Addr) (cl : Nat), e = .returned (.slice (some ⟨gy, 0, none⟩) 1 cy) ∧ Own w [dW (.slice (some ⟨gy, 0, none⟩) 1 cy) [(y, .slice Ay y.l.length cl)], cf (y, .slice Ay y.l.length cl)] w' := by
  obtain ⟨v, L, rfl, hL, o⟩ := h
  obtain ⟨s, rfl⟩ : ∃ s, L = [(y, s)] := by
    match L, hL with
    | [(a, s)], hL => simp at hL; subst hL; exact ⟨s, rfl⟩
  obtain ⟨A, c, rfl⟩ := bV (o.row 0 rfl); obtain ⟨Ay, cl, e2⟩ := bV (o.row 1 rfl); obtain ⟨g, rfl, _⟩ := uK (o.row 0 rfl) (by simp)
  simp only at e2
  subst e2; exact ⟨g, c, Ay, cl, rfl, o⟩
