/- Small texts together: SZ3, MAgg2. -/
import Derived.Test.YtbkjdcpfkepheaaGreatDoorCSZ2
import Derived.Test.YtbkjdcpfkepheaaGreatDoorCMixAN
set_option linter.unusedVariables false
set_option linter.unusedSimpArgs false
namespace Go.Proofs.YtbkjdcpfkepheaaGreatDoor
section
open Go.RowKit
set_option linter.unusedVariables false
def H1 : List Th → Nat → Th → (List Th → Prop) → Prop
  | [], _, _, K => K []
  | _ :: r, 0, t, K => K (t :: r)
  | x :: r, k + 1, t, K => H1 r k t fun r' => K (x :: r')
theorem yG : ∀ {H : List Th} {k : Nat} {t : Th} {K : List Th → Prop}, H1 H k t K → K (H.set k t)
  | [], _, _, _, h => h
  | _ :: _, 0, _, _, h => h
  | _ :: r, k + 1, _, K, h => yG (H := r) (K := fun r' => K (_ :: r')) h
def F5 : List Value → Nat → List Value → (List Value → Prop) → Prop
  | cs, _, [], K => K cs
  | [], _, _ :: _, K => K []
  | _ :: cs, 0, v :: vs, K => F5 cs 0 vs fun r => K (v :: r)
  | c :: cs, n + 1, v :: vs, K => F5 cs n (v :: vs) fun r => K (c :: r)
theorem fY (c : Value) : ∀ (vs cs : List Value) (n : Nat), bT (c :: cs).toArray (n + 1) vs = (c :: (bT cs.toArray n vs).toList).toArray
  | [], cs, n => by simp [bT]
  | v :: vs, cs, n => by
    show bT ((c :: cs).toArray.setIfInBounds (n + 1) v) (n + 2) vs = (c :: (bT (cs.toArray.setIfInBounds n v) (n + 1) vs).toList).toArray; have e : (c :: cs).toArray.setIfInBounds (n + 1) v = (c :: (cs.set n v)).toArray := by simp
    have e2 : cs.toArray.setIfInBounds n v = (cs.set n v).toArray := by simp
    rw [e, e2, fY c vs (cs.set n v) (n + 1)]
theorem kN : ∀ (vs : List Value) (n : Nat), bT #[] n vs = #[]
  | [], _ => rfl
  | v :: vs, n => by
    show bT ((#[] : Array Value).setIfInBounds n v) (n + 1) vs = #[]; have e : (#[] : Array Value).setIfInBounds n v = #[] := by simp
    rw [e]; exact kN vs (n + 1)
theorem sF : ∀ {cs : List Value} {n : Nat} {vs : List Value} {K : List Value → Prop}, F5 cs n vs K → K (bT cs.toArray n vs).toList
  | cs, n, [], K, h => by
    unfold F5 at h
    cases cs <;> exact h
  | [], n, v :: vs, K, h => by rw [kN]; cases n <;> exact h
  | c :: cs, 0, v :: vs, K, h => by
    have e : bT (c :: cs).toArray 0 (v :: vs) = bT (v :: cs).toArray 1 vs := by
      show bT ((c :: cs).toArray.setIfInBounds 0 v) 1 vs = _
      simp
    rw [e, fY]; exact sF (cs := cs) (n := 0) (vs := vs) (K := fun r => K (v :: r)) h
  | c :: cs, n + 1, v :: vs, K, h => by
    rw [fY]; exact sF (cs := cs) (n := n) (vs := v :: vs) (K := fun r => K (c :: r)) h
def Eu (t : Nat) : List (Nat × Value) → List (Nat × Value) → (List (Nat × Value) → Prop) → Prop
  | [], acc, K => K acc
  | (u, v) :: r, acc, K => match Nat.beq t u with
    | true => Eu t r acc K
    | false => Eu t r ((u, v) :: acc) K
theorem sG {t : Nat} {K : List (Nat × Value) → Prop} {a : Act} : ∀ {M acc : List (Nat × Value)} (hM : ∀ u v, (u, v) ∈ M → Nat.beq t u = false → a.eval (.tmp u) = v) (hA : ∀ p ∈ acc, a.eval (.tmp p.1) = p.2), Eu t M acc K → ∃ L', (∀ p ∈ L', a.eval (.tmp p.1) = p.2) ∧ K L'
  | [], acc, _, hA, h => ⟨acc, hA, h⟩
  | (u, v) :: r, acc, hM, hA, h => by
    unfold Eu at h
    split at h
    · exact sG (fun t v hp => hM t v (List.mem_cons_of_mem _ hp)) hA h
    · rename_i hw
      refine sG (fun t v hp => hM t v (List.mem_cons_of_mem _ hp)) (fun p hp => ?_) h; rcases List.mem_cons.1 hp with rfl | hp
      · exact hM _ _ List.mem_cons_self hw
      · exact hA p hp
def evL (L : List (Nat × Value)) : Operand → Option Value
  | .const v => some v
  | .func f => some (.func (.func f) #[] #[])
  | .tmp t => lk L t
  | .global _ => none
section
variable {l : List Oper} {N : Nat} {wr : World} {H : List Th} {L : List (Nat × Value)} {w0 : World} {a0 : Act} {pre : List Yd} {id : Nat} {draw : Bool} {Q : Exit → Act → World → Prop} {y : Code}
theorem BO {n : Nat} (s : Sg N wr H L a0 w0) (h : Pre l n N wr H L w0 a0 pre []) (fin : vX (l.take n) L [] fun L1 => qt (fun H' L' => ∀ a w, Sg N wr H' L' a w → wpList Tryz.prog l.toArray Q (l.drop n) a w) (l.take n) pre.reverse H L1) (hB : eO l.toArray n N = true) (hT : (!draw || mV l.toArray n) = true) : (Code.region id l.toArray draw).wp Tryz.prog Q a0 w0 :=
  Jl s (h.1.symm ▸ h) h.1 fin hB hT
theorem eS {K K' : List Th → List (Nat × Value) → Prop} (hK : ∀ H L, K H L → K' H L) : ∀ (r : List Oper) (zs : List Yd) (H : List Th) (L : List (Nat × Value)), qt K r zs H L → qt K' r zs H L
  | [], _, H, L, h => hK H L h
  | _ :: _, [], H, L, h => hK H L h
  | o :: r, y :: zs, H, L, h => by
    unfold qt at h ⊢
    split at h
    · rename_i e; exact eS hK r zs H L h
    · rename_i t e
      cases y with
      | p b => exact fun g => eS hK r zs _ _ (h g)
      | l m b => exact fun g => eS hK r zs _ _ (h g)
      | _ => exact eS hK r zs _ _ h
theorem gK {ops : List Oper} {K K' : List (Nat × Value) → Prop} (hK : ∀ L, K L → K' L) : ∀ (M acc : List (Nat × Value)), vX ops M acc K → vX ops M acc K'
  | [], acc, h => hK acc h
  | (t, v) :: r, acc, h => by
    unfold vX at h ⊢
    split at h
    · exact gK hK r acc h
    · exact gK hK r _ h
theorem zr (s : Sg N wr H L a0 w0) (n : Nat) (h : Pre l n N wr H L w0 a0 pre []) (fin : vX (l.take n) L [] fun L1 => qt (fun H' L' => ∀ a w, Sg N wr H' L' a w → y.wp Tryz.prog Q a w) (l.take n) pre.reverse H L1) (hd : l.drop n = [] := by exact rfl) (hB : eO l.toArray n N = true := by kernel_rfl) (hT : (!draw || mV l.toArray n) = true := by kernel_rfl) : (Code.seq (.region id l.toArray draw) y).wp Tryz.prog Q a0 w0 :=
  wp_seq_k fun K hK => BO s h (gK (fun L1 h => eS (fun H' L' h a w s => by rw [hd]; exact yr (hK _ _ (h a w s))) _ _ _ _ h) _ _ fin) hB hT
theorem zt_ (s : Sg N wr H L a0 w0) (n : Nat) (h : Pre l n N wr H L w0 a0 pre []) (fin : vX (l.take n) L [] fun L1 => qt (fun H' L' => ∀ a w, Sg N wr H' L' a w → ∀ K : Act → World → Prop, (∀ a w, y.wp Tryz.prog Q a w → K a w) → wpList Tryz.prog l.toArray (Exit.then K Q) (l.drop n) a w) (l.take n) pre.reverse H L1) (hB : eO l.toArray n N = true := by kernel_rfl) (hT : (!draw || mV l.toArray n) = true := by kernel_rfl) : (Code.seq (.region id l.toArray draw) y).wp Tryz.prog Q a0 w0 :=
  wp_seq_k fun K hK => BO s h (gK (fun L1 h => eS (fun H' L' h a w s => h a w s K hK) _ _ _ _ h) _ _ fin) hB hT
theorem zq (s : Sg N wr H L a0 w0) (n : Nat) (h : Pre l n N wr H L w0 a0 pre []) (fin : vX (l.take n) L [] fun L1 => qt (fun H' L' => ∀ a w, Sg N wr H' L' a w → Q .normal a w) (l.take n) pre.reverse H L1) (hd : l.drop n = [] := by exact rfl) (hB : eO l.toArray n N = true := by kernel_rfl) (hT : (!draw || mV l.toArray n) = true := by kernel_rfl) : (Code.region id l.toArray draw).wp Tryz.prog Q a0 w0 :=
  BO s h (gK (fun L1 h => eS (fun H' L' h a w s => by rw [hd]; exact aN (h a w s)) _ _ _ _ h) _ _ fin) hB hT
theorem zu (s : Sg N wr H L a0 w0) (n : Nat) (h : Pre l n N wr H L w0 a0 pre []) (fin : vX (l.take n) L [] fun L1 => qt (fun H' L' => ∀ a w, Sg N wr H' L' a w → wpList Tryz.prog l.toArray Q (l.drop n) a w) (l.take n) pre.reverse H L1) (hB : eO l.toArray n N = true := by kernel_rfl) (hT : (!draw || mV l.toArray n) = true := by kernel_rfl) : (Code.region id l.toArray draw).wp Tryz.prog Q a0 w0 := BO s h fin hB hT
end
section
variable {ops : Array Oper} {rest : List Oper} {o : Oper} {N : Nat} {wr : World} {H : List Th} {L : List (Nat × Value)} {a : Act} {w : World} {Q : Exit → Act → World → Prop} {u v : Value} {t : Nat} {T ty : TypeId} {x y : Operand} {g off : Nat} {cs : Array Value}
theorem Sg.e (s : Sg N wr H L a w) {x : Operand} {v : Value} (h : evL L x = some v) : a.eval x = v := by
  cases x with
  | const u => cases h; rfl
  | func f => cases h; rfl
  | global g => cases h
  | tmp t => exact s.g t h
theorem zg (s : Sg N wr H L a w) (h : Eu t L [] fun L' => ∀ a w, Sg N wr H ((t, v) :: L') a w → wpList Tryz.prog ops Q rest a w) (hN : Nat.blt t N = true := by exact rfl) : wpList Tryz.prog ops Q rest (a.put (some t) v) w := by
  obtain ⟨L', hl, h⟩ := sG (a := a.put (some t) v) (fun u x hm hu => Dm (by have := Nat.ne_of_beq_eq_false hu; simpa using this) (s.s _ hm)) (fun p hp => by cases hp) h; refine h _ _ ⟨ah s.z, bj s.q, s.o, fun p hp => ?_⟩; rcases List.mem_cons.1 hp with rfl | hp
  · exact bQ s.z hN
  · exact hl p hp
theorem zS (s : Sg N wr H L a w) (k : Nat) (c : F5 cs.toList off v.cells.toList fun cs' => H1 H k (Th.obj g (.cells cs'.toArray ty (0, 0))) fun H' => ∀ w, Sg N wr H' L a w → wpList Tryz.prog ops Q rest a w) (ho : o.op = .store T x y := by exact rfl) (hx : evL L x = some (.pointer (some ⟨g, off, none⟩)) := by exact rfl) (hy : evL L y = some v := by exact rfl) (e : H[k]? = some (Th.obj g (.cells cs ty (0, 0))) := by exact rfl) (hs : ∀ w, (sizeOf T).run Tryz.prog w = .ok v.cells.size w := by intro w; kernel_rfl) (h1 : (v.cells.toList.all fun v => v.oneCell') = true := by rfl) (hb : Nat.ble (off + v.cells.toList.length) cs.size = true := by rfl) (hg : o.guard = none := by exact rfl) (hn : o.dst = none := by exact rfl) : wpList Tryz.prog ops Q (o :: rest) a w :=
  ub s.o k off (aC hg) hn ho (s.e hx) (s.e hy) (hs _) e h1 hb fun w' ow => by
    have h1 := sF c; have h2 := yG h1; have e1 : (bT cs.toList.toArray off v.cells.toList).toList.toArray = bT cs off v.cells.toList := by simp
    rw [e1] at h2; exact h2 w' (s.ow ow)
theorem zS1 (s : Sg N wr H L a w) (k : Nat) (v : Value) (h1 : (v.cells.toList.all fun v => v.oneCell') = true) (c : F5 cs.toList off v.cells.toList fun cs' => H1 H k (Th.obj g (.cells cs'.toArray ty (0, 0))) fun H' => ∀ w, Sg N wr H' L a w → wpList Tryz.prog ops Q rest a w) (ho : o.op = .store T x y := by exact rfl) (hx : evL L x = some (.pointer (some ⟨g, off, none⟩)) := by exact rfl) (hy : evL L y = some v := by exact rfl) (e : H[k]? = some (Th.obj g (.cells cs ty (0, 0))) := by exact rfl) (hs : ∀ w, (sizeOf T).run Tryz.prog w = .ok v.cells.size w := by intro w; kernel_rfl) (hb : Nat.ble (off + v.cells.toList.length) cs.size = true := by rfl) (hg : o.guard = none := by exact rfl) (hn : o.dst = none := by exact rfl) : wpList Tryz.prog ops Q (o :: rest) a w := zS s k c ho hx hy e hs h1 hb hg hn
theorem zW (s : Sg N wr H L a w) (run : (execOp a.eval o).run Tryz.prog w = .ok (.value v) w) (c : Eu t L [] fun L' => ∀ a w, Sg N wr H ((t, v) :: L') a w → wpList Tryz.prog ops Q rest a w) (hd : o.dst = some t := by exact rfl) (hg : o.guard = none := by exact rfl) (hN : Nat.blt t N = true := by exact rfl) : wpList Tryz.prog ops Q (o :: rest) a w :=
  js (aC hg) run (by rw [hd]; exact zg s c hN)
theorem zw (s : Sg N wr H L a w) (c : Eu t L [] fun L' => ∀ a w, Sg N wr H ((t, v) :: L') a w → wpList Tryz.prog ops Q rest a w) (hd : o.dst = some t := by exact rfl) (e : pv (evL L) o.op = some v := by exact rfl) (hg : o.guard = none := by exact rfl) (hN : Nat.blt t N = true := by exact rfl) : wpList Tryz.prog ops Q (o :: rest) a w := zW s (Gv (fun _ _ h => s.e h) e) c hd hg hN
/-! tests -/
variable {c d : Code} {z : Operand} {b : Bool} {p : Prop}
theorem zb (s : Sg N wr H L a w) (i : b = true ↔ p) (ht : p → c.wp Tryz.prog Q a w) (hf : ¬ p → d.wp Tryz.prog Q a w) (e : evL L z = some (.bool b) := by exact rfl) : (Code.cond z c d).wp Tryz.prog Q a w := by
  by_cases h : p
  · exact wp_cond_true ((s.e e).trans (congrArg Value.bool (i.2 h))) (ht h)
  · exact wp_cond_false ((s.e e).trans (congrArg Value.bool (Bool.eq_false_iff.2 fun c => h (i.1 c)))) (hf h)
theorem zi_ (s : Sg N wr H L a w) [Decidable p] (ht : p → c.wp Tryz.prog Q a w) (hf : ¬ p → d.wp Tryz.prog Q a w) (e : evL L z = some (.bool (decide p)) := by exact rfl) : (Code.cond z c d).wp Tryz.prog Q a w := zb s decide_eq_true_iff ht hf e
theorem zy (s : Sg N wr H L a w) (h : c.wp Tryz.prog Q a w) (e : evL L z = some (.bool b) := by exact rfl) (hb : b = true := by exact rfl) : (Code.cond z c d).wp Tryz.prog Q a w := wp_cond_true ((s.e e).trans (congrArg Value.bool hb)) h
theorem zx (s : Sg N wr H L a w) (h : d.wp Tryz.prog Q a w) (e : evL L z = some (.bool b) := by exact rfl) (hb : b = false := by exact rfl) : (Code.cond z c d).wp Tryz.prog Q a w := wp_cond_false ((s.e e).trans (congrArg Value.bool hb)) h
/-! returns -/
theorem rT (s : Sg N wr H L a w) (h : lk L t = some v := by exact rfl) : (fh a (.tmp t)).run Tryz.prog w = .ok v w := Eg (s.g t h)
theorem rC (s : Sg N wr H L a w) (n k : Nat) (h : lk L t = some (.pointer (some ⟨g, 0, none⟩)) := by exact rfl) (e : H[k]? = some (Th.obj g (.cells cs ty (0, 0))) := by exact rfl) (ha : (isAgg T).run Tryz.prog w = .ok true w := by kernel_rfl) (hs : (sizeOf T).run Tryz.prog w = .ok n w := by kernel_rfl) (hb : 0 + n ≤ cs.size := by exact Nat.le_of_ble_eq_true rfl) : (fh a (.cell t T)).run Tryz.prog w = .ok (.agg (cs.toList.take n).toArray) w := oA _ (s.g t h) ha hs (s.o.box k e) hb rfl
theorem z1 {fn : Func} (s : Sg N wr H L a w) {R : Ending → World → Prop} (hR : R (.returned v) w) (hf : fn.results = #[.tmp t] := by exact rfl) (h : lk L t = some v := by exact rfl) : bodyPost Tryz.prog fn R .ret a w := sv hf (rT s h) s.q hR
/-! the start -/
def sbA (a : Act) : List (Nat × Value) → Prop
  | [] => True
  | (t, v) :: r => a.eval (.tmp t) = v ∧ sbA a r
theorem Jm : sbA a [] := trivial
theorem Jn {r : List (Nat × Value)} (h : a.eval (.tmp t) = v) (k : sbA a r) : sbA a ((t, v) :: r) := ⟨h, k⟩
theorem yH : ∀ {L : List (Nat × Value)}, sbA a L → ∀ p ∈ L, a.eval (.tmp p.1) = p.2
  | [], _, p, h => by cases h
  | (t, v) :: r, h, p, e => by
    rcases List.mem_cons.1 e with rfl | e
    · exact h.1
    · exact yH h.2 p e
theorem z00 (N : Nat) (L : List (Nat × Value)) (h : ∀ a, Sg N w [] L a w → c.wp Tryz.prog Q a w) (hz : a.tmps.size = N := by exact rfl) (hq : a.defers = [] := by exact rfl) (hL : sbA a L := by repeat (first | exact Jm | refine Jn rfl ?_)) : c.wp Tryz.prog Q a w := h a ⟨hz, hq, Own.start w, yH hL⟩
end
end

namespace Lv
open Go
def dT (x : Rc) (c : Cl) : Prop := jL x c.c c.r = true ∧ c.v.k ≠ 0 ∧ vOk c.v = true
abbrev mf (l : List Cl) : Prop := l.Pairwise fun p q => dA p q = true
theorem vY {x : Rc} {b : Int} {c : Cl} : mc x b c = true ↔ dT x c ∧ b < bN x c.c c.r := by
  unfold mc dT
  simp only [Bool.and_eq_true, decide_eq_true_eq]
  constructor
  · rintro ⟨⟨⟨a, b⟩, c⟩, d⟩; exact ⟨⟨a, b, c⟩, d⟩
  · rintro ⟨⟨a, b, c⟩, d⟩; exact ⟨⟨⟨a, b⟩, c⟩, d⟩
theorem mg {x : Rc} : ∀ (l : List Cl) (b : Int), db x b l = true ↔ (∀ c ∈ l, dT x c) ∧ mf l ∧ (∀ c ∈ l, b < bN x c.c c.r)
  | [], b => by simp [db]
  | c :: l, b => by
    rw [db, Bool.and_eq_true, vY, mg l]
    constructor
    · rintro ⟨⟨f, hb⟩, g, p, h⟩
      refine ⟨fun q hq => ?_, ?_, fun q hq => ?_⟩
      · rcases List.mem_cons.1 hq with rfl | hq
        · exact f
        · exact g q hq
      · exact List.pairwise_cons.2 ⟨fun q hq => by rw [← oG f.1 (g q hq).1, decide_eq_true_eq]; exact h q hq, p⟩
      · rcases List.mem_cons.1 hq with rfl | hq
        · exact hb
        · exact Int.lt_trans hb (h q hq)
    · rintro ⟨g, p, h⟩
      obtain ⟨p1, p2⟩ := List.pairwise_cons.1 p; have f := g c List.mem_cons_self; refine ⟨⟨f, h c List.mem_cons_self⟩, fun q hq => g q (List.mem_cons_of_mem _ hq), p2, fun q hq => ?_⟩; have := p1 q hq; rw [← oG f.1 (g q (List.mem_cons_of_mem _ hq)).1, decide_eq_true_eq] at this; exact this
theorem dm {x : Rc} {l : List Cl} : db x (-1) l = true ↔ (∀ c ∈ l, dT x c) ∧ mf l := by
  rw [mg]
  constructor
  · rintro ⟨a, b, _⟩; exact ⟨a, b⟩
  · rintro ⟨a, b⟩; exact ⟨a, b, fun c hc => by have := (me (a c hc).1).1; omega⟩
theorem qu : ∀ (l : List Cl), (∀ i, i + 1 < l.length → ∀ p q, l[i]? = some p → l[i + 1]? = some q → dA p q = true) → mf l
  | [], _ => .nil
  | [c], _ => List.pairwise_cons.2 ⟨fun _ h => (by cases h), .nil⟩
  | c :: d :: l, h => by
    have ih := qu (d :: l) (fun i hi p q hp hq => h (i + 1) (by simp only [List.length_cons] at hi ⊢; omega) p q (by simpa using hp) (by simpa using hq)); have h0 := h 0 (by simp) c d rfl rfl; refine List.pairwise_cons.2 ⟨fun q hq => ?_, ih⟩; rcases List.mem_cons.1 hq with rfl | hq
    · exact h0
    · have h1 := (List.pairwise_cons.1 ih).1 q hq
      unfold dA at h0 h1 ⊢
      simp only [Bool.or_eq_true, Bool.and_eq_true, decide_eq_true_eq] at h0 h1 ⊢
      omega
/-! an area divided -/
theorem eD {x : Rc} : okR x = true ↔ (1 ≤ x.c1 ∧ x.c1 ≤ x.c2 ∧ x.c2 ≤ 1024) ∧ (1 ≤ x.r1 ∧ x.r1 ≤ x.r2 ∧ x.r2 ≤ 1024) := by
  unfold okR vU
  simp only [Bool.and_eq_true, decide_eq_true_eq]
  omega
theorem nK {x : Rc} {l : List Cl} : Js ⟨true, aj, x, l⟩ = true ↔ okR x = true ∧ (∀ c ∈ l, dT x c) ∧ mf l := by
  unfold Js
  simp only [if_true, Bool.and_eq_true, dm]
  constructor
  · rintro ⟨⟨_, a⟩, b⟩; exact ⟨a, b⟩
  · rintro ⟨a, b⟩; exact ⟨⟨rfl, a⟩, b⟩
end Lv
