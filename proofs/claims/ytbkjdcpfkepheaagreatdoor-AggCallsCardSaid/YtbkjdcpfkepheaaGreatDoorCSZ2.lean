/- The walk by what is known of the slots, second part: arms that reach memory, regions, what stands behind them, tests, returns. -/
import Derived.Test.YtbkjdcpfkepheaaGreatDoorCMixAN
namespace Go.Proofs.YtbkjdcpfkepheaaGreatDoor
section
set_option linter.unusedVariables false
set_option linter.unusedSimpArgs false
open Go.RowKit
set_option linter.unusedVariables false
section
variable {l : List Oper} {n N : Nat} {wr : World} {H : List Th} {L : List (Nat × Value)} {w0 : World} {a0 : Act} {pre : List Yd} {o : Oper} {r : List Oper} {x y : Operand} {T T2 : TypeId} {g off : Nat} {cs : Array Value} {u v : Value}
theorem zL (h : Pre l n N wr H L w0 a0 pre (o :: r)) (k : Nat) (ho : o.op = .load T x := by exact rfl) (hx : ev l n L pre o x = some (.pointer (some ⟨g, off, none⟩)) := by exact rfl) (hb : H[k]? = some (Th.obj g (.cells cs T2 (0, 0))) := by exact rfl) (hc : F4 cs.toList off = some v := by exact rfl) (ha : ∀ w, (isAgg T).run Tryz.prog w = .ok false w := by intro w; kernel_rfl) (hg : gN pre o = true := by exact rfl) : Pre l n N wr H L w0 a0 (.v v :: pre) r :=
  zO h (fun c => dY ho (ha _) (c.e hx) (c.ow.box k hb) (by rw [← Array.getElem?_toList, ← oH]; exact hc)) hg
theorem zA (h : Pre l n N wr H L w0 a0 pre (o :: r)) (v : Value) (m k : Nat) (ho : o.op = .load T x := by exact rfl) (hx : ev l n L pre o x = some (.pointer (some ⟨g, off, none⟩)) := by exact rfl) (hb : H[k]? = some (Th.obj g (.cells cs T2 (0, 0))) := by exact rfl) (hl : off + m ≤ cs.size := by exact Nat.le_of_ble_eq_true rfl) (hv : v = .agg ((cs.toList.drop off).take m).toArray := by exact rfl) (ha : ∀ w, (isAgg T).run Tryz.prog w = .ok true w := by intro w; kernel_rfl) (hs : ∀ w, (sizeOf T).run Tryz.prog w = .ok m w := by intro w; kernel_rfl) (hg : gN pre o = true := by exact rfl) : Pre l n N wr H L w0 a0 (.v v :: pre) r :=
  zO h (fun c => by rw [hv]; exact nF m ho (ha _) (hs _) (c.e hx) (c.ow.box k hb) hl rfl) hg
theorem zF (h : Pre l n N wr H L w0 a0 pre (o :: r)) (q : Nat) {i : Nat} (ho : o.op = .fieldAddr T x i := by exact rfl) (hx : ev l n L pre o x = some (.pointer (some ⟨g, off, none⟩)) := by exact rfl) (hf : ∀ w, (Instr.fieldAt T (.pointer (some ⟨g, off, none⟩)) i).run Tryz.prog w = .ok (.pointer (some ⟨g, q, none⟩)) w := by intro w; kernel_rfl) (hg : gN pre o = true := by exact rfl) : Pre l n N wr H L w0 a0 (.v (.pointer (some ⟨g, q, none⟩)) :: pre) r :=
  zO h (fun c => aE ho (c.e hx) (hf _)) hg
theorem zN (h : Pre l n N wr H L w0 a0 pre (o :: r)) {e : TypeId} {A : Option Addr} {m cap : Nat} (ho : o.op = .call { callee := .builtin .len, args := #[x], argTypes := #[T] } := by exact rfl) (hx : ev l n L pre o x = some (.slice A m cap) := by exact rfl) (hu : Tryz.prog.underlying T = some (.slice e) := by exact rfl) (hg : gN pre o = true := by exact rfl) : Pre l n N wr H L w0 a0 (.v (.int .i64 m) :: pre) r :=
  zO h (fun c => IU hu ho (c.e hx)) hg
theorem zAn (h : Pre l n N wr H L w0 a0 pre (o :: r)) (i m : Nat) (ho : o.op = .binOp .add T x y T2 := by exact rfl) (hx : ev l n L pre o x = some (.int .i64 ((i : Nat) : Int)) := by exact rfl) (hy : ev l n L pre o y = some (.int .i64 ((m : Nat) : Int)) := by exact rfl) (hT : T = 3 ∨ T = 2 := by first | exact Or.inl rfl | exact Or.inr rfl) (hl : ((i : Nat) : Int) + ((m : Nat) : Int) ≤ 9223372036854775807 := by omega) (hg : gN pre o = true := by exact rfl) : Pre l n N wr H L w0 a0 (.v (.int .i64 ((i + m : Nat) : Int)) :: pre) r :=
  zO h (fun c => BH (n := (i : Int)) (m := (m : Int)) hT ho (c.e hx) (c.e hy) (by omega) hl) hg
theorem zAd (h : Pre l n N wr H L w0 a0 pre (o :: r)) {i m : Int} (ho : o.op = .binOp .add T x y T2 := by exact rfl) (hx : ev l n L pre o x = some (.int .i64 i) := by exact rfl) (hy : ev l n L pre o y = some (.int .i64 m) := by exact rfl) (hT : T = 3 ∨ T = 2 := by first | exact Or.inl rfl | exact Or.inr rfl) (l1 : -9223372036854775808 ≤ i + m := by omega) (l2 : i + m ≤ 9223372036854775807 := by omega) (hg : gN pre o = true := by exact rfl) : Pre l n N wr H L w0 a0 (.v (.int .i64 (i + m)) :: pre) r :=
  zO h (fun c => BH hT ho (c.e hx) (c.e hy) l1 l2) hg
theorem zSb (h : Pre l n N wr H L w0 a0 pre (o :: r)) {i m : Int} (ho : o.op = .binOp .sub T x y T2 := by exact rfl) (hx : ev l n L pre o x = some (.int .i64 i) := by exact rfl) (hy : ev l n L pre o y = some (.int .i64 m) := by exact rfl) (hT : T = 3 ∨ T = 2 := by first | exact Or.inl rfl | exact Or.inr rfl) (l1 : -9223372036854775808 ≤ i - m := by omega) (l2 : i - m ≤ 9223372036854775807 := by omega) (hg : gN pre o = true := by exact rfl) : Pre l n N wr H L w0 a0 (.v (.int .i64 (i - m)) :: pre) r :=
  zO h (fun c => Ek hT ho (c.e hx) (c.e hy) l1 l2) hg
def evs (l : List Oper) (n : Nat) (L : List (Nat × Value)) (pre : List Yd) (o : Oper) : List Operand → Option (List Value)
  | [] => some []
  | x :: r => match ev l n L pre o x with
    | none => none
    | some v => match evs l n L pre o r with
      | none => none
      | some vs => some (v :: vs)
theorem Dz {ys : List Yield} {a : Act} {w : World} (c : Cx l n N wr H L w0 a0 pre o ys a w) : ∀ {xs : List Operand} {vs : List Value}, evs l n L pre o xs = some vs → xs.map a.eval = vs
  | [], vs, h => by cases h; rfl
  | x :: xs, vs, h => by
    unfold evs at h
    split at h
    · cases h
    · rename_i v hv
      split at h
      · cases h
      · rename_i us hu
        cases h
        rw [List.map_cons, c.e hv, Dz c hu]
theorem DA {a : Act} {w : World} {F : FuncId} {xs : List Operand} {ts : Array TypeId} {vs : List Value} (ho : o.op = .call { callee := .value (.func F), args := xs.toArray, argTypes := ts }) (hx : xs.map a.eval = vs) (hF : (callFunc F vs.toArray).run Tryz.prog w = .ok (.enter F vs.toArray) w) : (execOp a.eval o).run Tryz.prog w = .ok (.enter F vs.toArray) w := by
  subst hx; unfold execOp; rw [ho]; have e : (xs.toArray).map a.eval = (xs.map a.eval).toArray := by simp
  simp only [resolve, invoke, Sem.run_bind, Sem.run_pure, Result.andThen_ok, e, Act.eval] at hF ⊢
  go_simp
theorem zC (h : Pre l n N wr H L w0 a0 pre (o :: r)) {F : FuncId} {xs : List Operand} {ts : Array TypeId} {vs : List Value} {v : Value} (q : ∀ {ys a w}, Cx l n N wr H L w0 a0 pre o ys a w → Calls Tryz.prog F vs.toArray w fun e w' => e = .returned v ∧ Kept w w') (ho : o.op = .call { callee := .value (.func F), args := xs.toArray, argTypes := ts } := by exact rfl) (hx : evs l n L pre o xs = some vs := by exact rfl) (hF : ∀ w, (callFunc F vs.toArray).run Tryz.prog w = .ok (.enter F vs.toArray) w := by intro w; kernel_rfl) (hg : gN pre o = true := by exact rfl) : Pre l n N wr H L w0 a0 (.v v :: pre) r :=
  h.snoc fun c e => eh (c.yes hg) (DA ho (Dz c hx) (hF _)) ((q c).mono fun _ _ ⟨he, hk⟩ => ⟨_, he, ysV e rfl, hk⟩) (fsV e)
theorem IY (h : Pre l n N wr H L w0 a0 pre (o :: r)) {p : Prop} {v : Value} (G : ∀ {ys a w}, Cx l n N wr H L w0 a0 pre o ys a w → (p → Region.wanted o (yielded l.toArray a.tmps) = true) ∧ (¬ p → Region.wanted o (yielded l.toArray a.tmps) = false)) (q : ∀ {ys a w}, Cx l n N wr H L w0 a0 pre o ys a w → p → ∃ F args, (execOp a.eval o).run Tryz.prog w = .ok (.enter F args) w ∧ Calls Tryz.prog F args w fun e w' => e = .returned v ∧ Kept w w') : Pre l n N wr H L w0 a0 (.i p v :: pre) r :=
  h.snoc fun {ys a w} c e => by
    by_cases hc : p
    · obtain ⟨F, args, hr, hq⟩ := q c hc
      exact eh ((G c).1 hc) hr (hq.mono fun _ _ ⟨he, hk⟩ => ⟨_, he, Gr e hc rfl, hk⟩) (BL e)
    · exact nC ((G c).2 hc) (Gs e hc) (BL e)
theorem zCi (h : Pre l n N wr H L w0 a0 pre (o :: r)) {p : Prop} {v : Value} (g : gz pre o = some p := by exact rfl) (run : ∀ {ys a w}, Cx l n N wr H L w0 a0 pre o ys a w → p → ∃ F args, (execOp a.eval o).run Tryz.prog w = .ok (.enter F args) w ∧ Calls Tryz.prog F args w fun e w' => e = .returned v ∧ Kept w w') : Pre l n N wr H L w0 a0 (.i p v :: pre) r := IY h (fun c => c.z g) run
theorem zK (h : Pre l n N wr H L w0 a0 pre (o :: r)) {v : Value} (q : ∀ {ys a w}, Cx l n N wr H L w0 a0 pre o ys a w → ∃ F args, (execOp a.eval o).run Tryz.prog w = .ok (.enter F args) w ∧ Calls Tryz.prog F args w fun e w' => e = .returned v ∧ Kept w w') (hg : gN pre o = true := by exact rfl) : Pre l n N wr H L w0 a0 (.v v :: pre) r :=
  h.snoc fun c e => by
    obtain ⟨F, args, hr, hq⟩ := q c; exact eh (c.yes hg) hr (hq.mono fun _ _ ⟨he, hk⟩ => ⟨_, he, ysV e rfl, hk⟩) (fsV e)
theorem zX (h : Pre l n N wr H L w0 a0 pre (o :: r)) {p : Value → World → Prop} {k : ∀ v w w', p v w → Kept w w' → p v w'} (q : ∀ {ys a w}, Cx l n N wr H L w0 a0 pre o ys a w → ∃ F args, (execOp a.eval o).run Tryz.prog w = .ok (.enter F args) w ∧ Calls Tryz.prog F args w fun e w' => ∃ v, e = .returned v ∧ p v w' ∧ Kept w w') (hg : gN pre o = true := by exact rfl) : Pre l n N wr H L w0 a0 (.y (yP p k) :: pre) r :=
  h.snoc fun c e => by
    obtain ⟨F, args, hr, hq⟩ := q c; exact eh (c.yes hg) hr (hq.mono fun _ _ ⟨v, he, hp, hk⟩ => ⟨v, he, by unfold Ys; rw [e]; exact hp, hk⟩) (by unfold Fs; rw [e]; rfl)
theorem Cx.yy {ys : List Yield} {a : Act} {w : World} (c : Cx l n N wr H L w0 a0 pre o ys a w) {t : Nat} {p : Value → World → Prop} {k : ∀ v w w', p v w → Kept w w' → p v w'} (h : fyY l n o t pre = some (.y (yP p k)) := by exact rfl) : p (a.eval (.tmp t)) w := Dy (q := .y (yP p k)) c.x c.d h
theorem cvt {a : Act} {w : World} {x y : Value} (h : (execOp a.eval o).run Tryz.prog w = .ok (.value x) w) (e : x = y) : (execOp a.eval o).run Tryz.prog w = .ok (.value y) w := e ▸ h
theorem zNp (h : Pre l n N wr H L w0 a0 pre (o :: r)) {b : Obj} (run : ∀ {ys a w}, Cx l n N wr H L w0 a0 pre o ys a w → (execOp a.eval o).run Tryz.prog w = .ok (.value (.pointer (some ⟨w.heap.size, 0, none⟩))) (w.alloc b)) (hg : gN pre o = true := by exact rfl) : Pre l n N wr H L w0 a0 (.p b :: pre) r :=
  h.snoc fun c e => lU _ (c.yes hg) (run c) (by unfold Ys; rw [e]; exact ⟨_, rfl, c.k.size, Go.heap_alloc_new _ _⟩) ((Kept.refl _).alloc _) rfl (Nat.le_refl _)
theorem zNl (h : Pre l n N wr H L w0 a0 pre (o :: r)) {b : Obj} {m : Nat} (run : ∀ {ys a w}, Cx l n N wr H L w0 a0 pre o ys a w → (execOp a.eval o).run Tryz.prog w = .ok (.value (.slice (some ⟨w.heap.size, 0, none⟩) m m)) (w.alloc b)) (hg : gN pre o = true := by exact rfl) : Pre l n N wr H L w0 a0 (.l m b :: pre) r :=
  h.snoc fun c e => lU _ (c.yes hg) (run c) (by unfold Ys; rw [e]; exact ⟨_, rfl, c.k.size, Go.heap_alloc_new _ _⟩) ((Kept.refl _).alloc _) rfl (Nat.le_refl _)
theorem zV (h : Pre l n N wr H L w0 a0 pre (o :: r)) (b : Obj) (ho : o.op = .alloc T := by exact rfl) (hb : ∀ w : World, (Instr.alloc T true (.tuple #[])).run Tryz.prog w = .ok (.pointer (some ⟨w.heap.size, 0, none⟩)) (w.alloc b) := by intro w; kernel_rfl) (hg : gN pre o = true := by exact rfl) : Pre l n N wr H L w0 a0 (.p b :: pre) r := zNp h (fun c => dv ho (hb _)) hg
theorem zB (h : Pre l n N wr H L w0 a0 pre (o :: r)) (b : Obj) (ho : o.op = .box T x := by exact rfl) (hx : ev l n L pre o x = some u := by exact rfl) (hb : ∀ w : World, (Instr.box T u).run Tryz.prog w = .ok (.pointer (some ⟨w.heap.size, 0, none⟩)) (w.alloc b) := by intro w; kernel_rfl) (hg : gN pre o = true := by exact rfl) : Pre l n N wr H L w0 a0 (.p b :: pre) r := zNp h (fun c => I3 ho (c.e hx) (hb _)) hg
/-! under a condition: operands whose condition follows -/
def fyA (l : List Oper) (n : Nat) (o : Oper) (t : Nat) (pre : List Yd) : Option Value := match yt l n pre t with
  | some (j, .v x) => (match Et o j with
    | true => some x
    | false => none)
  | some (j, .i _ x) => (match Et o j with
    | true => some x
    | false => none)
  | _ => none
def evi (l : List Oper) (n : Nat) (L : List (Nat × Value)) (pre : List Yd) (o : Oper) : Operand → Option Value
  | .const v => some v
  | .func f => some (.func (.func f) #[] #[])
  | .tmp t => match wrt t (l.take n) with
    | true => fyA l n o t pre
    | false => lk L t
  | .global _ => none
def cnd (l : List Oper) (n t : Nat) (pre : List Yd) : Option Prop := match yt l n pre t with
  | some (_, .i c _) => some c
  | _ => none
def cnO (l : List Oper) (n : Nat) (pre : List Yd) : Operand → Option Prop
  | .tmp t => cnd l n t pre
  | _ => none
def nd (l : List Oper) (n : Nat) (pre : List Yd) (q : Prop) : List Operand → Prop
  | [] => True
  | x :: r => match cnO l n pre x with
    | none => nd l n pre q r
    | some c => (q → c) ∧ nd l n pre q r
theorem nd0 {q : Prop} : nd l n pre q [] := trivial
theorem nd1 {q : Prop} {x : Operand} {r : List Operand} (h : cnO l n pre x = none) (k : nd l n pre q r) : nd l n pre q (x :: r) := by unfold nd; rw [h]; exact k
theorem nd2 {q c : Prop} {x : Operand} {r : List Operand} (h : cnO l n pre x = some c) (i : q → c) (k : nd l n pre q r) : nd l n pre q (x :: r) := by unfold nd; rw [h]; exact ⟨i, k⟩
theorem kM {q : Prop} : ∀ {xs : List Operand}, nd l n pre q xs → ∀ x ∈ xs, ∀ c, cnO l n pre x = some c → q → c
  | [], _, x, hx, _, _ => by cases hx
  | y :: r, h, x, hx, c, hc => by
    unfold nd at h; rcases List.mem_cons.1 hx with rfl | hx
    · rw [hc] at h; exact h.1
    · split at h
      · exact kM h x hx c hc
      · exact kM h.2 x hx c hc
theorem Gw {ys : List Yield} {a : Act} {w : World} {q : Prop} (hq : q) {t : Nat} {v : Value} (x : Ext w0.heap.size pre ys) (d : iu l.toArray ys o a w) (hc : ∀ c, cnd l n t pre = some c → q → c) (h : fyA l n o t pre = some v) : a.eval (.tmp t) = v := by
  unfold fyA at h; unfold cnd at hc
  split at h
  · rename_i j z hz
    obtain ⟨h1, h2⟩ := yD hz x
    split at h
    · rename_i ha; cases h; exact dep d j ha h1 h2
    · cases h
  · rename_i j c z hz
    obtain ⟨h1, h2⟩ := yD hz x; rw [hz] at hc
    split at h
    · rename_i ha; cases h; exact (gI h2).symm.trans ((ysI h1 (vK d j ha)).1 (hc c rfl hq))
    · cases h
  · cases h
theorem Cx.ei {ys : List Yield} {a : Act} {w : World} (c : Cx l n N wr H L w0 a0 pre o ys a w) {q : Prop} (hq : q) {x : Operand} {v : Value} (hc : ∀ c, cnO l n pre x = some c → q → c) (h : evi l n L pre o x = some v) : a.eval x = v := by
  cases x with
  | const u => cases h; rfl
  | func f => cases h; rfl
  | global g => cases h
  | tmp t =>
    unfold evi at h
    simp only at h
    split at h
    · exact Gw hq c.x c.d hc h
    · rename_i hw; exact c.b.get t (ko hw) (c.sg.g t h)
def opx : Op → List Operand
  | .move x => [x]
  | .assign x => [x]
  | .unOp _ _ x => [x]
  | .binOp _ _ x y _ => [x, y]
  | .extract x _ => [x]
  | .load _ x => [x]
  | .fieldAddr _ x _ => [x]
  | .call c => c.args.toList
  | _ => []
theorem Gx {a : Act} {w : World} {e : Operand → Option Value} {v : Value} (he : ∀ x ∈ opx o.op, ∀ u, e x = some u → a.eval x = u) (h : pv e o.op = some v) : (execOp a.eval o).run Tryz.prog w = .ok (.value v) w := by
  generalize ho : o.op = op at h he; unfold pv at h
  split at h
  · exact fs ho (he _ (by simp [opx]) v h)
  · exact iR ho (he _ (by simp [opx]) v h)
  · obtain ⟨u, hu, hn⟩ := Option.bind_eq_some_iff.1 h
    unfold Iy at hn
    split at hn <;> cases hn
    exact F3 ho (he _ (by simp [opx]) _ hu)
  · obtain ⟨u, hu, h⟩ := Option.bind_eq_some_iff.1 h
    obtain ⟨z, hz, h⟩ := Option.bind_eq_some_iff.1 h; exact yE ho (he _ (by simp [opx]) _ hu) (he _ (by simp [opx]) _ hz) h
  · obtain ⟨u, hu, hn⟩ := Option.bind_eq_some_iff.1 h
    unfold IA at hn
    split at hn
    · exact tW ho (he _ (by simp [opx]) _ hu) (by rw [oH, Array.getElem?_toList] at hn; unfold Instr.extract; simp only [hn]; rfl)
    · cases hn
  · cases h
theorem zPi (h : Pre l n N wr H L w0 a0 pre (o :: r)) {q : Prop} {xs : List Operand} (g : gz pre o = some q := by exact rfl) (hx : opx o.op = xs := by exact rfl) (c : nd l n pre q xs := by repeat (first | exact nd0 | refine nd1 rfl ?_ | refine nd2 rfl (by first | exact fun h => h | exact fun h => h.1 | exact fun h => h.1.1 | exact fun h => h.1.1.1 | exact fun h => h.1.1.1.1) ?_)) (e : pv (evi l n L pre o) o.op = some v := by exact rfl) : Pre l n N wr H L w0 a0 (.i q v :: pre) r :=
  zi0 h (fun c => c.z g) (fun k hq => Gx (fun x hm u hu => k.ei hq (fun d hd => kM c x (hx ▸ hm) d hd) hu) e)
theorem zLi (h : Pre l n N wr H L w0 a0 pre (o :: r)) (k : Nat) {q : Prop} (ho : o.op = .load T x := by exact rfl) (g1 : gz pre o = some q := by exact rfl) (c : nd l n pre q [x] := by repeat (first | exact nd0 | refine nd1 rfl ?_ | refine nd2 rfl (by first | exact fun h => h | exact fun h => h.1 | exact fun h => h.1.1 | exact fun h => h.1.1.1 | exact fun h => h.1.1.1.1) ?_)) (hx : evi l n L pre o x = some (.pointer (some ⟨g, off, none⟩)) := by exact rfl) (hb : H[k]? = some (Th.obj g (.cells cs T2 (0, 0))) := by exact rfl) (hc : F4 cs.toList off = some v := by exact rfl) (ha : ∀ w, (isAgg T).run Tryz.prog w = .ok false w := by intro w; kernel_rfl) : Pre l n N wr H L w0 a0 (.i q v :: pre) r :=
  zi0 h (fun c => c.z g1) (fun d hq => dY ho (ha _) (d.ei hq (fun z hz => kM c x (by simp) z hz) hx) (d.ow.box k hb) (by rw [← Array.getElem?_toList, ← oH]; exact hc))
theorem zAi (h : Pre l n N wr H L w0 a0 pre (o :: r)) (v : Value) (m k : Nat) {q : Prop} (ho : o.op = .load T x := by exact rfl) (g1 : gz pre o = some q := by exact rfl) (c : nd l n pre q [x] := by repeat (first | exact nd0 | refine nd1 rfl ?_ | refine nd2 rfl (by first | exact fun h => h | exact fun h => h.1 | exact fun h => h.1.1 | exact fun h => h.1.1.1 | exact fun h => h.1.1.1.1) ?_)) (hx : evi l n L pre o x = some (.pointer (some ⟨g, off, none⟩)) := by exact rfl) (hb : H[k]? = some (Th.obj g (.cells cs T2 (0, 0))) := by exact rfl) (hl : off + m ≤ cs.size := by exact Nat.le_of_ble_eq_true rfl) (hv : v = .agg ((cs.toList.drop off).take m).toArray := by exact rfl) (ha : ∀ w, (isAgg T).run Tryz.prog w = .ok true w := by intro w; kernel_rfl) (hs : ∀ w, (sizeOf T).run Tryz.prog w = .ok m w := by intro w; kernel_rfl) : Pre l n N wr H L w0 a0 (.i q v :: pre) r :=
  zi0 h (fun c => c.z g1) (fun d hq => by rw [hv]; exact nF m ho (ha _) (hs _) (d.ei hq (fun z hz => kM c x (by simp) z hz) hx) (d.ow.box k hb) hl rfl)
theorem zFi (h : Pre l n N wr H L w0 a0 pre (o :: r)) (p : Nat) {q : Prop} {i : Nat} (ho : o.op = .fieldAddr T x i := by exact rfl) (g1 : gz pre o = some q := by exact rfl) (c : nd l n pre q [x] := by repeat (first | exact nd0 | refine nd1 rfl ?_ | refine nd2 rfl (by first | exact fun h => h | exact fun h => h.1 | exact fun h => h.1.1 | exact fun h => h.1.1.1 | exact fun h => h.1.1.1.1) ?_)) (hx : evi l n L pre o x = some (.pointer (some ⟨g, off, none⟩)) := by exact rfl) (hf : ∀ w, (Instr.fieldAt T (.pointer (some ⟨g, off, none⟩)) i).run Tryz.prog w = .ok (.pointer (some ⟨g, p, none⟩)) w := by intro w; kernel_rfl) : Pre l n N wr H L w0 a0 (.i q (.pointer (some ⟨g, p, none⟩)) :: pre) r :=
  zi0 h (fun c => c.z g1) (fun d hq => aE ho (d.ei hq (fun z hz => kM c x (by simp) z hz) hx) (hf _))
theorem zNi (h : Pre l n N wr H L w0 a0 pre (o :: r)) {q : Prop} {e : TypeId} {A : Option Addr} {m cap : Nat} (ho : o.op = .call { callee := .builtin .len, args := #[x], argTypes := #[T] } := by exact rfl) (g1 : gz pre o = some q := by exact rfl) (c : nd l n pre q [x] := by repeat (first | exact nd0 | refine nd1 rfl ?_ | refine nd2 rfl (by first | exact fun h => h | exact fun h => h.1 | exact fun h => h.1.1 | exact fun h => h.1.1.1 | exact fun h => h.1.1.1.1) ?_)) (hx : evi l n L pre o x = some (.slice A m cap) := by exact rfl) (hu : Tryz.prog.underlying T = some (.slice e) := by exact rfl) : Pre l n N wr H L w0 a0 (.i q (.int .i64 m) :: pre) r :=
  zi0 h (fun c => c.z g1) (fun d hq => IU hu ho (d.ei hq (fun z hz => kM c x (by simp) z hz) hx))
def H0 (l : List Oper) (n : Nat) (L : List (Nat × Value)) (pre : List Yd) (o : Oper) : List Operand → Option (List Value)
  | [] => some []
  | x :: r => match evi l n L pre o x with
    | none => none
    | some v => match H0 l n L pre o r with
      | none => none
      | some vs => some (v :: vs)
theorem yF {ys : List Yield} {a : Act} {w : World} (c : Cx l n N wr H L w0 a0 pre o ys a w) {q : Prop} (hq : q) : ∀ {xs : List Operand} {vs : List Value}, (∀ x ∈ xs, ∀ d, cnO l n pre x = some d → q → d) → H0 l n L pre o xs = some vs → xs.map a.eval = vs
  | [], vs, _, h => by cases h; rfl
  | x :: xs, vs, hd, h => by
    unfold H0 at h
    split at h
    · cases h
    · rename_i v hv
      split at h
      · cases h
      · rename_i us hu
        cases h
        rw [List.map_cons, c.ei hq (hd x List.mem_cons_self) hv, yF c hq (fun y hy => hd y (List.mem_cons_of_mem _ hy)) hu]
theorem zCI (h : Pre l n N wr H L w0 a0 pre (o :: r)) {F : FuncId} {xs : List Operand} {ts : Array TypeId} {vs : List Value} {v : Value} {p : Prop} (q : ∀ {ys a w}, Cx l n N wr H L w0 a0 pre o ys a w → Calls Tryz.prog F vs.toArray w fun e w' => e = .returned v ∧ Kept w w') (ho : o.op = .call { callee := .value (.func F), args := xs.toArray, argTypes := ts } := by exact rfl) (g1 : gz pre o = some p := by exact rfl) (c : nd l n pre p xs := by repeat (first | exact nd0 | refine nd1 rfl ?_ | refine nd2 rfl (by first | exact fun h => h | exact fun h => h.1 | exact fun h => h.1.1 | exact fun h => h.1.1.1 | exact fun h => h.1.1.1.1) ?_)) (hx : H0 l n L pre o xs = some vs := by exact rfl) (hF : ∀ w, (callFunc F vs.toArray).run Tryz.prog w = .ok (.enter F vs.toArray) w := by intro w; kernel_rfl) : Pre l n N wr H L w0 a0 (.i p v :: pre) r :=
  IY h (fun c => c.z g1) fun d hq => ⟨F, vs.toArray, DA ho (yF d hq (fun x hm e he => kM c x hm e he) hx) (hF _), q d⟩
end
/-! regions -/
def vX (ops : List Oper) : List (Nat × Value) → List (Nat × Value) → (List (Nat × Value) → Prop) → Prop
  | [], acc, K => K acc
  | (t, v) :: r, acc, K => match wrt t ops with
    | true => vX ops r acc K
    | false => vX ops r ((t, v) :: acc) K
def qt (K : List Th → List (Nat × Value) → Prop) : List Oper → List Yd → List Th → List (Nat × Value) → Prop
  | o :: r, y :: ys, H, L => match o.dst with
    | none => qt K r ys H L
    | some t => (match y with
      | .v x => qt K r ys H ((t, x) :: L)
      | .p b => ∀ g, qt K r ys (Th.obj g b :: H) ((t, .pointer (some ⟨g, 0, none⟩)) :: L)
      | .l m b => ∀ g, qt K r ys (Th.obj g b :: H) ((t, .slice (some ⟨g, 0, none⟩) m m) :: L)
      | _ => qt K r ys H L)
  | _, _, H, L => K H L
theorem sE {ops : List Oper} {K : List (Nat × Value) → Prop} {a : Act} : ∀ {M acc : List (Nat × Value)} (hM : ∀ t v, (t, v) ∈ M → wrt t ops = false → a.eval (.tmp t) = v) (hA : ∀ p ∈ acc, a.eval (.tmp p.1) = p.2), vX ops M acc K → ∃ L', (∀ p ∈ L', a.eval (.tmp p.1) = p.2) ∧ K L'
  | [], acc, _, hA, h => ⟨acc, hA, h⟩
  | (t, v) :: r, acc, hM, hA, h => by
    unfold vX at h
    split at h
    · exact sE (fun t v hp => hM t v (List.mem_cons_of_mem _ hp)) hA h
    · rename_i hw
      refine sE (fun t v hp => hM t v (List.mem_cons_of_mem _ hp)) (fun p hp => ?_) h; rcases List.mem_cons.1 hp with rfl | hp
      · exact hM _ _ List.mem_cons_self hw
      · exact hA p hp
section
variable {l : List Oper} {n N : Nat} {wr : World} {H : List Th} {L : List (Nat × Value)} {w0 : World} {a0 : Act} {pre : List Yd}
theorem ug (B : Nat) : ∀ (pre : List Yd) (more : List Yield), Ext B pre (pre.reverse.map (Yd.den B) ++ more)
  | [], _ => trivial
  | y :: p, more => by
    refine ⟨?_, ?_⟩
    · rw [List.reverse_cons, List.map_append, List.append_assoc, List.getElem?_append_right (by simp)]
      simp
    · rw [List.reverse_cons, List.map_append, List.append_assoc]
      exact ug B p _
theorem iU {K : List Th → List (Nat × Value) → Prop} {ys : List Yield} {a : Act} {w : World} (s : Own wr H w0) (k : Kept w0 w) (ap : ∀ j k, j < n → k < n → j ≠ k → Fs ys j = true → Fs ys k = true → eP (At l.toArray a j) ≠ eP (At l.toArray a k)) :
    ∀ (r : List Oper) (zs : List Yd) (i : Nat) (Hi : List Th) (Li : List (Nat × Value)), (∀ j o, r[j]? = some o → l[i + j]? = some o ∧ i + j < n) → (∀ j z, zs[j]? = some z → ys[i + j]? = some (z.den w0.heap.size)) → (∀ j, j < n → Ys ys j (At l.toArray a j) w) → Own wr Hi w → (∀ p ∈ Li, a.eval (.tmp p.1) = p.2) → (∀ t ∈ Hi, t ∈ H ∨ ∃ j, j < i ∧ j < n ∧ Fs ys j = true ∧ t.blk = eP (At l.toArray a j)) → qt K r zs Hi Li → ∃ H' L', Own wr H' w ∧ (∀ p ∈ L', a.eval (.tmp p.1) = p.2) ∧ K H' L'
  | [], _, _, Hi, Li, _, _, _, ho, hl, _, h => ⟨Hi, Li, ho, hl, h⟩
  | _ :: _, [], _, Hi, Li, _, _, _, ho, hl, _, h => ⟨Hi, Li, ho, hl, h⟩
  | o :: r, y :: zs, i, Hi, Li, hr, hz, hv, ho, hl, hb, h => by
    have hr' : ∀ j q, r[j]? = some q → l[i + 1 + j]? = some q ∧ i + 1 + j < n := fun j q hq => by rw [Nat.add_right_comm, Nat.add_assoc]; exact hr (j + 1) q (by simpa using hq)
    have hz' : ∀ j z, zs[j]? = some z → ys[i + 1 + j]? = some (z.den w0.heap.size) := fun j z hq => by rw [Nat.add_right_comm, Nat.add_assoc]; exact hz (j + 1) z (by simpa using hq)
    have hb' : ∀ t ∈ Hi, t ∈ H ∨ ∃ j, j < i + 1 ∧ j < n ∧ Fs ys j = true ∧ t.blk = eP (At l.toArray a j) := fun t ht => (hb t ht).imp id fun ⟨j, h1, h2⟩ => ⟨j, Nat.lt_succ_of_lt h1, h2⟩; obtain ⟨hli, hin⟩ := hr 0 o rfl; rw [Nat.add_zero] at hli hin; have hyi := hz 0 y rfl; rw [Nat.add_zero] at hyi; have hvi := hv i hin; have at_ : ∀ t, o.dst = some t → At l.toArray a i = a.eval (.tmp t) := fun t ht => gI (by rw [List.getElem?_toArray, hli]; exact ht); unfold qt at h
    split at h
    · exact iU s k ap r zs (i + 1) Hi Li hr' hz' hv ho hl hb' h
    · rename_i t ht
      have atT := at_ t ht
      have new : ∀ (g : Nat) (b : Obj) (x : Value), Fs ys i = true → At l.toArray a i = x → eP x = some g → w0.heap.size ≤ g → w.heap[g]? = some b → qt K r zs (Th.obj g b :: Hi) ((t, x) :: Li) → ∃ H' L', Own wr H' w ∧ (∀ p ∈ L', a.eval (.tmp p.1) = p.2) ∧ K H' L' := fun g b x hF hx hg h1 h2 h3 => by
        refine iU s k ap r zs (i + 1) (Th.obj g b :: Hi) ((t, x) :: Li) hr' hz' hv (ho.cons h2 (Nat.le_trans s.kept.size h1) fun t' ht' e => ?_) (fun p hp => ?_) (fun t' ht' => ?_) h3
        · rcases hb t' ht' with c | ⟨j, j1, j2, j3, j4⟩
          · exact s.below h1 t' c e
          · refine ap j i j2 hin (Nat.ne_of_lt j1) j3 hF ?_
            rw [← j4, e, hx, hg]
        · rcases List.mem_cons.1 hp with rfl | hp
          · exact atT.symm.trans hx
          · exact hl p hp
        · rcases List.mem_cons.1 ht' with rfl | ht'
          · exact Or.inr ⟨i, Nat.lt_succ_self i, hin, hF, by rw [hx, hg]; rfl⟩
          · exact hb' t' ht'
      cases y with
      | v x =>
        refine iU s k ap r zs (i + 1) Hi ((t, x) :: Li) hr' hz' hv ho (fun p hp => ?_) hb' h; rcases List.mem_cons.1 hp with rfl | hp
        · exact atT.symm.trans (iT hvi hyi)
        · exact hl p hp
      | p b =>
        obtain ⟨g, e, h1, h2⟩ : ∃ g, At l.toArray a i = .pointer (some ⟨g, 0, none⟩) ∧ w0.heap.size ≤ g ∧ w.heap[g]? = some b := by
          unfold Ys at hvi; rw [hyi] at hvi; exact hvi
        exact new g b _ (by unfold Fs; rw [hyi]; rfl) e rfl h1 h2 (h g)
      | l m b =>
        obtain ⟨g, e, h1, h2⟩ : ∃ g, At l.toArray a i = .slice (some ⟨g, 0, none⟩) m m ∧ w0.heap.size ≤ g ∧ w.heap[g]? = some b := by
          unfold Ys at hvi; rw [hyi] at hvi; exact hvi
        exact new g b _ (by unfold Fs; rw [hyi]; rfl) e rfl h1 h2 (h g)
      | i c x => exact iU s k ap r zs (i + 1) Hi Li hr' hz' hv ho hl hb' h
      | u => exact iU s k ap r zs (i + 1) Hi Li hr' hz' hv ho hl hb' h
      | y q => exact iU s k ap r zs (i + 1) Hi Li hr' hz' hv ho hl hb' h
theorem Jl {id : Nat} {draw : Bool} {Q : Exit → Act → World → Prop} (s : Sg N wr H L a0 w0) (h : Pre l n N wr H L w0 a0 pre (l.take n |>.drop pre.length)) (hp : (l.take n).drop pre.length = []) (fin : vX (l.take n) L [] fun L1 => qt (fun H' L' => ∀ a w, Sg N wr H' L' a w → wpList Tryz.prog l.toArray Q (l.drop n) a w) (l.take n) pre.reverse H L1) (hB : eO l.toArray n N = true) (hT : (!draw || mV l.toArray n) = true) : (Code.region id l.toArray draw).wp Tryz.prog Q a0 w0 := by
  have ex := ug w0.heap.size pre []; rw [List.append_nil] at ex; refine rgn (pre.reverse.map (Yd.den w0.heap.size)) n N s.z hB hT ?_ fun a w hk bs hv ap => ?_
  · have key : ∀ (r : List Oper) (i : Nat), (∀ j o, r[j]? = some o → l[i + j]? = some o ∧ i + j < pre.length) → Arms Tryz.prog l.toArray n (pre.reverse.map (Yd.den w0.heap.size)) w0 a0 i r := by
      intro r
      induction r with
      | nil => intro i _; exact Iq
      | cons o r ih =>
        intro i hr; obtain ⟨h1, h2⟩ := hr 0 o rfl; refine arm (fun a w k b d => h.2 _ ex i o h2 h1 a w s k b d) (ih (i + 1) fun j q hq => ?_); rw [Nat.add_right_comm, Nat.add_assoc]; exact hr (j + 1) q (by simpa using hq)
    refine key _ 0 fun j o hj => ?_
    have hjn : j < n := by
      rcases Nat.lt_or_ge j n with c | c
      · exact c
      · rw [List.getElem?_eq_none (by rw [List.length_take]; omega)] at hj; cases hj
    rw [List.getElem?_take_of_lt hjn] at hj; rw [Nat.zero_add]; refine ⟨hj, ?_⟩; have := congrArg List.length hp; have hl := (List.getElem?_eq_some_iff.1 hj).1
    simp only [List.length_drop, List.length_take, List.length_nil] at this
    omega
  · obtain ⟨L1, hL1, h1⟩ := sE (a := a) (fun t v hm hw => (bs.same t (ko hw)).trans (s.s _ hm)) (fun p hp => by cases hp) fin
    have q1 : ∀ j o, (l.take n)[j]? = some o → l[0 + j]? = some o ∧ 0 + j < n := fun j o hj => by
      have hjn : j < n := by
        rcases Nat.lt_or_ge j n with c | c
        · exact c
        · rw [List.getElem?_eq_none (by rw [List.length_take]; omega)] at hj; cases hj
      rw [List.getElem?_take_of_lt hjn] at hj; rw [Nat.zero_add]; exact ⟨hj, hjn⟩
    have q2 : ∀ j z, pre.reverse[j]? = some z → (pre.reverse.map (Yd.den w0.heap.size))[0 + j]? = some (z.den w0.heap.size) := fun j z hj => by
      rw [Nat.zero_add, List.getElem?_map, hj]; rfl
    obtain ⟨H', L', ho, hl, h2⟩ := iU s.o hk ap (l.take n) pre.reverse 0 H L1 q1 q2 hv (s.o.keep hk) hL1 (fun t ht => Or.inl ht) h1; exact h2 a w ⟨bs.size.trans s.z, bs.defers.trans s.q, ho, hl⟩
end
