/- Small texts together: MRef14, MFtext, SX7, GPlain14, SX9. -/
import Derived.Test.YtbpkfnoenkoabaaDoorYaMText14
import Derived.Test.YtbpkfnoenkoabaaDoorYaSX6
import Derived.LoopN
import Derived.Test.YtbpkfnoenkoabaaDoorYaGAwake14
import Derived.Test.YtbpkfnoenkoabaaDoorYaBunW
import Derived.Test.YtbpkfnoenkoabaaDoorYaMixAI
set_option linter.unusedVariables false
set_option linter.unusedSimpArgs false
namespace Go.Proofs.YtbpkfnoenkoabaaDoor.Lv
open Go
theorem occ_drop (t s : List UInt8) (a i : Nat) : Lib.occAt (t.drop a) s i = Lib.occAt t s (a + i) := by unfold Lib.occAt; rw [List.drop_drop]
def NoHit (s t : List UInt8) (a k : Nat) : Prop := ∀ j, a ≤ j → j < k → Lib.occAt t s j = false
theorem occ_piece {s t : List UInt8} {k : Nat} (h1 : 1 ≤ k) (hr : k + s.length ≤ t.length + 1) : Lib.occAt t s (k - 1) = decide ((t.take (k - 1 + s.length)).drop (k - 1) = s) := by
  rw [Lib.occAt_iff_take t s (k - 1) (by omega), List.drop_take, Nat.add_sub_cancel_left]
  by_cases h : (t.drop (k - 1)).take s.length = s
  · rw [h]; simp
  · rw [decide_eq_false h]; exact beq_eq_false_iff_ne.2 h
theorem rfind_hit {s t : List UInt8} {m : Int} {k : Nat} (h1 : 1 ≤ m) (hk : m.toNat ≤ k) (hr : k + s.length ≤ t.length + 1) (he : (t.take (k - 1 + s.length)).drop (k - 1) = s) (hn : NoHit s t (m.toNat - 1) (k - 1)) : vMake ((k : Int) * 10000) = find14 s t m := by
  have e : Lib.index (t.drop (m - 1).toNat) s = ((k - m.toNat : Nat) : Int) := by
    refine Lib.index_first (by rw [List.length_drop]; omega) ?_ (fun j hj => ?_)
    · rw [occ_drop, show (m - 1).toNat + (k - m.toNat) = k - 1 by omega, occ_piece (by omega) hr]
      exact decide_eq_true he
    · rw [occ_drop]; exact hn _ (by omega) (by omega)
  unfold find14; rw [if_neg (by omega), e, if_neg (by omega)]
  congr 1
  omega
theorem rfind_end {s t : List UInt8} {m : Int} {k : Nat} (h1 : 1 ≤ m) (hk : m.toNat ≤ k) (hr : t.length + 1 < k + s.length) (hn : NoHit s t (m.toNat - 1) (k - 1)) : vFail 2 = find14 s t m := by
  unfold find14
  by_cases c : (t.length : Int) + 1 < m
  · rw [if_pos (Or.inr c)]
  · rw [if_neg (by omega), if_pos]
    rw [Lib.index_none (fun j hj => ?_)]
    · omega
    · rw [List.length_drop] at hj
      rw [occ_drop]
      by_cases d : (m - 1).toNat + j < k - 1
      · exact hn _ (by omega) d
      · cases h : Lib.occAt t s ((m - 1).toNat + j) with
        | false => rfl
        | true =>
          rcases Lib.occAt_room h with r | r
          · omega
          · subst r; simp only [List.length_nil] at hr; omega
theorem flat_len (s : List UInt8) (n : Nat) : (List.replicate n s).flatten.length = n * s.length := by simp
end Go.Proofs.YtbpkfnoenkoabaaDoor.Lv

namespace Go.Proofs.YtbpkfnoenkoabaaDoor.Lv
open Go
abbrev T_ (s : List UInt8) : Vl := ⟨3, 0, s⟩
abbrev N_ (n : Int) : Vl := ⟨1, n * 10000, []⟩
def Okay (s : List UInt8) : Prop := s.length ≤ 256 ∧ plain s = true
theorem ok_T {s : List UInt8} (h : Okay s) : vOk (T_ s) = true := by
  rw [ok3]; simp [okT, h.1, h.2]
theorem ok_N {n : Int} (h : -900000000000000 ≤ n ∧ n ≤ 900000000000000) : vOk (N_ n) = true := by
  rw [ok1, decide_eq_true_eq]; exact ⟨rfl, by omega⟩
theorem txt_T {s : List UInt8} (h : Okay s) : vTxt (T_ s) = T_ s := txt_stay (ok_T h) (Or.inl rfl)
theorem num_N {n : Int} (h : -900000000000000 ≤ n ∧ n ≤ 900000000000000) : vNum (N_ n) = N_ n := num_stay (ok_N h) (Or.inl rfl)
theorem tdiv_N (n : Int) : Int.tdiv (n * 10000) 10000 = n := Int.mul_tdiv_cancel _ (by decide)
theorem text_T {s : List UInt8} (h : s.length ≤ 256) : vText s = T_ s := by unfold vText; rw [if_neg (by omega)]
theorem Okay.take {s : List UInt8} (h : Okay s) (k : Nat) : Okay (s.take k) := ⟨by rw [List.length_take]; have := h.1; omega, by
  have := h.2; unfold plain at this ⊢; rw [List.all_eq_true] at this ⊢; exact fun c hc => this c (List.mem_of_mem_take hc)⟩
theorem Okay.drop {s : List UInt8} (h : Okay s) (k : Nat) : Okay (s.drop k) := ⟨by rw [List.length_drop]; have := h.1; omega, by
  have := h.2; unfold plain at this ⊢; rw [List.all_eq_true] at this ⊢; exact fun c hc => this c (List.mem_of_mem_drop hc)⟩
theorem Okay.append {s t : List UInt8} (h : Okay s) (g : Okay t) (hl : s.length + t.length ≤ 256) : Okay (s ++ t) := ⟨by rw [List.length_append]; exact hl, by
  have h2 := h.2; have g2 := g.2; unfold plain at h2 g2 ⊢; rw [List.all_append, h2, g2]; rfl⟩
theorem Okay.map {s : List UInt8} (h : Okay s) (f : UInt8 → UInt8) (hf : ∀ c, okB c = true → okB (f c) = true) : Okay (s.map f) := ⟨by rw [List.length_map]; exact h.1, by
  have := h.2; unfold plain at this ⊢; rw [List.all_eq_true] at this ⊢; intro c hc; obtain ⟨x, hx, rfl⟩ := List.mem_map.1 hc; exact hf x (this x hx)⟩
/-! calls -/
theorem call_T {fn : Nat} {s : List UInt8} (h : Okay s) (hf : fn = 31 ∨ fn = 35 ∨ fn = 36 ∨ fn = 37) : vCall14 fn [T_ s] = (val14 fn [s] [], 0) := by
  have o := ok_T h; have x := txt_T h; rcases hf with rfl | rfl | rfl | rfl <;> simp [vCall14, lo14, hi14, o, args14, arg14, txt14, txts14, nums14, x, firstE, isE]
theorem call_TN {fn : Nat} {s : List UInt8} {n : Int} (h : Okay s) (hn : -900000000000000 ≤ n ∧ n ≤ 900000000000000) (hf : fn = 32 ∨ fn = 33 ∨ fn = 39) : vCall14 fn [T_ s, N_ n] = (val14 fn [s] [n], 0) := by
  have o := ok_T h; have x := txt_T h; have o2 := ok_N hn; have x2 := num_N hn; have d := tdiv_N n; rcases hf with rfl | rfl | rfl <;> simp [vCall14, lo14, hi14, o, o2, args14, arg14, txt14, txts14, nums14, x, x2, firstE, isE, d]
theorem call_TNN {s : List UInt8} {m n : Int} (h : Okay s) (hm : -900000000000000 ≤ m ∧ m ≤ 900000000000000) (hn : -900000000000000 ≤ n ∧ n ≤ 900000000000000) : vCall14 34 [T_ s, N_ m, N_ n] = (mid14 s m n, 0) := by
  have o := ok_T h; have x := txt_T h; have o1 := ok_N hm; have x1 := num_N hm; have o2 := ok_N hn; have x2 := num_N hn; have d1 := tdiv_N m; have d := tdiv_N n
  simp [vCall14, lo14, hi14, o, o1, o2, args14, arg14, txt14, txts14, nums14, x, x1, x2, firstE, isE, d, d1, val14]
theorem call_TT {fn : Nat} {s t : List UInt8} (h : Okay s) (g : Okay t) (hf : fn = 38 ∨ fn = 40 ∨ fn = 41) : vCall14 fn [T_ s, T_ t] = (val14 fn [s, t] [], 0) := by
  have o := ok_T h; have x := txt_T h; have o2 := ok_T g; have x2 := txt_T g; rcases hf with rfl | rfl | rfl <;> simp [vCall14, lo14, hi14, o, o2, args14, arg14, txt14, txts14, nums14, x, x2, firstE, isE]
theorem call_TTT {s t u : List UInt8} (h : Okay s) (g : Okay t) (k : Okay u) : vCall14 38 [T_ s, T_ t, T_ u] = (vText (s ++ (t ++ u)), 0) := by
  have o := ok_T h; have x := txt_T h; have o2 := ok_T g; have x2 := txt_T g; have o3 := ok_T k; have x3 := txt_T k
  simp [vCall14, lo14, hi14, o, o2, o3, args14, arg14, txt14, txts14, nums14, x, x2, x3, firstE, isE, val14]
theorem call_TTN {s t : List UInt8} {n : Int} (h : Okay s) (g : Okay t) (hn : -900000000000000 ≤ n ∧ n ≤ 900000000000000) : vCall14 41 [T_ s, T_ t, N_ n] = (find14 s t n, 0) := by
  have o := ok_T h; have x := txt_T h; have o2 := ok_T g; have x2 := txt_T g; have o3 := ok_N hn; have x3 := num_N hn; have d := tdiv_N n
  simp [vCall14, lo14, hi14, o, o2, o3, args14, arg14, txt14, txts14, nums14, x, x2, x3, firstE, isE, val14, d, cnt14]
/-! pieces -/
theorem left_T {s : List UInt8} {n : Int} (h : Okay s) (h0 : 0 ≤ n) (h1 : n ≤ 900000000000000) : (vCall14 32 [T_ s, N_ n]).1 = T_ (s.take n.toNat) := by
  rw [call_TN h (by omega) (by omega)]; show left14 s n = _; unfold left14; rw [if_neg (by omega), text_T (h.take _).1]
theorem right_T {s : List UInt8} {n : Int} (h : Okay s) (h0 : 0 ≤ n) (h1 : n ≤ 900000000000000) : (vCall14 33 [T_ s, N_ n]).1 = T_ (s.drop (s.length - n.toNat)) := by
  rw [call_TN h (by omega) (by omega)]; show right14 s n = _; unfold right14; rw [if_neg (by omega), text_T (h.drop _).1]
theorem mid_T {s : List UInt8} {m n : Int} (h : Okay s) (h0 : 1 ≤ m) (h1 : m ≤ 900000000000000) (h2 : 0 ≤ n) (h3 : n ≤ 900000000000000) : (vCall14 34 [T_ s, N_ m, N_ n]).1 = T_ ((s.drop (m - 1).toNat).take n.toNat) := by
  rw [call_TNN h (by omega) (by omega)]; show mid14 s m n = _; unfold mid14; rw [if_neg (by omega), text_T ((h.drop _).take _).1]
theorem okB_up (c : UInt8) (h : okB c = true) : okB (upB c) = true := by
  unfold upB; unfold okB at h ⊢; rw [decide_eq_true_eq] at h ⊢
  split
  · have : (UInt8.ofNat (c.toNat - 32)).toNat = c.toNat - 32 := UInt8.toNat_ofNat_of_lt' (by have := UInt8.toNat_lt c; show _ < 256; omega)
    omega
  · exact h
theorem okB_lo (c : UInt8) (h : okB c = true) : okB (loB c) = true := by
  unfold loB; unfold okB at h ⊢; rw [decide_eq_true_eq] at h ⊢
  split
  · have : (UInt8.ofNat (c.toNat + 32)).toNat = c.toNat + 32 := UInt8.toNat_ofNat_of_lt' (by show _ < 256; omega)
    omega
  · exact h
theorem Okay.upper {s : List UInt8} (h : Okay s) : Okay (upper s) := h.map upB okB_up
theorem Okay.lower {s : List UInt8} (h : Okay s) : Okay (lower s) := h.map loB okB_lo
theorem up_T {s : List UInt8} (h : Okay s) : (vCall14 35 [T_ s]).1 = T_ (upper s) := by
  rw [call_T h (by omega)]; exact text_T h.upper.1
theorem low_T {s : List UInt8} (h : Okay s) : (vCall14 36 [T_ s]).1 = T_ (lower s) := by
  rw [call_T h (by omega)]; exact text_T h.lower.1
theorem exact_T {s t : List UInt8} (h : Okay s) (g : Okay t) : (vCall14 40 [T_ s, T_ t]).1 = vTruth (decide (s = t)) := by
  rw [call_TT h g (by omega)]; rfl
theorem take_eq_iff (s : List UInt8) (n : Nat) : s.take n = s ↔ s.length ≤ n := by
  constructor
  · intro h
    have := congrArg List.length h; rw [List.length_take] at this
    omega
  · exact List.take_of_length_le
/-! joins -/
theorem join2_T {s t : List UInt8} (h : Okay s) (g : Okay t) : (vCall14 38 [T_ s, T_ t]).1 = vText (s ++ t) := by
  rw [call_TT h g (by omega)]; show vText [s, t].flatten = _
  simp
theorem join3_T {s t u : List UInt8} (h : Okay s) (g : Okay t) (k : Okay u) : (vCall14 38 [T_ s, T_ t, T_ u]).1 = vText (s ++ (t ++ u)) := by rw [call_TTT h g k]
theorem len_T {s : List UInt8} (h : Okay s) : (vCall14 31 [T_ s]).1 = N_ s.length := by
  rw [call_T h (by omega)]; show vMake ((s.length : Int) * 10000) = _; unfold vMake; rw [if_neg (by omega)]
theorem rept_T {s : List UInt8} {n : Int} (h : Okay s) (h0 : 0 ≤ n) (h1 : n ≤ 900000000000000) : (vCall14 39 [T_ s, N_ n]).1 = vText (List.replicate n.toNat s).flatten := by
  rw [call_TN h (by omega) (by omega)]; show rept14 s n = _; unfold rept14; rw [if_neg (by omega)]
theorem Okay.rep {s : List UInt8} (h : Okay s) (n : Nat) (hl : n * s.length ≤ 256) : Okay (List.replicate n s).flatten := ⟨by rw [flat_len]; exact hl, by
  have := h.2; unfold plain at this ⊢; rw [List.all_eq_true] at this ⊢; intro c hc; obtain ⟨x, hx, hcx⟩ := List.mem_flatten.1 hc; rw [List.eq_of_mem_replicate hx] at hcx; exact this c hcx⟩
/-! finds -/
theorem find_T {s t : List UInt8} {n : Int} (h : Okay s) (g : Okay t) (hn : -900000000000000 ≤ n ∧ n ≤ 900000000000000) : (vCall14 41 [T_ s, T_ t, N_ n]).1 = find14 s t n := by rw [call_TTN h g hn]
def pieceAt (s t : List UInt8) (k : Nat) : List UInt8 := (t.take (k - 1 + s.length)).drop (k - 1)
def LeastTo (s t : List UInt8) (k first : Nat) : Prop := (first = 0 ∧ ∀ j, k < j → j + s.length ≤ t.length + 1 → ¬ pieceAt s t j = s) ∨ (k < first ∧ first + s.length ≤ t.length + 1 ∧ pieceAt s t first = s ∧ ∀ j, k < j → j < first → ¬ pieceAt s t j = s)
theorem least_start (s t : List UInt8) (k : Nat) (h : t.length + 1 ≤ k + s.length) : LeastTo s t k 0 := Or.inl ⟨rfl, fun j h1 h2 => by omega⟩
theorem least_hit {s t : List UInt8} {k first : Nat} (h1 : 1 ≤ k) (hr : k + s.length ≤ t.length + 1) (h : pieceAt s t k = s) : LeastTo s t (k - 1) k := Or.inr ⟨by omega, hr, h, fun j a b => by omega⟩
theorem least_miss {s t : List UInt8} {k first : Nat} (h1 : 1 ≤ k) (h : ¬ pieceAt s t k = s) (hl : LeastTo s t k first) : LeastTo s t (k - 1) first := by
  rcases hl with ⟨e, a⟩ | ⟨b, c, d, e⟩
  · refine Or.inl ⟨e, fun j h2 h3 => ?_⟩
    by_cases q : j = k
    · subst q; exact h
    · exact a j (by omega) h3
  · refine Or.inr ⟨by omega, c, d, fun j h2 h3 => ?_⟩
    by_cases q : j = k
    · subst q; exact h
    · exact e j (by omega) h3
theorem least_none {s t : List UInt8} {m : Int} (h1 : 1 ≤ m) (h : LeastTo s t (m.toNat - 1) 0) : find14 s t m = vFail 2 := by
  rcases h with ⟨_, a⟩ | ⟨b, _⟩
  · have key : NoHit s t (m.toNat - 1) (max m.toNat (t.length + 2) - 1) := fun j h2 h3 => by
      by_cases r : j + s.length ≤ t.length
      · have := occ_piece (s := s) (t := t) (k := j + 1) (by omega) (by omega)
        rw [show j + 1 - 1 = j by omega] at this; rw [this, decide_eq_false_iff_not]; have := a (j + 1) (by omega) (by omega); unfold pieceAt at this
        rwa [show j + 1 - 1 = j by omega] at this
      · cases c : Lib.occAt t s j with
        | false => rfl
        | true =>
          rcases Lib.occAt_room c with q | q
          · omega
          · subst q
            by_cases r2 : j ≤ t.length
            · exact absurd (by simpa using r2) r
            · omega
    exact (rfind_end h1 (by omega) (by omega) key).symm
  · omega
theorem least_some {s t : List UInt8} {m : Int} {first : Nat} (h1 : 1 ≤ m) (h0 : first ≠ 0) (h : LeastTo s t (m.toNat - 1) first) : find14 s t m = vMake ((first : Int) * 10000) := by
  rcases h with ⟨e, _⟩ | ⟨b, c, d, e⟩
  · exact absurd e h0
  · refine (rfind_hit h1 (by omega) c d (fun j h2 h3 => ?_)).symm
    have := occ_piece (s := s) (t := t) (k := j + 1) (by omega) (by omega); rw [show j + 1 - 1 = j by omega] at this; rw [this, decide_eq_false_iff_not]; have := e (j + 1) (by omega) (by omega); unfold pieceAt at this
    rwa [show j + 1 - 1 = j by omega] at this
end Go.Proofs.YtbpkfnoenkoabaaDoor.Lv

namespace Go.Proofs.YtbpkfnoenkoabaaDoor
open Go.RowKit
section
variable {a : Act} {w : World} {o : Oper}
theorem xeqB {T2 : TypeId} {x y : Operand} (ho : o.op = .binOp .eql 4 x y T2) {b d : Bool} (hx : a.eval x = .bool b) (hy : a.eval y = .bool d) : (execOp a.eval o).run Tryd.prog w = .ok (.value (.bool (b == d))) w := by
  unfold execOp; rw [ho]
  simp only [hx, hy]
  cases b <;> cases d <;> go_simp
end
end Go.Proofs.YtbpkfnoenkoabaaDoor

namespace Go.Proofs.YtbpkfnoenkoabaaDoor
open Go.RowKit Lv
set_option maxRecDepth 100000
abbrev byteV (b : UInt8) : Value := .int .u8 b.toNat
def plainC (c : UInt8) : UInt8 := UInt8.ofNat (32 + c.toNat % 95)
theorem plainC_nat (c : UInt8) : (plainC c).toNat = 32 + c.toNat % 95 := by
  have h : c.toNat % 95 < 95 := Nat.mod_lt _ (by decide); show (32 + c.toNat % 95) % 256 = _
  omega
theorem plainC_ok (c : UInt8) : okB (plainC c) = true := by
  have h : c.toNat % 95 < 95 := Nat.mod_lt _ (by decide); have e := plainC_nat c; unfold okB
  simp only [decide_eq_true_eq, Bool.and_eq_true]
  omega
theorem plain_step14 {s : List UInt8} {k : Nat} {c : UInt8} (h : s[k]? = some c) : (s.take (k + 1)).map plainC = (s.take k).map plainC ++ [plainC c] := by
  have hk : k < s.length := (List.getElem?_eq_some_iff.1 h).1; rw [List.take_succ_eq_append_getElem hk, List.map_append]; rw [List.getElem?_eq_getElem hk] at h; rw [Option.some.inj h]; rfl
theorem plain_all {s : List UInt8} {m k : Nat} (h : ¬ (k < s.length ∧ k < m)) (h1 : k ≤ s.length) (h2 : k ≤ m) : (s.take m).map plainC = (s.take k).map plainC := by
  by_cases c : k = m
  · rw [c]
  · have e : k = s.length := by omega
    rw [List.take_of_length_le (by omega), List.take_of_length_le (by omega)]
theorem ownB_of {w : World} {base : Nat} {v : Value} {l : List UInt8} (h : w.ownsRow base 5 1 v (l.map byteV).length (l.map byteV)) : OwnB w base v l := by
  rw [List.length_map] at h; exact h
theorem xindexB {a : Act} {w : World} {o : Oper} {x y : Operand} (ho : o.op = .index 9 x y) {s : List UInt8} {k : Nat} {c : UInt8} (hx : a.eval x = .string ⟨s.toArray⟩) (hy : a.eval y = .int .i64 k) (h : s[k]? = some c) : (execOp a.eval o).run Tryd.prog w = .ok (.value (.int .u8 c.toNat)) w := by
  have hk : k < s.length := (List.getElem?_eq_some_iff.1 h).1; have q := byte_k h; have Z := ba_size; unfold execOp; rw [ho]
  simp only [hx, hy]
  go_simp
  try exact q _
theorem xremU8 {a : Act} {w : World} {o : Oper} {T2 : TypeId} {x y : Operand} (ho : o.op = .binOp .rem 5 x y T2) {n m : Nat} (hx : a.eval x = .int .u8 n) (hy : a.eval y = .int .u8 m) (h0 : 0 < m) (h1 : n ≤ 255) : (execOp a.eval o).run Tryd.prog w = .ok (.value (.int .u8 ((n % m : Nat) : Int))) w := by
  have e : ((m : Int) == 0) = false := by rw [beq_eq_false_iff_ne]; omega
  have e0 : ¬ (m : Int) = 0 := by omega
  have e1 : Int.tmod (n : Int) (m : Int) = ((n % m : Nat) : Int) := by rw [Int.tmod_eq_emod_of_nonneg (by omega)]; omega
  have e2 : IntKind.u8.wrap ((n % m : Nat) : Int) = ((n % m : Nat) : Int) := by
    have := Nat.mod_le n m; unfold IntKind.wrap
    simp [IntKind.bits, IntKind.signed]
    omega
  unfold execOp; rw [ho]
  simp only [hx, hy]
  go_simp
  try omega
theorem xplainC {a : Act} {w : World} {o : Oper} {T2 : TypeId} {x y : Operand} (ho : o.op = .binOp .add 5 x y T2) {c : UInt8} (hx : a.eval x = .int .u8 32) (hy : a.eval y = .int .u8 ((c.toNat % 95 : Nat) : Int)) : (execOp a.eval o).run Tryd.prog w = .ok (.value (.int .u8 ((plainC c).toNat : Int))) w := by
  have h : c.toNat % 95 < 95 := Nat.mod_lt _ (by decide)
  have e : IntKind.u8.wrap ((32 : Int) + ((c.toNat % 95 : Nat) : Int)) = ((plainC c).toNat : Int) := by
    rw [plainC_nat]; unfold IntKind.wrap
    simp [IntKind.bits, IntKind.signed]
    omega
  unfold execOp; rw [ho]
  simp only [hx, hy]
  go_simp
  try exact e
set_option maxHeartbeats 4000000 in
theorem plain14_any (s : List UInt8) (m : Nat) (w : World) (hl : s.length ≤ 9223372036854775807) (hm : m ≤ 300) :
    Calls Tryd.prog 6 #[.string ⟨s.toArray⟩, .int .i64 (m : Int)] w fun e w' => e = .returned (.string ⟨((s.take m).map plainC).toArray⟩) ∧ Kept w w' := by
  go_enter Tryd.func6, Tryd.ntmps6; refine sq fun hK1 => ?_
  refine ro [yV _] 1 28 rfl rfl (Own.start w) (
    aS (fun hk bs hd => xassign rfl rfl) rfl <|
    arm0) fun fa fw bs hv ap z q ow => ?_
  have s0 := bs.get 0 rfl rfl; have s1 := bs.get 1 rfl rfl; have s4 := gv hv 0 rfl rfl; refine wt hK1 ?_; refine sq fun hK2 => ?_
  refine ro [yV _] 1 28 z q ow (
    aS (fun hk bs hd => xassign rfl rfl) rfl <|
    arm0) fun fa fw bs hv ap z q ow => ?_
  obtain ⟨s0, s1, s4⟩ := b3 bs s0 s1 s4; have s5 := gv hv 0 rfl rfl; refine wt hK2 ?_; refine sq fun hK3 => ?_; refine sq fun hK4 => ?_
  refine ro [yV _] 1 28 z q ow (
    aS (fun hk bs hd => xassign rfl rfl) rfl <|
    arm0) fun fa fw bs hv ap z q ow => ?_
  obtain ⟨s0, s1, s4, s5⟩ := b4 bs s0 s1 s4 s5; have s6 := gv hv 0 rfl rfl; refine wt hK4 ?_; refine wp_block ?_; refine wp_loop_g (fun (k : Nat) fr u => ∃ (va : Value), (k ≤ s.length) ∧ (k ≤ m) ∧ fr.tmps.size = 28 ∧ fr.defers = [] ∧ Own w [Th.row w.heap.size 5 1 va ((((s.take k).map plainC).map byteV).length) (((s.take k).map plainC).map byteV)] u ∧ fr.eval (.tmp 0) = .string ⟨s.toArray⟩ ∧ fr.eval (.tmp 1) = .int .i64 (m : Int) ∧ fr.eval (.tmp 5) = va ∧ fr.eval (.tmp 6) = .int .i64 (k : Int)) (fun k => s.length - k) 0 ⟨(.slice none 0 0), (Nat.zero_le _), (Nat.zero_le _), z, q, (ow.nil 5 1), s0, s1, s5, s6⟩ (fun k b_ u_ hI => ?_)
  revert b_ u_; intro fa fw hI
  obtain ⟨va, hk, hkm0, z, q, ow, s0, s1, s5, s6⟩ := hI; refine sq fun hK5 => ?_; refine sq fun hK6 => ?_
  refine ro [yV _, yV _, yV _, yV _, yV _, yIf (((decide ((k : Int) < ((s.length : Nat) : Int))) = true)) (yV (.int .i64 (k : Int))), yIf (((decide ((k : Int) < ((s.length : Nat) : Int))) = true)) (yV (.int .i64 (m : Int))), yIf (((decide ((k : Int) < ((s.length : Nat) : Int))) = true)) (yV (.bool (decide ((k : Int) < (m : Int))))), yV _] 9 28 z q ow (
    mvS s6 rfl rfl rfl rfl <|
    mvS s0 rfl rfl rfl rfl <|
    aS (fun hk bs hd => xlenS Tryd.underlying9 rfl (dp hd 1 rfl)) rfl <|
    aS (fun hk bs hd => xlss rfl (dp hd 0 rfl) (dp hd 2 rfl)) rfl <|
    mvD 3 rfl rfl rfl rfl rfl rfl <|
    arm (fun aa ww hk bs hd => by
      have d4 := dp hd 4 rfl
      by_cases hz : ((decide ((k : Int) < ((s.length : Nat) : Int))) = true)
      · exact stepX_same (v := .int .i64 (k : Int)) (want1 (j := 4) (b := true) rfl (d4.trans (congrArg Value.bool hz))) (xmove rfl (bg bs s6)) ⟨fun _ => rfl, fun c => absurd hz c⟩ rfl
      · exact stepX_skip (wantN (j := 4) (b := true) (b' := false) rfl (d4.trans (congrArg Value.bool (Bool.eq_false_iff.2 hz))) rfl) ⟨fun c => absurd c hz, fun _ => rfl⟩ rfl
      ) <|
    arm (fun aa ww hk bs hd => by
      have d4 := dp hd 4 rfl
      by_cases hz : ((decide ((k : Int) < ((s.length : Nat) : Int))) = true)
      · exact stepX_same (v := .int .i64 (m : Int)) (want1 (j := 4) (b := true) rfl (d4.trans (congrArg Value.bool hz))) (xmove rfl (bg bs s1)) ⟨fun _ => rfl, fun c => absurd hz c⟩ rfl
      · exact stepX_skip (wantN (j := 4) (b := true) (b' := false) rfl (d4.trans (congrArg Value.bool (Bool.eq_false_iff.2 hz))) rfl) ⟨fun c => absurd c hz, fun _ => rfl⟩ rfl
      ) <|
    arm (fun aa ww hk bs hd => by
      have d4 := dp hd 4 rfl; have d5 := dI hd 5 rfl; have d6 := dI hd 6 rfl
      by_cases hz : ((decide ((k : Int) < ((s.length : Nat) : Int))) = true)
      · exact stepX_same (v := .bool (decide ((k : Int) < (m : Int)))) (want1 (j := 4) (b := true) rfl (d4.trans (congrArg Value.bool hz))) (xlss rfl (d5.1 hz) (d6.1 hz)) ⟨fun _ => rfl, fun c => absurd hz c⟩ rfl
      · exact stepX_skip (wantN (j := 4) (b := true) (b' := false) rfl (d4.trans (congrArg Value.bool (Bool.eq_false_iff.2 hz))) rfl) ⟨fun c => absurd c hz, fun _ => rfl⟩ rfl
      ) <|
    arm (fun aa ww hk bs hd => by
      have d4 := dp hd 4 rfl; have d7 := dI hd 7 rfl; exact stepX_same (v := .bool ((decide ((k : Int) < ((s.length : Nat) : Int))) && (decide ((k : Int) < (m : Int))))) (want0 rfl) (xand rfl (d4) (fun hb => d7.1 hb) rfl) rfl rfl
      ) <|
    arm0) fun fa fw bs hv ap z q ow => ?_
  obtain ⟨s0, s1, s5, s6⟩ := b4 bs s0 s1 s5 s6; have s15 := gv hv 8 rfl rfl; refine wt hK6 ?_
  by_cases hc1 : ((k : Int) < ((s.length : Nat) : Int)) ∧ ((k : Int) < (m : Int))
  ·refine ct s15 ((band (decide_eq_true_iff) (decide_eq_true_iff)).2 hc1) ?_
   refine wp_skip ?_; refine tn hK5 ?_; refine sq fun hK7 => ?_; refine wp_block ?_; have hlt : k < s.length := by omega
   have hkm : k < m := by omega
   obtain ⟨c, hc⟩ : ∃ c, s[k]? = some c := ⟨s[k], List.getElem?_eq_getElem hlt⟩
   refine ro [yV _, yV _, yV _, yV _, yV (.int .u8 ((c.toNat % 95 : Nat) : Int)), yV _, ySlice fw.heap.size 1 (.cells #[.int .u8 ((plainC c).toNat : Int)] 5 (0, 0))] 7 28 z q ow (
     mvS s5 rfl rfl rfl rfl <|
     mvS s0 rfl rfl rfl rfl <|
     mvS s6 rfl rfl rfl rfl <|
     aS (fun hk bs hd => xindexB rfl (dp hd 1 rfl) (dp hd 2 rfl) hc) rfl <|
     aS (fun hk bs hd => xremU8 (n := c.toNat) (m := 95) rfl (dp hd 3 rfl) rfl (by decide) (Nat.le_of_lt_succ c.toNat_lt)) rfl <|
     aS (fun hk bs hd => xplainC rfl rfl (dp hd 4 rfl)) rfl <|
     arm (fun aa ww hk bs hd => by
       have d5 : aa.eval (.tmp 23) = .int .u8 ((plainC c).toNat : Int) := depX hd 5 rfl; exact stepX_new _ (want0 rfl) (xbuildSlice (us := #[(0, .int .u8 ((plainC c).toNat : Int))]) (b := .cells #[.int .u8 ((plainC c).toNat : Int)] 5 (0, 0)) rfl (by simp only [List.map_toArray, List.map_cons, List.map_nil, d5]) (by kernel_rfl)) ⟨_, rfl, hk.size, Go.heap_alloc_new _ _⟩ ((Kept.refl _).alloc _) rfl (Nat.le_refl _)
       ) <|
     arm0) fun fa fw bs hv ap z q ov => ?_
   obtain ⟨s0, s1, s5, s6⟩ := b4 bs s0 s1 s5 s6; have s18 := gv hv 0 rfl rfl; obtain ⟨gb1, s24, bgb1, hgb1⟩ := gotL hv 6 rfl rfl rfl; have ov := ov.cons hgb1 (Nat.le_trans ow.kept.size bgb1) (ow.below bgb1); have ow := ov; refine wl_appendC (by_ := 1) (want0 rfl) (l := ((s.take k).map plainC).map byteV) (u := (byteV (plainC c))) rfl Tryd.underlying30 (info_one _ _ _ (by kernel_rfl) rfl) s18 s24 (ow.row 1 rfl) (ow.get 0 rfl) rfl (by simp only [List.length_map, List.length_take]; omega) (by decide) ow.kept.size (fun vr1 fw1 ho hg hb => ?_); have ow := ow.turn 1 rfl (t' := Th.row w.heap.size 5 1 vr1 ((((s.take k).map plainC).map byteV ++ [(byteV (plainC c))]).length) (((s.take k).map plainC).map byteV ++ [(byteV (plainC c))])) ho hg (turn_new hb); clear ho hg hb; refine wl_value (v := vr1) (want0 rfl) (xassign rfl (put_in (t := 25) z rfl)) ?_; refine gt4 (put_size (put_size z)) (put_def (put_def q)) ow 0 (pb 5 (pb 25 s0 rfl) rfl) 1 (pb 5 (pb 25 s1 rfl) rfl) 6 (pb 5 (pb 25 s6 rfl) rfl) 5 (put_in (t := 5) (put_size z) rfl) fun fa fw z q ow s0 s1 s6 s5 => ?_; refine wl_end ?_; refine block_n ?_; refine tn hK7 ?_
   refine ro [yV _, yV (.int .i64 ((k + 1 : Nat) : Int))] 2 28 z q ow (
     mvS s6 rfl rfl rfl rfl <|
     aS (fun hk bs hd => xadd (Or.inl rfl) rfl (dp hd 0 rfl) rfl (by omega) (by omega)) rfl <|
     arm0) fun fa fw bs hv ap z q ow => ?_
   obtain ⟨s0, s1, s6, s5⟩ := b4 bs s0 s1 s6 s5; have s17 := gv hv 1 rfl rfl; refine wl_value (v := .int .i64 ((k + 1 : Nat) : Int)) (want0 rfl) (xassign rfl s17) ?_; refine gp3 z q ow s0 s1 s5 fun fa fw z q ow s0 s1 s5 s6 => ?_; refine wl_end ?_; exact then_n ⟨(k + 1), ⟨vr1, hlt, hkm, z, q, (by rw [plain_step14 hc, List.map_append]; exact ow.tail), s0, s1, s5, s6⟩, (show s.length - (k + 1) < s.length - k by omega)⟩
  refine cf s15 (band (decide_eq_true_iff) (decide_eq_true_iff)) hc1 ?_; refine wp_exit ?_; refine then_e ?_; refine then_e ?_; refine block_hit ?_; refine tn hK3 ?_; refine sq fun hK8 => ?_
  refine ro [yV _, yV _, yV _] 3 28 z q ow (
    mvS s5 rfl rfl rfl rfl <|
    aS (fun hk bs hd => xconvert (u := va) rfl (dp hd 0 rfl) (conv_own (ownB_of ((ow.keep hk).row 0 rfl)))) rfl <|
    asD 1 rfl rfl rfl rfl rfl rfl <|
    arm0) fun fa fw bs hv ap z q ow => ?_
  have s4 := gv hv 2 rfl rfl; refine wt hK8 ?_; refine wp_ret ?_; refine results_one rfl (res_tmp s4) q ?_; exact ⟨by rw [show (s.take m).map plainC = (s.take k).map plainC from plain_all (by omega) hk hkm0], ow.kept⟩
set_option maxHeartbeats 2000000 in
theorem of14_any (fn : Nat) (A : Option Addr) (cap : Nat) (l : List Vl) (w : World) (mx : Int) (HM : Mx w mx) (hr : RowV w A l) (hs : ∀ v ∈ l, Small v) (hl : l.length ≤ 1000000) (hc : l.length ≤ cap) :
    Calls Tryd.prog 7 #[.int .u8 fn, .slice A l.length cap] w fun e w' => e = .returned (aggV (vCall14 fn l).1) ∧ Kept w w' := by
  go_enter Tryd.func7, Tryd.ntmps7; refine sq fun hK1 => ?_
  refine ro [yNew w.heap.size (.cells #[.int .u8 0, .int .i64 0, .string ⟨[].toArray⟩] 24 (0, 0))] 1 14 rfl rfl (Own.start w) (
    aP (fun hk bs hd => xalloc rfl (by kernel_rfl)) rfl <|
    arm0) fun fa fw bs hv ap z q ov => ?_
  have s0 := bs.get 0 rfl rfl; have s1 := bs.get 1 rfl rfl; obtain ⟨gb1, s4, bgb1, hgb1⟩ := gotP hv 0 rfl rfl rfl; have ov := ov.cons hgb1 (Nat.le_trans (Own.start w).kept.size bgb1) ((Own.start w).below bgb1); have ow := ov; refine wt hK1 ?_; refine sq fun hK2 => ?_
  refine ro [yV _, yV _, yV (.tuple #[aggV ((vCall14 fn l).1), .int .i64 ((vCall14 fn l).2)]), yV _, yV (aggV ((vCall14 fn l).1)), yV _, yNew fw.heap.size (.cells #[.int .u8 0, .int .i64 0, .string ⟨[].toArray⟩] 24 (0, 0))] 7 14 z q ow (
    mvS s0 rfl rfl rfl rfl <|
    mvS s1 rfl rfl rfl rfl <|
    aC (fun hk bs hd => xcall2 rfl (dp hd 0 rfl) (dp hd 1 rfl) (en_ftext_Call _ _)) (fun hk bs hd => call14_any fn A cap l _ mx (HM.kept (ow.keep hk).kept) (hr.kept (ow.keep hk).kept) hs hl hc) rfl <|
    mvD 2 rfl rfl rfl rfl rfl rfl <|
    aS (fun hk bs hd => xextract rfl (dp hd 3 rfl) rfl) rfl <|
    aS (fun hk bs hd => xextract rfl (dp hd 3 rfl) rfl) rfl <|
    aP (fun hk bs hd => xalloc rfl (by kernel_rfl)) rfl <|
    arm0) fun fa fw bs hv ap z q ov => ?_
  have s4 := bg bs s4; have s11 := gv hv 4 rfl rfl; have s12 := gv hv 5 rfl rfl; obtain ⟨gb2, s5, bgb2, hgb2⟩ := gotP hv 6 rfl rfl rfl; have ov := ov.cons hgb2 (Nat.le_trans ow.kept.size bgb2) (ow.below bgb2); have ow := ov; refine ws ow 0 0 s5 s11 fun fw ow => ?_; refine wl_value (v := .int .i64 ((vCall14 fn l).2)) (want0 rfl) (xassign rfl s12) ?_; refine gt2 (put_size z) (put_def q) ow 4 (pb 6 s4 rfl) 5 (pb 6 s5 rfl) fun fa fw z q ow s4 s5 => ?_; refine wt hK2 ?_; refine sq fun hK3 => ?_
  refine ro [yV (aggV ((vCall14 fn l).1))] 1 14 z q ow (
    aS (fun hk bs hd => xloadN 3 rfl (by kernel_rfl) (by kernel_rfl) (bg bs s5) ((ow.keep hk).box 0 rfl) (Nat.le_of_ble_eq_true rfl) rfl) rfl <|
    arm0) fun fa fw bs hv ap z q ow => ?_
  have s4 := bg bs s4; have s13 := gv hv 0 rfl rfl; refine ws ow 1 0 s4 s13 fun fw ow => ?_; refine wt hK3 ?_; refine wp_ret ?_; refine rs3 s4 (ow.box 1 rfl) q ?_; exact ⟨rfl, ow.kept⟩
end Go.Proofs.YtbpkfnoenkoabaaDoor

namespace Go.Proofs.YtbpkfnoenkoabaaDoor
open Go.RowKit
structure Sto where
  i : Nat
  j : Nat
  tj : Nat
  t : TypeId
  cs : Array Value
  vs : List Value
def Sto.old (s : Sto) : Obj := .cells s.cs s.t (0, 0)
def Sto.new (s : Sto) : Obj := .cells (setCells s.cs 0 s.vs) s.t (0, 0)
def yPtr (base : Nat) : Yield := ⟨fun v w => ∃ g, v = .pointer (some ⟨g, 0, none⟩) ∧ base ≤ g ∧ g < w.heap.size, fun _ _ _ ⟨g, e, hb, hh⟩ k => ⟨g, e, hb, Nat.lt_of_lt_of_le hh k.size⟩, true, fun _ _ _ ⟨g, e, _, hh⟩ => ⟨g, by rw [e]; rfl, hh⟩⟩
def Lasts (y : Yield) : Prop := ∀ v w w', w.heap.size ≤ w'.heap.size → y.p v w → y.p v w'
def Lasting (ys : List Yield) : Prop := ∀ y ∈ ys, Lasts y
theorem Ys.lasts {ys : List Yield} (h : Lasting ys) {j : Nat} {v : Value} {w w' : World} (k : w.heap.size ≤ w'.heap.size) (q : Ys ys j v w) : Ys ys j v w' := by
  unfold Ys at q ⊢
  cases e : ys[j]? with
  | none => trivial
  | some y => rw [e] at q; exact h y (List.mem_of_getElem? e) v w w' k q
theorem putCells_kept {a w : World} {g : Nat} (hg : a.heap.size ≤ g) : ∀ (vs : List Value) (i : Nat) (w : World), Kept a w → Kept a (putCells w g i vs)
  | [], _, _, h => h
  | v :: r, i, w, h => putCells_kept (w := w) hg r (i + 1) _ (h.setCell (p := ⟨g, i, none⟩) hg v)
theorem putCells_size {g : Nat} : ∀ (vs : List Value) (i : Nat) (w : World), (putCells w g i vs).heap.size = w.heap.size
  | [], _, _ => rfl
  | v :: r, i, w => by
    show (putCells (w.setCell ⟨g, i, none⟩ v) g (i + 1) r).heap.size = _; rw [putCells_size r (i + 1), World.size_setCell]
theorem putCells_far {g h : Nat} (ne : h ≠ g) : ∀ (vs : List Value) (i : Nat) (w : World), (putCells w g i vs).heap[h]? = w.heap[h]?
  | [], _, _ => rfl
  | v :: r, i, w => by
    show (putCells (w.setCell ⟨g, i, none⟩ v) g (i + 1) r).heap[h]? = _; rw [putCells_far ne r (i + 1)]; exact Below.heap_setCell w ⟨g, i, none⟩ v h ne
theorem putCells_box {g : Nat} {t : TypeId} : ∀ (vs : List Value) (i : Nat) (w : World) (cs : Array Value), Box w g t cs → Box (putCells w g i vs) g t (setCells cs i vs)
  | [], _, _, _, h => h
  | v :: r, i, w, cs, h => putCells_box r (i + 1) _ _ (h.at_ i v)
theorem pw_eq {l : List Sto} (h : l.Pairwise fun s u => s.i ≠ u.i ∧ s.j ≠ u.j) : ∀ s ∈ l, ∀ u ∈ l, (s.i = u.i ∨ s.j = u.j) → s = u := by
  induction h with
  | nil => intro s hs; cases hs
  | cons hx _ ih =>
    intro s hs u hu c; rcases List.mem_cons.1 hs with rfl | hs1
    · rcases List.mem_cons.1 hu with rfl | hu1
      · rfl
      · have := hx u hu1
        rcases c with c | c
        · exact absurd c this.1
        · exact absurd c this.2
    · rcases List.mem_cons.1 hu with rfl | hu1
      · have := hx s hs1
        rcases c with c | c
        · exact absurd c.symm this.1
        · exact absurd c.symm this.2
      · exact ih s hs1 u hu1 c
def freeB9 (ops : Array Oper) (N : Nat) : Bool :=
  acyB ops && (List.range ops.size).all fun i => match (ops[i]?).bind (·.dst) with
    | none => true
    | some t => decide (t < N) && (List.range ops.size).all fun j => Nat.beq j i || !(((ops[j]?).bind (·.dst)) == some t)
section
variable {P : Program} {ops : Array Oper}
structure InvF9 (ops : Array Oper) (ys : List Yield) (sto : List Sto) (w0 : World) (a0 : Act) (done : Array Bool) (a : Act) (w : World) : Prop where
  len : done.size = ops.size
  kept : Kept w0 w
  beside : BesideN ops ops.size a0 a
  vals : ∀ j, done.getD j false = true → Ys ys j (At ops a j) w
  apart : ∀ j k, j ≠ k → Fs ys j = true → Fs ys k = true → done.getD j false = true → done.getD k false = true → blkOf (At ops a j) ≠ blkOf (At ops a k)
  ord : ∀ s ∈ sto, done.getD s.i false = true → done.getD s.j false = true
  cont : ∀ s ∈ sto, done.getD s.j false = true → ∀ g, blkOf (At ops a s.j) = some g → w.heap[g]? = some (if done.getD s.i false = true then s.new else s.old)
def StepF9 (P : Program) (ops : Array Oper) (ys : List Yield) (sto : List Sto) (i : Nat) (o : Oper) (a : Act) (w : World) : Prop :=
  (StepX P ops ys i o a w ∧ (o.dst.isSome && sto.all fun s => !Nat.beq s.i i && !Nat.beq s.j i) = true) ∨
  (∃ s ∈ sto, s.j = i ∧ Region.wanted o (yielded ops a.tmps) = true ∧ (execOp a.eval o).run P w = .ok (.value (.pointer (some ⟨w.heap.size, 0, none⟩))) (w.alloc s.old)) ∨
  (∃ s ∈ sto, s.i = i ∧ Region.wanted o (yielded ops a.tmps) = true ∧ ∀ g, a.eval (.tmp s.tj) = .pointer (some ⟨g, 0, none⟩) → Box w g s.t s.cs → (execOp a.eval o).run P w = .ok .skip (putCells w g 0 s.vs))
theorem getD_keep' {done : Array Bool} {j : Nat} (h : done.getD j false = true) (i : Nat) : (done.setIfInBounds i true).getD j false = true := by
  by_cases e : i = j
  · subst e
    have : i < done.size := by
      rcases Nat.lt_or_ge i done.size with c | c
      · exact c
      · simp [Array.getD, Nat.not_lt.2 c] at h
    simp [Array.getD, this]
  · rw [getD_set_ne false e]; exact h
theorem free_dst {N : Nat} (hB : freeB9 ops N = true) {i t : Nat} {o : Oper} (h : ops[i]? = some o) (hd : o.dst = some t) : t < N ∧ ∀ j q, j ≠ i → ops[j]? = some q → q.dst ≠ some t := by
  simp only [freeB9, Bool.and_eq_true, List.all_eq_true, List.mem_range] at hB
  have hi : i < ops.size := (Array.getElem?_eq_some_iff.1 h).1; have := hB.2 i hi; rw [h] at this
  simp only [Option.bind_some, hd, Bool.and_eq_true, decide_eq_true_eq, List.all_eq_true, List.mem_range, Bool.or_eq_true, Bool.not_eq_true', beq_eq_false_iff_ne, ne_eq] at this
  refine ⟨this.1, fun j q ne hq e => ?_⟩; have hj : j < ops.size := (Array.getElem?_eq_some_iff.1 hq).1; rcases this.2 j hj with c | c
  · exact ne (Nat.eq_of_beq_eq_true c)
  · rw [hq] at c
    exact c (by simpa using e)
theorem At.put_other {N i : Nat} {o : Oper} {a : Act} {v : Value} (hB : freeB9 ops N = true) (h : ops[i]? = some o) {j : Nat} (ne : j ≠ i) : At ops (a.put o.dst v) j = At ops a j := by
  cases hd : o.dst with
  | none => rfl
  | some t =>
    unfold At
    cases hq : ops[j]? with
    | none => rfl
    | some q =>
      simp only [Option.bind_some]
      cases hu : q.dst with
      | none => rfl
      | some u =>
        simp only
        exact getD_put_other (fun e => (free_dst hB h hd).2 j q ne hq (by rw [hu, e]))
theorem BesideN.put' {i : Nat} {o : Oper} {a0 a : Act} {v : Value} (h : ops[i]? = some o) (b : BesideN ops ops.size a0 a) : BesideN ops ops.size a0 (a.put o.dst v) := by
  cases hd : o.dst with
  | none => exact b
  | some t =>
    have hi : i < ops.size := (Array.getElem?_eq_some_iff.1 h).1; refine ⟨b.defers, by simp only [Act.put, Array.size_setIfInBounds]; exact b.size, fun u hu => ?_⟩; rw [getD_put_other, b.same u hu]; rintro rfl
    have : writesN ops ops.size t = true := by
      unfold writesN; rw [List.any_eq_true]; exact ⟨i, List.mem_range.2 hi, by rw [h]; simp [hd]⟩
    rw [this] at hu; cases hu
theorem InvF9.put {ys : List Yield} {sto : List Sto} {N : Nat} {w0 w w' : World} {a0 a : Act} {done : Array Bool} (hB : freeB9 ops N = true)
    (inv : InvF9 ops ys sto w0 a0 done a w) {i : Nat} {o : Oper} (h : ops[i]? = some o) {v : Value} (hu : done.getD i true = false) (hv : Ys ys i (At ops (a.put o.dst v) i) w') (k : Kept w w') (hf : Fs ys i = true → ∃ g, blkOf (At ops (a.put o.dst v) i) = some g ∧ w.heap.size ≤ g)
    (hc : ∀ s ∈ sto, s.j = i → ∀ g, blkOf (At ops (a.put o.dst v) i) = some g → done.getD s.i false = false ∧ w'.heap[g]? = some s.old) (hn : ∀ s ∈ sto, s.i ≠ i) (hp : ∀ s ∈ sto, Fs ys s.j = true) :
    InvF9 ops ys sto w0 a0 (done.setIfInBounds i true) (a.put o.dst v) w' := by
  have hi : i < ops.size := (Array.getElem?_eq_some_iff.1 h).1; have old : ∀ j, j ≠ i → (done.setIfInBounds i true).getD j false = true → done.getD j false = true := fun j ne hj => by rwa [getD_set_ne false (fun e => ne e.symm)] at hj
  have oth : ∀ j, j ≠ i → At ops (a.put o.dst v) j = At ops a j := fun j ne => At.put_other hB h ne; refine ⟨by rw [Array.size_setIfInBounds]; exact inv.len, inv.kept.trans k, inv.beside.put' h, fun j hd => ?_, fun j q ne fj fq dj dq => ?_, fun s hs hd => ?_, fun s hs hd g hg => ?_⟩
  · by_cases e : j = i
    · subst e; exact hv
    · rw [oth j e]; exact (inv.vals j (old j e hd)).stays k
  · by_cases ej : j = i
    · subst ej
      have eq : q ≠ j := fun e => ne e.symm; rw [oth q eq]; obtain ⟨g, hg, hge⟩ := hf fj; obtain ⟨g2, hg2, hlt⟩ := (inv.vals q (old q eq dq)).inside fq; rw [hg, hg2]; intro e
      cases e
      omega
    · by_cases eq : q = i
      · subst eq
        rw [oth j ej]; obtain ⟨g, hg, hge⟩ := hf fq; obtain ⟨g2, hg2, hlt⟩ := (inv.vals j (old j ej dj)).inside fj; rw [hg, hg2]; intro e
        cases e
        omega
      · rw [oth j ej, oth q eq]
        exact inv.apart j q ne fj fq (old j ej dj) (old q eq dq)
  · rw [getD_set_ne false (fun e => hn s hs e.symm)] at hd
    exact getD_keep' (inv.ord s hs hd) i
  · have ns : s.i ≠ i := hn s hs
    rw [getD_set_ne false (fun e => ns e.symm)]
    by_cases e : s.j = i
    · rw [e] at hg
      obtain ⟨h1, h2⟩ := hc s hs e g hg; rw [h1]; exact h2
    · rw [oth s.j e] at hg
      have := inv.cont s hs (old s.j e hd) g hg; obtain ⟨g2, hg2, hlt⟩ := (inv.vals s.j (old s.j e hd)).inside (hp s hs); rw [hg] at hg2
      cases hg2
      exact (k.block g hlt).trans this
theorem InvF9.store {ys : List Yield} {sto : List Sto} {N : Nat} {w0 w : World} {a0 a : Act} {done : Array Bool} (hB : freeB9 ops N = true) (hP : sto.Pairwise fun s u => s.i ≠ u.i ∧ s.j ≠ u.j) (hl : Lasting ys) (hy : ∀ s ∈ sto, ys[s.j]? = some (yPtr w0.heap.size)) (hyi : ∀ s ∈ sto, ys[s.i]? = some yNo)
    (inv : InvF9 ops ys sto w0 a0 done a w) {s : Sto} (hs : s ∈ sto) {o : Oper} (h : ops[s.i]? = some o) (hd : o.dst = none) (hu : done.getD s.i true = false) (hdj : done.getD s.j false = true) {g : Nat} (hg : At ops a s.j = .pointer (some ⟨g, 0, none⟩)) (v : Value) :
    InvF9 ops ys sto w0 a0 (done.setIfInBounds s.i true) (a.put o.dst v) (putCells w g 0 s.vs) := by
  have hi : s.i < ops.size := (Array.getElem?_eq_some_iff.1 h).1; have ea : a.put o.dst v = a := by rw [hd]; rfl
  rw [ea]; have old : ∀ j, j ≠ s.i → (done.setIfInBounds s.i true).getD j false = true → done.getD j false = true := fun j ne hj => by rwa [getD_set_ne false (fun e => ne e.symm)] at hj
  have fj : ∀ u ∈ sto, Fs ys u.j = true := fun u hu => by unfold Fs; rw [hy u hu]; rfl
  have fi : Fs ys s.i = false := by unfold Fs; rw [hyi s hs]; rfl
  have ne_of : ∀ j, Fs ys j = true → j ≠ s.i := fun j f e => by rw [e, fi] at f; cases f
  have gb : w0.heap.size ≤ g := by
    have := inv.vals s.j hdj; unfold Ys at this; rw [hy s hs, hg] at this; obtain ⟨g', e, hb, _⟩ := this
    cases e
    exact hb
  refine ⟨by rw [Array.size_setIfInBounds]; exact inv.len, putCells_kept (w := w) gb _ _ _ inv.kept, inv.beside, fun j hd => ?_, fun j q ne fj' fq' dj dq => inv.apart j q ne fj' fq' (old j (ne_of j fj') dj) (old q (ne_of q fq') dq), fun u hu' hd => ?_, fun u hu' hd g2 hg2 => ?_⟩
  · by_cases e : j = s.i
    · subst e
      unfold Ys; rw [hyi s hs]
      trivial
    · exact (inv.vals j (old j e hd)).lasts hl (by rw [putCells_size]; exact Nat.le_refl _)
  · by_cases e : u = s
    · subst e; exact getD_keep' hdj _
    · exact getD_keep' (inv.ord u hu' (old u.i (fun c => e (pw_eq hP u hu' s hs (Or.inl c))) hd)) _
  · have old1 := old u.j (ne_of u.j (fj u hu')) hd
    by_cases e : u = s
    · subst e
      rw [hg] at hg2
      cases hg2
      have is_ : (done.setIfInBounds u.i true).getD u.i false = true := by
        have : u.i < done.size := by rw [inv.len]; exact hi
        simp [Array.getD, this]
      rw [if_pos is_]; have c := inv.cont u hs hdj g (by rw [hg]; rfl); rw [if_neg (by rw [getD_both hu]; simp)] at c; exact putCells_box u.vs 0 w u.cs c
    · have nj : u.j ≠ s.j := fun c => e (pw_eq hP u hu' s hs (Or.inr c))
      have ni : u.i ≠ s.i := fun c => e (pw_eq hP u hu' s hs (Or.inl c))
      have gne : g2 ≠ g := fun c => by
        have := inv.apart u.j s.j nj (fj u hu') (fj s hs) old1 hdj; rw [hg2, hg, c] at this; exact this rfl
      rw [putCells_far gne, getD_set_ne false (fun c => ni c.symm)]; exact inv.cont u hu' old1 g2 hg2
def AllS (p : Sto → Prop) : List Sto → Prop
  | [] => True
  | s :: l => p s ∧ AllS p l
theorem AllS.out {p : Sto → Prop} : ∀ {l : List Sto}, AllS p l → ∀ s ∈ l, p s
  | [], _, s, h => by cases h
  | x :: l, h, s, hs => by
    rcases List.mem_cons.1 hs with rfl | c
    · exact h.1
    · exact AllS.out h.2 s c
def ArmsF (P : Program) (ops : Array Oper) (ys : List Yield) (sto : List Sto) (w0 : World) (a0 : Act) : Nat → List Oper → Prop
  | _, [] => True
  | i, o :: r => (∀ a w, Kept w0 w → BesideN ops ops.size a0 a → Deps ops ys o a w → StepF9 P ops ys sto i o a w) ∧ ArmsF P ops ys sto w0 a0 (i + 1) r
theorem ArmsF.get {ys : List Yield} {sto : List Sto} {w0 : World} {a0 : Act} : ∀ (l : List Oper) (i : Nat), ArmsF P ops ys sto w0 a0 i l → ∀ (k : Nat) (o : Oper), l[k]? = some o → ∀ a w, Kept w0 w → BesideN ops ops.size a0 a → Deps ops ys o a w → StepF9 P ops ys sto (i + k) o a w
  | [], _, _, k, o, h => by simp at h
  | x :: l, i, hA, 0, o, h => by simp at h; subst h; exact hA.1
  | x :: l, i, hA, k + 1, o, h => by
    have := ArmsF.get l (i + 1) hA.2 k o (by simpa using h)
    rwa [show i + 1 + k = i + (k + 1) by omega] at this
variable {ys : List Yield} {sto : List Sto} {w0 : World} {a0 : Act} {i : Nat} {o : Oper} {r : List Oper}
end
end Go.Proofs.YtbpkfnoenkoabaaDoor
