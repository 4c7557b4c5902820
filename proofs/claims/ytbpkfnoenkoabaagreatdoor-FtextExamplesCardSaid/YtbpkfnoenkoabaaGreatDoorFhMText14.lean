/- Layer 14: functions of texts, on plain data (31 LEN, 32 LEFT, 33 RIGHT, 34 MID, 35 UPPER, 36 LOWER, 37 TRIM, 38 CONCAT, 39 REPT, 40 EXACT, 41 FIND, 42 VALUE). -/
import Derived.Test.YtbpkfnoenkoabaaGreatDoorFhMixAM
import Derived.Lib.IndexMore
namespace Go.Proofs.YtbpkfnoenkoabaaGreatDoor.Lv
set_option linter.unusedVariables false
set_option linter.unusedSimpArgs false
open Go
def lo14 (fn : Nat) : Nat := if fn = 34 then 3 else if fn = 39 ∨ fn = 40 ∨ fn = 41 then 2 else 1
def hi14 (fn : Nat) : Nat := if fn = 32 ∨ fn = 33 ∨ fn = 39 ∨ fn = 40 then 2 else if fn = 34 ∨ fn = 41 then 3 else if fn = 38 then 16 else 1
def txt14 (fn i : Nat) : Bool := if fn = 32 ∨ fn = 33 ∨ fn = 34 ∨ fn = 39 then decide (i = 0) else if fn = 41 then decide (i < 2) else true
def arg14 (fn i : Nat) (v : Vl) : Vl := if txt14 fn i then vTxt v else vNum v
def args14 (fn : Nat) : Nat → List Vl → List Vl
  | _, [] => []
  | i, v :: l => arg14 fn i v :: args14 fn (i + 1) l
def txts14 (fn : Nat) : Nat → List Vl → List (List UInt8)
  | _, [] => []
  | i, v :: l => if txt14 fn i then (vTxt v).t :: txts14 fn (i + 1) l else txts14 fn (i + 1) l
def nums14 (fn : Nat) : Nat → List Vl → List Int
  | _, [] => []
  | i, v :: l => if txt14 fn i then nums14 fn (i + 1) l else Int.tdiv (vNum v).n 10000 :: nums14 fn (i + 1) l
def vText (t : List UInt8) : Vl := if 256 < t.length then vFail 2 else ⟨3, 0, t⟩
def cnt14 (n : List Int) : Int := n.headD 1
def left14 (s : List UInt8) (n : Int) : Vl := if n < 0 then vFail 2 else vText (s.take n.toNat)
def right14 (s : List UInt8) (n : Int) : Vl := if n < 0 then vFail 2 else vText (s.drop (s.length - n.toNat))
def mid14 (s : List UInt8) (m n : Int) : Vl := if m < 1 ∨ n < 0 then vFail 2 else vText ((s.drop (m - 1).toNat).take n.toNat)
def rept14 (s : List UInt8) (n : Int) : Vl := if n < 0 then vFail 2 else vText (List.replicate n.toNat s).flatten
def find14 (s t : List UInt8) (m : Int) : Vl := if m < 1 ∨ (t.length : Int) + 1 < m then vFail 2 else if Lib.index (t.drop (m - 1).toNat) s < 0 then vFail 2 else vMake ((Lib.index (t.drop (m - 1).toNat) s + m) * 10000)
def val14 (fn : Nat) (s : List (List UInt8)) (n : List Int) : Vl :=
  if fn = 31 then vMake ((s.headD []).length * 10000)
  else if fn = 32 then left14 (s.headD []) (cnt14 n)
  else if fn = 33 then right14 (s.headD []) (cnt14 n)
  else if fn = 34 then mid14 (s.headD []) (n.headD 1) (n.getD 1 1)
  else if fn = 35 then vText (upper (s.headD []))
  else if fn = 36 then vText (lower (s.headD []))
  else if fn = 37 then vText (trim (s.headD []))
  else if fn = 38 then vText s.flatten
  else if fn = 39 then rept14 (s.headD []) (n.headD 0)
  else if fn = 40 then vTruth (decide (s.headD [] = s.getD 1 []))
  else if fn = 41 then find14 (s.headD []) (s.getD 1 []) (cnt14 n)
  else vNum ⟨3, 0, s.headD []⟩
def vCall14 (fn : Nat) (l : List Vl) : Vl × Int :=
  if fn < 31 ∨ 42 < fn then (blankV, 10)
  else if l.length < lo14 fn ∨ hi14 fn < l.length then (blankV, 11)
  else if l.any (fun v => !vOk v) then (blankV, 2)
  else match firstE (args14 fn 0 l) with
    | some e => (e, 0)
    | none => (val14 fn (txts14 fn 0 l) (nums14 fn 0 l), 0)
theorem args14_snoc (fn : Nat) (v : Vl) : ∀ (l : List Vl) (i : Nat), args14 fn i (l ++ [v]) = args14 fn i l ++ [arg14 fn (i + l.length) v]
  | [], i => rfl
  | x :: l, i => by
    rw [List.cons_append, args14, args14_snoc fn v l (i + 1), args14, List.length_cons, show i + 1 + l.length = i + (l.length + 1) by omega]; rfl
theorem txts14_snoc (fn : Nat) (v : Vl) : ∀ (l : List Vl) (i : Nat), txts14 fn i (l ++ [v]) = txts14 fn i l ++ (if txt14 fn (i + l.length) then [(vTxt v).t] else [])
  | [], i => by simp [txts14]
  | x :: l, i => by
    rw [List.cons_append, txts14, txts14_snoc fn v l (i + 1), txts14, List.length_cons, show i + 1 + l.length = i + (l.length + 1) by omega]
    split <;> rfl
theorem nums14_snoc (fn : Nat) (v : Vl) : ∀ (l : List Vl) (i : Nat), nums14 fn i (l ++ [v]) = nums14 fn i l ++ (if txt14 fn (i + l.length) then [] else [Int.tdiv (vNum v).n 10000])
  | [], i => by simp [nums14]
  | x :: l, i => by
    rw [List.cons_append, nums14, nums14_snoc fn v l (i + 1), nums14, List.length_cons, show i + 1 + l.length = i + (l.length + 1) by omega]
    split <;> rfl
theorem firstE_snoc' (l : List Vl) (v : Vl) : firstE (l ++ [v]) = (firstE l).or (if isE v then some v else none) := by
  unfold firstE; rw [List.find?_append]
  congr 1
  cases h : isE v <;> simp [h]
theorem firstE_more {fn : Nat} {l : List Vl} {k : Nat} {e : Vl} (hk : k < l.length) (h0 : firstE (args14 fn 0 (l.take k)) = none) (he : arg14 fn k (l.getD k blankV) = e) (hE : isE e = true) : firstE (args14 fn 0 l) = some e := by
  have hl : l = l.take (k + 1) ++ l.drop (k + 1) := (List.take_append_drop _ _).symm
  have ht : l.take (k + 1) = l.take k ++ [l.getD k blankV] := by
    rw [List.take_succ_eq_append_getElem hk, show l.getD k blankV = l[k] by simp [List.getD, hk]]
  have key : firstE (args14 fn 0 (l.take (k + 1))) = some e := by
    rw [ht, args14_snoc, firstE_snoc', h0, Nat.zero_add, List.length_take, Nat.min_eq_left (by omega), he, hE]; rfl
  rw [hl]; generalize l.drop (k + 1) = r; generalize l.take (k + 1) = p at key; clear hl ht h0 he
  induction r generalizing p with
  | nil => rw [List.append_nil]; exact key
  | cons x r ih =>
    have : p ++ x :: r = (p ++ [x]) ++ r := by simp
    rw [this]; refine ih (p ++ [x]) ?_; rw [args14_snoc, firstE_snoc', key]; rfl
theorem firstE_next {fn : Nat} {l : List Vl} {k : Nat} (hk : k < l.length) (h0 : firstE (args14 fn 0 (l.take k)) = none) (hE : isE (arg14 fn k (l.getD k blankV)) = false) : firstE (args14 fn 0 (l.take (k + 1))) = none := by
  rw [List.take_succ_eq_append_getElem hk, args14_snoc, firstE_snoc', h0, Nat.zero_add, List.length_take, Nat.min_eq_left (by omega), ← show l.getD k blankV = l[k] by simp [List.getD, hk], hE]; rfl
theorem txts14_next {fn : Nat} {l : List Vl} {k : Nat} (hk : k < l.length) : txts14 fn 0 (l.take (k + 1)) = txts14 fn 0 (l.take k) ++ (if txt14 fn k then [(vTxt (l.getD k blankV)).t] else []) := by
  rw [List.take_succ_eq_append_getElem hk, txts14_snoc, Nat.zero_add, List.length_take, Nat.min_eq_left (by omega), ← show l.getD k blankV = l[k] by simp [List.getD, hk]]
theorem nums14_next {fn : Nat} {l : List Vl} {k : Nat} (hk : k < l.length) : nums14 fn 0 (l.take (k + 1)) = nums14 fn 0 (l.take k) ++ (if txt14 fn k then [] else [Int.tdiv (vNum (l.getD k blankV)).n 10000]) := by
  rw [List.take_succ_eq_append_getElem hk, nums14_snoc, Nat.zero_add, List.length_take, Nat.min_eq_left (by omega), ← show l.getD k blankV = l[k] by simp [List.getD, hk]]
theorem shape14 (fn : Nat) : ∀ (l : List Vl) (i : Nat), (txts14 fn i l).length + (nums14 fn i l).length = l.length
  | [], _ => rfl
  | v :: l, i => by
    have := shape14 fn l (i + 1); rw [txts14, nums14]
    split <;> simp <;> omega
/-! the values of a call -/
theorem v14_name {fn : Nat} {l : List Vl} (h : fn < 31 ∨ 42 < fn) : vCall14 fn l = (blankV, 10) := by unfold vCall14; rw [if_pos h]
theorem v14_count {fn : Nat} {l : List Vl} (h1 : 31 ≤ fn) (h2 : fn ≤ 42) (h : l.length < lo14 fn ∨ hi14 fn < l.length) : vCall14 fn l = (blankV, 11) := by unfold vCall14; rw [if_neg (by omega), if_pos h]
theorem v14_arg {fn : Nat} {l : List Vl} {k : Nat} (h1 : 31 ≤ fn) (h2 : fn ≤ 42) (h : lo14 fn ≤ l.length ∧ l.length ≤ hi14 fn) (hk : k < l.length) (hv : vOk (l.getD k blankV) = false) : vCall14 fn l = (blankV, 2) := by
  unfold vCall14; rw [if_neg (by omega), if_neg (by omega), if_pos]; rw [List.any_eq_true]; refine ⟨l[k], List.getElem_mem hk, ?_⟩; rw [← show l.getD k blankV = l[k] by simp [List.getD, hk], hv]; rfl
theorem v14_conv {fn : Nat} {l : List Vl} (h1 : 31 ≤ fn) (h2 : fn ≤ 42) (h : lo14 fn ≤ l.length ∧ l.length ≤ hi14 fn) (hv : ∀ v ∈ l, vOk v = true) : vCall14 fn l = match firstE (args14 fn 0 l) with
    | some e => (e, 0)
    | none => (val14 fn (txts14 fn 0 l) (nums14 fn 0 l), 0) := by
  unfold vCall14; rw [if_neg (by omega), if_neg (by omega), if_neg]; rw [List.any_eq_true]; rintro ⟨v, hm, hn⟩; rw [hv v hm] at hn; cases hn
theorem v14_err {fn : Nat} {l : List Vl} {x : Vl} (h1 : 31 ≤ fn) (h2 : fn ≤ 42) (h : lo14 fn ≤ l.length ∧ l.length ≤ hi14 fn) (hv : ∀ v ∈ l, vOk v = true) (he : firstE (args14 fn 0 l) = some x) : vCall14 fn l = (x, 0) := by rw [v14_conv h1 h2 h hv, he]
theorem v14_val {fn : Nat} {l : List Vl} (h1 : 31 ≤ fn) (h2 : fn ≤ 42) (h : lo14 fn ≤ l.length ∧ l.length ≤ hi14 fn) (hv : ∀ v ∈ l, vOk v = true) (he : firstE (args14 fn 0 l) = none) : vCall14 fn l = (val14 fn (txts14 fn 0 l) (nums14 fn 0 l), 0) := by rw [v14_conv h1 h2 h hv, he]
theorem all_ok {l : List Vl} (h : ∀ j, j < l.length → vOk (l.getD j blankV) = true) : ∀ v ∈ l, vOk v = true := fun v hv => by
  obtain ⟨j, hj, e⟩ := List.getElem_of_mem hv; have := h j hj
  rwa [show l.getD j blankV = l[j] by simp [List.getD, hj], e] at this
theorem nums38 : ∀ (l : List Vl) (i : Nat), nums14 38 i l = []
  | [], _ => rfl
  | v :: l, i => nums38 l (i + 1)
theorem txts38 : ∀ (l : List Vl) (i : Nat), txts14 38 i l = l.map fun v => (vTxt v).t
  | [], _ => rfl
  | v :: l, i => by rw [List.map_cons, ← txts38 l (i + 1)]; rfl
theorem txt_short {v : Vl} (h : vOk v = true) (hn : i64 v.n) : (vTxt v).t.length ≤ 256 := by
  rcases ok_cases h with rfl | ⟨n, hn0, rfl⟩ | rfl | rfl | ⟨t, ht, rfl⟩ | ⟨c, c1, c2, rfl⟩
  · decide
  · unfold vTxt; rw [h]
    show (fmt n).length ≤ 256; exact Nat.le_trans (fmt_short (by obtain ⟨h1, h2⟩ := hn; simp only at h1 h2; omega)) (by decide)
  · decide
  · decide
  · unfold vTxt; rw [h]
    show t.length ≤ 256; unfold okT at ht; rw [Bool.and_eq_true, decide_eq_true_eq] at ht; exact ht.1
  · unfold vTxt; rw [h]; show ([] : List UInt8).length ≤ 256; decide
end Go.Proofs.YtbpkfnoenkoabaaGreatDoor.Lv
