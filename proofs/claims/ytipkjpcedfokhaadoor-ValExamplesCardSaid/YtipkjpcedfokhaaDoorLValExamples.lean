/- The law ValExamples, walked. -/
import Derived.Test.YtipkjpcedfokhaaDoorBunC
import Derived.Test.YtipkjpcedfokhaaDoorGShow2
import Derived.Test.YtipkjpcedfokhaaDoorGCode
import Derived.Test.YtipkjpcedfokhaaDoorQFree
namespace Go.Proofs.YtipkjpcedfokhaaDoor
set_option linter.unusedVariables false
set_option linter.unusedSimpArgs false
open Go.RowKit Lv

/-- yes, no and blank -/
structure Trio (w : World) (p : Nat) : Prop where
  A : Box w p 35 #[.int .u8 2, .int .i64 1, .string ⟨#[]⟩]
  B : Box w (p + 1) 35 #[.int .u8 2, .int .i64 0, .string ⟨#[]⟩]
  C : Box w (p + 2) 35 #[.int .u8 0, .int .i64 0, .string ⟨#[]⟩]
theorem Trio.kept {w w' : World} {p : Nat} (h : Trio w p) (k : Kept w w') : Trio w' p := ⟨h.A.kept k, h.B.kept k, h.C.kept k⟩

def badCs : Array Value := #[.int .u8 1, .int .i64 (-9223372036854775808), .string ⟨#[]⟩, .int .u8 2, .int .i64 2, .string ⟨#[]⟩, .int .u8 3, .int .i64 1, .string ⟨#[]⟩, .int .u8 4, .int .i64 7, .string ⟨#[]⟩, .int .u8 5, .int .i64 0, .string ⟨#[]⟩, .int .u8 0, .int .i64 1, .string ⟨#[]⟩, .int .u8 1, .int .i64 0, .string ⟨#[120]⟩, .int .u8 4, .int .i64 0, .string ⟨#[]⟩, .int .u8 3, .int .i64 0, .string ⟨#[9]⟩]
/-- what lies in a row of values -/
def At3 (cs : Array Value) (k : Nat) (v : Vl) : Prop := cs[k * 3]? = some (.int .u8 v.k) ∧ cs[k * 3 + 1]? = some (.int .i64 v.n) ∧ cs[k * 3 + 2]? = some (.string ⟨v.t.toArray⟩)
theorem badAt (k : Nat) (h : k < 9) : ∃ v : Vl, i64 v.n ∧ v.t.length ≤ 1000000 ∧ vChk v = 2 ∧ At3 badCs k v := by
  match k, h with
  | 0, _ => exact ⟨⟨1, -9223372036854775808, []⟩, ⟨by decide, by decide⟩, by decide, by decide, rfl, rfl, rfl⟩
  | 1, _ => exact ⟨⟨2, 2, []⟩, ⟨by decide, by decide⟩, by decide, by decide, rfl, rfl, rfl⟩
  | 2, _ => exact ⟨⟨3, 1, []⟩, ⟨by decide, by decide⟩, by decide, by decide, rfl, rfl, rfl⟩
  | 3, _ => exact ⟨⟨4, 7, []⟩, ⟨by decide, by decide⟩, by decide, by decide, rfl, rfl, rfl⟩
  | 4, _ => exact ⟨⟨5, 0, []⟩, ⟨by decide, by decide⟩, by decide, by decide, rfl, rfl, rfl⟩
  | 5, _ => exact ⟨⟨0, 1, []⟩, ⟨by decide, by decide⟩, by decide, by decide, rfl, rfl, rfl⟩
  | 6, _ => exact ⟨⟨1, 0, [120]⟩, ⟨by decide, by decide⟩, by decide, by decide, rfl, rfl, rfl⟩
  | 7, _ => exact ⟨⟨4, 0, []⟩, ⟨by decide, by decide⟩, by decide, by decide, rfl, rfl, rfl⟩
  | 8, _ => exact ⟨⟨3, 0, [9]⟩, ⟨by decide, by decide⟩, by decide, by decide, rfl, rfl, rfl⟩

def okCs : Array Value := #[.int .u8 0, .int .i64 0, .string ⟨#[]⟩, .int .u8 1, .int .i64 (-9223372036854775807), .string ⟨#[]⟩, .int .u8 2, .int .i64 1, .string ⟨#[]⟩, .int .u8 2, .int .i64 0, .string ⟨#[]⟩, .int .u8 3, .int .i64 0, .string ⟨#[]⟩, .int .u8 4, .int .i64 1, .string ⟨#[]⟩, .int .u8 4, .int .i64 6, .string ⟨#[]⟩]
theorem okAt (k : Nat) (h : k < 7) : ∃ v : Vl, i64 v.n ∧ v.t.length ≤ 1000000 ∧ vChk v = 0 ∧ At3 okCs k v := by
  match k, h with
  | 0, _ => exact ⟨⟨0, 0, []⟩, ⟨by decide, by decide⟩, by decide, by decide, rfl, rfl, rfl⟩
  | 1, _ => exact ⟨⟨1, -9223372036854775807, []⟩, ⟨by decide, by decide⟩, by decide, by decide, rfl, rfl, rfl⟩
  | 2, _ => exact ⟨⟨2, 1, []⟩, ⟨by decide, by decide⟩, by decide, by decide, rfl, rfl, rfl⟩
  | 3, _ => exact ⟨⟨2, 0, []⟩, ⟨by decide, by decide⟩, by decide, by decide, rfl, rfl, rfl⟩
  | 4, _ => exact ⟨⟨3, 0, []⟩, ⟨by decide, by decide⟩, by decide, by decide, rfl, rfl, rfl⟩
  | 5, _ => exact ⟨⟨4, 1, []⟩, ⟨by decide, by decide⟩, by decide, by decide, rfl, rfl, rfl⟩
  | 6, _ => exact ⟨⟨4, 6, []⟩, ⟨by decide, by decide⟩, by decide, by decide, rfl, rfl, rfl⟩
theorem Trio.cells {w : World} {p : Nat} (h : Trio w p) : (w.cell? ⟨p, 0, none⟩ = some (.int .u8 2) ∧ w.cell? ⟨p, 1, none⟩ = some (.int .i64 1) ∧ w.cell? ⟨p, 2, none⟩ = some (.string ⟨#[]⟩)) ∧ (w.cell? ⟨p + 1, 0, none⟩ = some (.int .u8 2) ∧ w.cell? ⟨p + 1, 1, none⟩ = some (.int .i64 0) ∧ w.cell? ⟨p + 1, 2, none⟩ = some (.string ⟨#[]⟩)) ∧ (w.cell? ⟨p + 1 + 1, 0, none⟩ = some (.int .u8 0) ∧ w.cell? ⟨p + 1 + 1, 1, none⟩ = some (.int .i64 0) ∧ w.cell? ⟨p + 1 + 1, 2, none⟩ = some (.string ⟨#[]⟩)) :=
  ⟨⟨h.A.cell 0, h.A.cell 1, h.A.cell 2⟩, ⟨h.B.cell 0, h.B.cell 1, h.B.cell 2⟩, ⟨h.C.cell 0, h.C.cell 1, h.C.cell 2⟩⟩



-- PAIRS
def pairCs : Array Value := #[.int .u8 0, .int .i64 0, .string ⟨#[]⟩, .int .u8 1, .int .i64 0, .string ⟨#[]⟩, .int .i64 0, .int .u8 0, .int .i64 0, .string ⟨#[]⟩, .int .u8 3, .int .i64 0, .string ⟨#[]⟩, .int .i64 0, .int .u8 1, .int .i64 20000, .string ⟨#[]⟩, .int .u8 1, .int .i64 100000, .string ⟨#[]⟩, .int .i64 (-1), .int .u8 3, .int .i64 0, .string ⟨#[98]⟩, .int .u8 3, .int .i64 0, .string ⟨#[65]⟩, .int .i64 1, .int .u8 1, .int .i64 90000, .string ⟨#[]⟩, .int .u8 3, .int .i64 0, .string ⟨#[49]⟩, .int .i64 (-1), .int .u8 3, .int .i64 0, .string ⟨#[120]⟩, .int .u8 2, .int .i64 0, .string ⟨#[]⟩, .int .i64 (-1), .int .u8 0, .int .i64 0, .string ⟨#[]⟩, .int .u8 0, .int .i64 0, .string ⟨#[]⟩, .int .i64 0, .int .u8 0, .int .i64 0, .string ⟨#[]⟩, .int .u8 2, .int .i64 1, .string ⟨#[]⟩, .int .i64 (-1), .int .u8 0, .int .i64 0, .string ⟨#[]⟩, .int .u8 1, .int .i64 (-1), .string ⟨#[]⟩, .int .i64 1, .int .u8 2, .int .i64 1, .string ⟨#[]⟩, .int .u8 2, .int .i64 0, .string ⟨#[]⟩, .int .i64 1, .int .u8 3, .int .i64 0, .string ⟨#[97, 98]⟩, .int .u8 3, .int .i64 0, .string ⟨#[65, 66]⟩, .int .i64 0]
def At7 (cs : Array Value) (k : Nat) (a b : Vl) (c : Int) : Prop := (cs[k * 7]? = some (.int .u8 a.k) ∧ cs[k * 7 + 1]? = some (.int .i64 a.n) ∧ cs[k * 7 + 2]? = some (.string ⟨a.t.toArray⟩)) ∧ (cs[k * 7 + 3]? = some (.int .u8 b.k) ∧ cs[k * 7 + 3 + 1]? = some (.int .i64 b.n) ∧ cs[k * 7 + 3 + 2]? = some (.string ⟨b.t.toArray⟩)) ∧ cs[k * 7 + 6]? = some (.int .i64 c)
theorem pairAt (k : Nat) (h : k < 11) : ∃ (a b : Vl) (c : Int), i64 a.n ∧ i64 b.n ∧ a.t.length ≤ 1000000 ∧ b.t.length ≤ 1000000 ∧ vCmp a b = (c, 0) ∧ At7 pairCs k a b c := by
  match k, h with
  | 0, _ => exact ⟨⟨0, 0, []⟩, ⟨1, 0, []⟩, 0, ⟨by decide, by decide⟩, ⟨by decide, by decide⟩, by decide, by decide, by decide, ⟨rfl, rfl, rfl⟩, ⟨rfl, rfl, rfl⟩, rfl⟩
  | 1, _ => exact ⟨⟨0, 0, []⟩, ⟨3, 0, []⟩, 0, ⟨by decide, by decide⟩, ⟨by decide, by decide⟩, by decide, by decide, by decide, ⟨rfl, rfl, rfl⟩, ⟨rfl, rfl, rfl⟩, rfl⟩
  | 2, _ => exact ⟨⟨1, 20000, []⟩, ⟨1, 100000, []⟩, -1, ⟨by decide, by decide⟩, ⟨by decide, by decide⟩, by decide, by decide, by decide, ⟨rfl, rfl, rfl⟩, ⟨rfl, rfl, rfl⟩, rfl⟩
  | 3, _ => exact ⟨⟨3, 0, [98]⟩, ⟨3, 0, [65]⟩, 1, ⟨by decide, by decide⟩, ⟨by decide, by decide⟩, by decide, by decide, by decide, ⟨rfl, rfl, rfl⟩, ⟨rfl, rfl, rfl⟩, rfl⟩
  | 4, _ => exact ⟨⟨1, 90000, []⟩, ⟨3, 0, [49]⟩, -1, ⟨by decide, by decide⟩, ⟨by decide, by decide⟩, by decide, by decide, by decide, ⟨rfl, rfl, rfl⟩, ⟨rfl, rfl, rfl⟩, rfl⟩
  | 5, _ => exact ⟨⟨3, 0, [120]⟩, ⟨2, 0, []⟩, -1, ⟨by decide, by decide⟩, ⟨by decide, by decide⟩, by decide, by decide, by decide, ⟨rfl, rfl, rfl⟩, ⟨rfl, rfl, rfl⟩, rfl⟩
  | 6, _ => exact ⟨⟨0, 0, []⟩, ⟨0, 0, []⟩, 0, ⟨by decide, by decide⟩, ⟨by decide, by decide⟩, by decide, by decide, by decide, ⟨rfl, rfl, rfl⟩, ⟨rfl, rfl, rfl⟩, rfl⟩
  | 7, _ => exact ⟨⟨0, 0, []⟩, ⟨2, 1, []⟩, -1, ⟨by decide, by decide⟩, ⟨by decide, by decide⟩, by decide, by decide, by decide, ⟨rfl, rfl, rfl⟩, ⟨rfl, rfl, rfl⟩, rfl⟩
  | 8, _ => exact ⟨⟨0, 0, []⟩, ⟨1, -1, []⟩, 1, ⟨by decide, by decide⟩, ⟨by decide, by decide⟩, by decide, by decide, by decide, ⟨rfl, rfl, rfl⟩, ⟨rfl, rfl, rfl⟩, rfl⟩
  | 9, _ => exact ⟨⟨2, 1, []⟩, ⟨2, 0, []⟩, 1, ⟨by decide, by decide⟩, ⟨by decide, by decide⟩, by decide, by decide, by decide, ⟨rfl, rfl, rfl⟩, ⟨rfl, rfl, rfl⟩, rfl⟩
  | 10, _ => exact ⟨⟨3, 0, [97, 98]⟩, ⟨3, 0, [65, 66]⟩, 0, ⟨by decide, by decide⟩, ⟨by decide, by decide⟩, by decide, by decide, by decide, ⟨rfl, rfl, rfl⟩, ⟨rfl, rfl, rfl⟩, rfl⟩
theorem lit_num {v x : Vl} {mx : Int} (e : vNum v = x) (h1 : i64 v.n) (h2 : v.t.length ≤ 2000) (w : World) (h : Mx w mx) : Calls Tryd.prog 65 #[aggV v] w fun e w' => e = .returned (aggV x) ∧ Kept w w' := by have := tonum_any v w mx h h1 h2; rwa [e] at this
theorem lit_txt {v x : Vl} (e : vTxt v = x) (h1 : i64 v.n) (h2 : v.t.length ≤ 2000) (w : World) : Calls Tryd.prog 67 #[aggV v] w fun e w' => e = .returned (aggV x) ∧ Kept w w' := by have := totxt_any v w h1 h2; rwa [e] at this
theorem lit_bool {v x : Vl} (e : vBool v = x) (h1 : i64 v.n) (h2 : v.t.length ≤ 2000) (w : World) : Calls Tryd.prog 53 #[aggV v] w fun e w' => e = .returned (aggV x) ∧ Kept w w' := by have := tobool_any v w h1 h2; rwa [e] at this
theorem lit_show {v : Vl} {x : List UInt8} (e : vShow v = x) (h1 : i64 v.n) (h2 : v.t.length ≤ 2000) (w : World) (h : Wd w) : Calls Tryd.prog 63 #[aggV v] w fun e w' => e = .returned (.string ⟨x.toArray⟩) ∧ Kept w w' := by have := vshow_any v w h h1 h2; rwa [e] at this
theorem lit_code {s : List UInt8} {a b : Int} (e : vCode s = (a, b)) (h2 : s.length ≤ 1000000) (w : World) (h : Wd w) : Calls Tryd.prog 54 #[.string ⟨s.toArray⟩] w fun e w' => e = .returned (.tuple #[.int .i64 a, .int .i64 b]) ∧ Kept w w' := by have := vcode_any s w h h2; rwa [e] at this
-- PAIRS END

set_option maxHeartbeats 8000000 in
set_option maxRecDepth 100000 in
theorem ValExamples_walk (w : World) (mx : Int) (hm : Mx w mx) (wd : Wd w) :
    Calls Tryd.prog 20 #[] w fun e w' => e = .returned (.bool true) ∧ Below w.heap.size w w' := by
  have X0 : Hid (∀ w, Mx w mx → Calls Tryd.prog 65 #[.agg #[.int .u8 3, .int .i64 0, .string ⟨#[32, 49, 46, 53, 32]⟩]] w fun e w' => e = .returned (.agg #[.int .u8 1, .int .i64 15000, .string ⟨#[]⟩]) ∧ Kept w w') := fun w h => lit_num (v := ⟨3, 0, [32, 49, 46, 53, 32]⟩) (by rfl) ⟨by decide, by decide⟩ (by decide) w h
  have X1 : Hid (∀ w, Mx w mx → Calls Tryd.prog 65 #[.agg #[.int .u8 3, .int .i64 0, .string ⟨#[120]⟩]] w fun e w' => e = .returned (.agg #[.int .u8 4, .int .i64 2, .string ⟨#[]⟩]) ∧ Kept w w') := fun w h => lit_num (v := ⟨3, 0, [120]⟩) (by rfl) ⟨by decide, by decide⟩ (by decide) w h
  have X2 : Hid (∀ w, Mx w mx → Calls Tryd.prog 65 #[.agg #[.int .u8 3, .int .i64 0, .string ⟨#[]⟩]] w fun e w' => e = .returned (.agg #[.int .u8 4, .int .i64 2, .string ⟨#[]⟩]) ∧ Kept w w') := fun w h => lit_num (v := ⟨3, 0, []⟩) (by rfl) ⟨by decide, by decide⟩ (by decide) w h
  have X3 : Hid (∀ w, Mx w mx → Calls Tryd.prog 65 #[.agg #[.int .u8 2, .int .i64 1, .string ⟨#[]⟩]] w fun e w' => e = .returned (.agg #[.int .u8 1, .int .i64 10000, .string ⟨#[]⟩]) ∧ Kept w w') := fun w h => lit_num (v := ⟨2, 1, []⟩) (by rfl) ⟨by decide, by decide⟩ (by decide) w h
  have X4 : Hid (∀ w, Mx w mx → Calls Tryd.prog 65 #[.agg #[.int .u8 3, .int .i64 0, .string ⟨#[57, 57, 57, 57, 57, 57, 57, 57, 57, 57, 57, 57, 57, 57, 57, 57]⟩]] w fun e w' => e = .returned (.agg #[.int .u8 4, .int .i64 3, .string ⟨#[]⟩]) ∧ Kept w w') := fun w h => lit_num (v := ⟨3, 0, [57, 57, 57, 57, 57, 57, 57, 57, 57, 57, 57, 57, 57, 57, 57, 57]⟩) (by rfl) ⟨by decide, by decide⟩ (by decide) w h
  have X5 : Hid (∀ w, Mx w mx → Calls Tryd.prog 65 #[.agg #[.int .u8 0, .int .i64 0, .string ⟨#[]⟩]] w fun e w' => e = .returned (.agg #[.int .u8 1, .int .i64 0, .string ⟨#[]⟩]) ∧ Kept w w') := fun w h => lit_num (v := ⟨0, 0, []⟩) (by rfl) ⟨by decide, by decide⟩ (by decide) w h
  have X6 : Hid (∀ w, Mx w mx → Calls Tryd.prog 65 #[.agg #[.int .u8 4, .int .i64 1, .string ⟨#[]⟩]] w fun e w' => e = .returned (.agg #[.int .u8 4, .int .i64 1, .string ⟨#[]⟩]) ∧ Kept w w') := fun w h => lit_num (v := ⟨4, 1, []⟩) (by rfl) ⟨by decide, by decide⟩ (by decide) w h
  have X7 : Hid (∀ w, Calls Tryd.prog 67 #[.agg #[.int .u8 1, .int .i64 15000, .string ⟨#[]⟩]] w fun e w' => e = .returned (.agg #[.int .u8 3, .int .i64 0, .string ⟨#[49, 46, 53]⟩]) ∧ Kept w w') := fun w => lit_txt (v := ⟨1, 15000, []⟩) (by rfl) ⟨by decide, by decide⟩ (by decide) w
  have X8 : Hid (∀ w, Calls Tryd.prog 67 #[.agg #[.int .u8 0, .int .i64 0, .string ⟨#[]⟩]] w fun e w' => e = .returned (.agg #[.int .u8 3, .int .i64 0, .string ⟨#[]⟩]) ∧ Kept w w') := fun w => lit_txt (v := ⟨0, 0, []⟩) (by rfl) ⟨by decide, by decide⟩ (by decide) w
  have X9 : Hid (∀ w, Calls Tryd.prog 67 #[.agg #[.int .u8 2, .int .i64 1, .string ⟨#[]⟩]] w fun e w' => e = .returned (.agg #[.int .u8 3, .int .i64 0, .string ⟨#[84, 82, 85, 69]⟩]) ∧ Kept w w') := fun w => lit_txt (v := ⟨2, 1, []⟩) (by rfl) ⟨by decide, by decide⟩ (by decide) w
  have X10 : Hid (∀ w, Calls Tryd.prog 67 #[.agg #[.int .u8 4, .int .i64 7, .string ⟨#[]⟩]] w fun e w' => e = .returned (.agg #[.int .u8 4, .int .i64 2, .string ⟨#[]⟩]) ∧ Kept w w') := fun w => lit_txt (v := ⟨4, 7, []⟩) (by rfl) ⟨by decide, by decide⟩ (by decide) w
  have X11 : Hid (∀ w, Calls Tryd.prog 53 #[.agg #[.int .u8 3, .int .i64 0, .string ⟨#[116, 114, 117, 101]⟩]] w fun e w' => e = .returned (.agg #[.int .u8 2, .int .i64 1, .string ⟨#[]⟩]) ∧ Kept w w') := fun w => lit_bool (v := ⟨3, 0, [116, 114, 117, 101]⟩) (by rfl) ⟨by decide, by decide⟩ (by decide) w
  have X12 : Hid (∀ w, Calls Tryd.prog 53 #[.agg #[.int .u8 1, .int .i64 1, .string ⟨#[]⟩]] w fun e w' => e = .returned (.agg #[.int .u8 2, .int .i64 1, .string ⟨#[]⟩]) ∧ Kept w w') := fun w => lit_bool (v := ⟨1, 1, []⟩) (by rfl) ⟨by decide, by decide⟩ (by decide) w
  have X13 : Hid (∀ w, Calls Tryd.prog 53 #[.agg #[.int .u8 3, .int .i64 0, .string ⟨#[32, 84, 82, 85, 69]⟩]] w fun e w' => e = .returned (.agg #[.int .u8 4, .int .i64 2, .string ⟨#[]⟩]) ∧ Kept w w') := fun w => lit_bool (v := ⟨3, 0, [32, 84, 82, 85, 69]⟩) (by rfl) ⟨by decide, by decide⟩ (by decide) w
  have X14 : Hid (∀ w, Calls Tryd.prog 53 #[.agg #[.int .u8 0, .int .i64 0, .string ⟨#[]⟩]] w fun e w' => e = .returned (.agg #[.int .u8 2, .int .i64 0, .string ⟨#[]⟩]) ∧ Kept w w') := fun w => lit_bool (v := ⟨0, 0, []⟩) (by rfl) ⟨by decide, by decide⟩ (by decide) w
  have X15 : Hid (∀ w, Calls Tryd.prog 53 #[.agg #[.int .u8 1, .int .i64 0, .string ⟨#[]⟩]] w fun e w' => e = .returned (.agg #[.int .u8 2, .int .i64 0, .string ⟨#[]⟩]) ∧ Kept w w') := fun w => lit_bool (v := ⟨1, 0, []⟩) (by rfl) ⟨by decide, by decide⟩ (by decide) w
  have X16 : Hid (∀ w, Wd w → Calls Tryd.prog 63 #[.agg #[.int .u8 4, .int .i64 7, .string ⟨#[]⟩]] w fun e w' => e = .returned (.string ⟨#[35, 68, 69, 78, 73, 69, 68]⟩) ∧ Kept w w') := fun w h => lit_show (v := ⟨4, 7, []⟩) (by rfl) ⟨by decide, by decide⟩ (by decide) w h
  have X17 : Hid (∀ w, Wd w → Calls Tryd.prog 63 #[.agg #[.int .u8 0, .int .i64 0, .string ⟨#[]⟩]] w fun e w' => e = .returned (.string ⟨#[]⟩) ∧ Kept w w') := fun w h => lit_show (v := ⟨0, 0, []⟩) (by rfl) ⟨by decide, by decide⟩ (by decide) w h
  have X18 : Hid (∀ w, Wd w → Calls Tryd.prog 63 #[.agg #[.int .u8 1, .int .i64 (-5000), .string ⟨#[]⟩]] w fun e w' => e = .returned (.string ⟨#[45, 48, 46, 53]⟩) ∧ Kept w w') := fun w h => lit_show (v := ⟨1, -5000, []⟩) (by rfl) ⟨by decide, by decide⟩ (by decide) w h
  have X19 : Hid (∀ w, Wd w → Calls Tryd.prog 54 #[.string ⟨#[35, 100, 105, 118, 47, 48, 33]⟩] w fun e w' => e = .returned (.tuple #[.int .i64 1, .int .i64 0]) ∧ Kept w w') := fun w h => lit_code (s := [35, 100, 105, 118, 47, 48, 33]) (by rfl) (by decide) w h
  have X20 : Hid (∀ w, Wd w → Calls Tryd.prog 54 #[.string ⟨#[35, 88]⟩] w fun e w' => e = .returned (.tuple #[.int .i64 0, .int .i64 4]) ∧ Kept w w') := fun w h => lit_code (s := [35, 88]) (by rfl) (by decide) w h
  have XC : Hid (∀ w, Calls Tryd.prog 41 #[.agg #[.int .u8 4, .int .i64 4, .string ⟨#[]⟩], .agg #[.int .u8 1, .int .i64 1, .string ⟨#[]⟩]] w fun e w' => e = .returned (.tuple #[.int .i64 0, .int .i64 2]) ∧ Kept w w') := fun w => vcompare_any ⟨4, 4, []⟩ ⟨1, 1, []⟩ w ⟨by decide, by decide⟩ ⟨by decide, by decide⟩ (by decide) (by decide)
  have XF : Hid (∀ w, Calls Tryd.prog 61 #[.int .i64 0] w fun e w' => e = .returned (.agg #[.int .u8 4, .int .i64 2, .string ⟨#[]⟩]) ∧ Kept w w') := fun w => vfail_any 0 w
  have XM : Hid (∀ w, Calls Tryd.prog 57 #[.int .i64 (-9223372036854775808)] w fun e w' => e = .returned (.agg #[.int .u8 4, .int .i64 3, .string ⟨#[]⟩]) ∧ Kept w w') := fun w => vmake_any (-9223372036854775808) w (by omega) (by omega)
  have HF := Lib.hid fails_v
  have HN := Lib.hid number_v
  have HT := Lib.hid text_v
  have HM := Lib.hid hm
  have WD := Lib.hid wd
  clear hm wd
  go_enter Tryd.func20, Tryd.ntmps20
  go_wp2_with fail
  refine (HF.out _ _).mono ?_
  rintro e w1 ⟨rfl, k1⟩
  have t0 : Trio (((w.alloc (.cells #[.int .u8 2, .int .i64 1, .string ⟨#[]⟩] 35)).alloc (.cells #[.int .u8 2, .int .i64 0, .string ⟨#[]⟩] 35)).alloc (.cells #[.int .u8 0, .int .i64 0, .string ⟨#[]⟩] 35)) w.heap.size :=
    ⟨Box.alloc (Box.alloc (Box.new w _ _) _) _, Box.alloc (Box.newAt (by rw [World.size_alloc]) _ _) _, Box.newAt (by rw [World.size_alloc, World.size_alloc]) _ _⟩
  have kk := (((Kept.refl w).alloc (.cells #[.int .u8 2, .int .i64 1, .string ⟨#[]⟩] 35)).alloc (.cells #[.int .u8 2, .int .i64 0, .string ⟨#[]⟩] 35)).alloc (.cells #[.int .u8 0, .int .i64 0, .string ⟨#[]⟩] 35)
  have T1 := Lib.hid (t0.kept k1)
  have kk1 := kk.trans k1
  clear t0 kk k1
  go_wp2_with fail
  refine (HF.out _ _).mono ?_
  rintro e w2 ⟨rfl, k2⟩
  have T2 := Lib.hid (T1.out.kept k2)
  have kk2 := kk1.trans k2
  clear T1 kk1 k2
  go_wp2_with fail
  refine (HT.out _ _).mono ?_
  rintro e w3 ⟨rfl, k3⟩
  have T3 := Lib.hid (T2.out.kept k3)
  have kk3 := kk2.trans k3
  clear T2 kk2 k3
  go_wp2_with fail
  have b4 : Box (w3.alloc (.cells badCs 35)) w3.heap.size 35 badCs := Box.new w3 _ _
  have T4 := Lib.hid (T3.out.kept (Kept.alloc (Kept.refl w3) (.cells badCs 35)))
  have kk4 := kk3.alloc (.cells badCs 35)
  unfold badCs at kk4 T4
  have B4 : Hid (Box (w3.alloc (.cells #[.int .u8 1, .int .i64 (-9223372036854775808), .string ⟨#[]⟩, .int .u8 2, .int .i64 2, .string ⟨#[]⟩, .int .u8 3, .int .i64 1, .string ⟨#[]⟩, .int .u8 4, .int .i64 7, .string ⟨#[]⟩, .int .u8 5, .int .i64 0, .string ⟨#[]⟩, .int .u8 0, .int .i64 1, .string ⟨#[]⟩, .int .u8 1, .int .i64 0, .string ⟨#[120]⟩, .int .u8 4, .int .i64 0, .string ⟨#[]⟩, .int .u8 3, .int .i64 0, .string ⟨#[9]⟩] 35)) w3.heap.size 35 badCs) := b4
  clear T3 kk3 b4
  generalize (w3.alloc (.cells #[.int .u8 1, .int .i64 (-9223372036854775808), .string ⟨#[]⟩, .int .u8 2, .int .i64 2, .string ⟨#[]⟩, .int .u8 3, .int .i64 1, .string ⟨#[]⟩, .int .u8 4, .int .i64 7, .string ⟨#[]⟩, .int .u8 5, .int .i64 0, .string ⟨#[]⟩, .int .u8 0, .int .i64 1, .string ⟨#[]⟩, .int .u8 1, .int .i64 0, .string ⟨#[120]⟩, .int .u8 4, .int .i64 0, .string ⟨#[]⟩, .int .u8 3, .int .i64 0, .string ⟨#[9]⟩] 35)) = w4 at *
  generalize w3.heap.size = p4 at *
  go_loopw [32] (fun i wr => ∃ k : Nat, k ≤ 9 ∧ i = .int .i64 k ∧ Kept w wr ∧ Trio wr w.heap.size ∧ Box wr p4 35 badCs) (fun i _ => 9 - (intOf i).toNat)
  case atStart => exact ⟨0, by omega, rfl, kk4, T4.out, B4.out⟩
  case round =>
    obtain ⟨k, hk, rfl, kw, tr, bs⟩ := hrel
    have TR := Lib.hid tr
    clear tr
    by_cases h9 : k < 9
    · obtain ⟨v, v1, v2, v3, c0, c1, c2⟩ := badAt k h9
      have x0 := (bs.cell (k * 3)).trans c0
      have x1 := (bs.cell (k * 3 + 1)).trans c1
      have x2 := (bs.cell (k * 3 + 2)).trans c2
      have BS := Lib.hid bs
      have CK : Hid (∀ w, Calls Tryd.prog 51 #[aggV v] w fun e w' => e = .returned (.int .i64 2) ∧ Kept w w') := fun w => by
        have := vcheck5_any v w v1 v2
        rwa [v3] at this
      clear v1 v2 v3 c0 c1 c2 bs
      go_wp2_with fail
      refine (CK.out _).mono ?_
      rintro e w5 ⟨rfl, k5⟩
      have ka := (Kept.alloc (Kept.refl wr) (.cells #[.int .u8 v.k, .int .i64 v.n, .string ⟨v.t.toArray⟩] 35)).trans k5
      clear x0 x1 x2
      go_wp2_with fail
      go_roundw
      case rel => exact ⟨k + 1, by omega, by go_num, kw.trans ka, TR.out.kept ka, BS.out.kept ka⟩
      case measure => (simp [intOf]; try omega)
    · obtain rfl : k = 9 := by omega
      clear h9 hk B4 T4 kk4 bs
      obtain ⟨⟨a0, a1, a2⟩, ⟨b0, b1, b2⟩, ⟨d0, d1, d2⟩⟩ := TR.out.cells
      go_wp2_with fail
      have A0 := cell_regrown a0; have A1 := cell_regrown a1; have A2 := cell_regrown a2
      have B0 := cell_regrown b0; have B1 := cell_regrown b1; have B2 := cell_regrown b2
      have D0 := cell_regrown d0; have D1 := cell_regrown d1; have D2 := cell_regrown d2
      refine region_free_tail (C := fun w' => ∃ p : Regrown, w' = Go.Sort.grow (redrawn wr p.d) p.os) 7 9 _ (.int .i64 0) (by kernel_rfl) (by kernel_rfl) rfl (Or.inl ⟨rfl, fun _ => rfl⟩) (fun _ _ _ h => h) ⟨⟨wr.drawn + 1, #[]⟩, by rw [Go.Sort.grow_empty]; rfl⟩ ?_
      simp only [List.take_succ_cons, List.take_zero, List.drop_succ_cons, List.drop_zero]
      repeat (quiet_step (first | with_reducible exact Calls.regrown_of (HN.out _ _) | with_reducible exact Calls.regrown_of (HT.out _ _) | with_reducible exact Calls.regrown_of (HF.out _ _)))
      refine wpQuiet_nil ?_
      intro _ hw'; obtain ⟨⟨dq, osq⟩, hw''⟩ := hw'; subst hw''
      have kq : Kept wr (Go.Sort.grow (redrawn wr dq) osq) := below_regrown wr dq osq
      generalize Go.Sort.grow (redrawn wr dq) osq = wrq at *
      clear A0 A1 A2 B0 B1 B2 D0 D1 D2 a0 a1 a2 b0 b1 b2 d0 d1 d2
      have T5 := Lib.hid (TR.out.kept kq)
      have kk5 := kw.trans kq
      clear TR kw kq
      go_wp2_with fail
      -- REST
      have T6 := Lib.hid (T5.out.kept (Kept.alloc (Kept.refl wrq) (.cells okCs 35)))
      have kk6 := kk5.alloc (.cells okCs 35)
      have B6 : Hid (Box (wrq.alloc (.cells okCs 35)) wrq.heap.size 35 okCs) := Box.new wrq _ _
      unfold okCs at kk6 T6
      have B6 : Hid (Box (wrq.alloc (.cells #[.int .u8 0, .int .i64 0, .string ⟨#[]⟩, .int .u8 1, .int .i64 (-9223372036854775807), .string ⟨#[]⟩, .int .u8 2, .int .i64 1, .string ⟨#[]⟩, .int .u8 2, .int .i64 0, .string ⟨#[]⟩, .int .u8 3, .int .i64 0, .string ⟨#[]⟩, .int .u8 4, .int .i64 1, .string ⟨#[]⟩, .int .u8 4, .int .i64 6, .string ⟨#[]⟩] 35)) wrq.heap.size 35 okCs) := B6
      clear T5 kk5
      generalize (wrq.alloc (.cells #[.int .u8 0, .int .i64 0, .string ⟨#[]⟩, .int .u8 1, .int .i64 (-9223372036854775807), .string ⟨#[]⟩, .int .u8 2, .int .i64 1, .string ⟨#[]⟩, .int .u8 2, .int .i64 0, .string ⟨#[]⟩, .int .u8 3, .int .i64 0, .string ⟨#[]⟩, .int .u8 4, .int .i64 1, .string ⟨#[]⟩, .int .u8 4, .int .i64 6, .string ⟨#[]⟩] 35)) = w6 at *
      generalize wrq.heap.size = p6 at *
      go_loopw [49] (fun i wx => ∃ k : Nat, k ≤ 7 ∧ i = .int .i64 k ∧ Kept w wx ∧ Trio wx w.heap.size ∧ Box wx p6 35 okCs) (fun i _ => 7 - (intOf i).toNat)
      case atStart => exact ⟨0, by omega, rfl, kk6, T6.out, B6.out⟩
      case round =>
        obtain ⟨k, hk, rfl, kw, tr, bs⟩ := hrel
        have TR := Lib.hid tr
        clear tr kk6 T6 B6
        by_cases h9 : k < 7
        · obtain ⟨v, v1, v2, v3, c0, c1, c2⟩ := okAt k h9
          have x0 := (bs.cell (k * 3)).trans c0
          have x1 := (bs.cell (k * 3 + 1)).trans c1
          have x2 := (bs.cell (k * 3 + 2)).trans c2
          have BS := Lib.hid bs
          have CK : Hid (∀ w, Calls Tryd.prog 51 #[aggV v] w fun e w' => e = .returned (.int .i64 0) ∧ Kept w w') := fun w => by
            have := vcheck5_any v w v1 v2
            rwa [v3] at this
          clear v1 v2 v3 c0 c1 c2 bs
          go_wp2_with fail
          refine (CK.out _).mono ?_
          rintro e w7 ⟨rfl, k7⟩
          have ka := (Kept.alloc (Kept.refl wr) (.cells #[.int .u8 v.k, .int .i64 v.n, .string ⟨v.t.toArray⟩] 35)).trans k7
          clear x0 x1 x2
          go_wp2_with fail
          go_roundw
          case rel => exact ⟨k + 1, by omega, by go_num, kw.trans ka, TR.out.kept ka, BS.out.kept ka⟩
          case measure => (simp [intOf]; try omega)
        · obtain rfl : k = 7 := by omega
          clear h9 hk bs
          obtain ⟨⟨a0, a1, a2⟩, ⟨b0, b1, b2⟩, ⟨d0, d1, d2⟩⟩ := TR.out.cells
          go_wp2_with fail
          have A0 := cell_regrown a0; have A1 := cell_regrown a1; have A2 := cell_regrown a2
          have B0 := cell_regrown b0; have B1 := cell_regrown b1; have B2 := cell_regrown b2
          have D0 := cell_regrown d0; have D1 := cell_regrown d1; have D2 := cell_regrown d2
          refine region_quiet_tail (C := fun w' => ∃ p : Regrown, w' = Go.Sort.grow (redrawn wr p.d) p.os) 33 (by kernel_rfl) (by kernel_rfl) ⟨⟨wr.drawn + 1, #[]⟩, by rw [Go.Sort.grow_empty]; rfl⟩ ?_
          simp only [List.take_succ_cons, List.take_zero, List.drop_succ_cons, List.drop_zero]
          repeat (quiet_step (first | with_reducible exact Calls.regrown_of (HN.out _ _) | with_reducible exact Calls.regrown_of (HT.out _ _) | with_reducible exact Calls.regrown_of (HF.out _ _)))
          refine wpQuiet_nil ?_
          intro _ hw'; obtain ⟨⟨dq, osq⟩, hw''⟩ := hw'; subst hw''
          have kq : Kept wr (Go.Sort.grow (redrawn wr dq) osq) := below_regrown wr dq osq
          generalize Go.Sort.grow (redrawn wr dq) osq = wrq at *
          clear A0 A1 A2 B0 B1 B2 D0 D1 D2 a0 a1 a2 b0 b1 b2 d0 d1 d2
          have T8 := Lib.hid (TR.out.kept kq)
          have kk8 := kw.trans kq
          clear TR kw kq
          go_wp2_with fail
          have BP : Hid (Box (wrq.alloc (.cells pairCs 65)) wrq.heap.size 65 pairCs) := Box.new wrq _ _
          have T9 := Lib.hid (T8.out.kept (Kept.alloc (Kept.refl wrq) (.cells pairCs 65)))
          have kk9 := kk8.alloc (.cells pairCs 65)
          unfold pairCs at kk9 T9
          have BP : Hid (Box (wrq.alloc (.cells #[.int .u8 0, .int .i64 0, .string ⟨#[]⟩, .int .u8 1, .int .i64 0, .string ⟨#[]⟩, .int .i64 0, .int .u8 0, .int .i64 0, .string ⟨#[]⟩, .int .u8 3, .int .i64 0, .string ⟨#[]⟩, .int .i64 0, .int .u8 1, .int .i64 20000, .string ⟨#[]⟩, .int .u8 1, .int .i64 100000, .string ⟨#[]⟩, .int .i64 (-1), .int .u8 3, .int .i64 0, .string ⟨#[98]⟩, .int .u8 3, .int .i64 0, .string ⟨#[65]⟩, .int .i64 1, .int .u8 1, .int .i64 90000, .string ⟨#[]⟩, .int .u8 3, .int .i64 0, .string ⟨#[49]⟩, .int .i64 (-1), .int .u8 3, .int .i64 0, .string ⟨#[120]⟩, .int .u8 2, .int .i64 0, .string ⟨#[]⟩, .int .i64 (-1), .int .u8 0, .int .i64 0, .string ⟨#[]⟩, .int .u8 0, .int .i64 0, .string ⟨#[]⟩, .int .i64 0, .int .u8 0, .int .i64 0, .string ⟨#[]⟩, .int .u8 2, .int .i64 1, .string ⟨#[]⟩, .int .i64 (-1), .int .u8 0, .int .i64 0, .string ⟨#[]⟩, .int .u8 1, .int .i64 (-1), .string ⟨#[]⟩, .int .i64 1, .int .u8 2, .int .i64 1, .string ⟨#[]⟩, .int .u8 2, .int .i64 0, .string ⟨#[]⟩, .int .i64 1, .int .u8 3, .int .i64 0, .string ⟨#[97, 98]⟩, .int .u8 3, .int .i64 0, .string ⟨#[65, 66]⟩, .int .i64 0] 65)) wrq.heap.size 65 pairCs) := BP
          clear T8 kk8
          generalize (wrq.alloc (.cells #[.int .u8 0, .int .i64 0, .string ⟨#[]⟩, .int .u8 1, .int .i64 0, .string ⟨#[]⟩, .int .i64 0, .int .u8 0, .int .i64 0, .string ⟨#[]⟩, .int .u8 3, .int .i64 0, .string ⟨#[]⟩, .int .i64 0, .int .u8 1, .int .i64 20000, .string ⟨#[]⟩, .int .u8 1, .int .i64 100000, .string ⟨#[]⟩, .int .i64 (-1), .int .u8 3, .int .i64 0, .string ⟨#[98]⟩, .int .u8 3, .int .i64 0, .string ⟨#[65]⟩, .int .i64 1, .int .u8 1, .int .i64 90000, .string ⟨#[]⟩, .int .u8 3, .int .i64 0, .string ⟨#[49]⟩, .int .i64 (-1), .int .u8 3, .int .i64 0, .string ⟨#[120]⟩, .int .u8 2, .int .i64 0, .string ⟨#[]⟩, .int .i64 (-1), .int .u8 0, .int .i64 0, .string ⟨#[]⟩, .int .u8 0, .int .i64 0, .string ⟨#[]⟩, .int .i64 0, .int .u8 0, .int .i64 0, .string ⟨#[]⟩, .int .u8 2, .int .i64 1, .string ⟨#[]⟩, .int .i64 (-1), .int .u8 0, .int .i64 0, .string ⟨#[]⟩, .int .u8 1, .int .i64 (-1), .string ⟨#[]⟩, .int .i64 1, .int .u8 2, .int .i64 1, .string ⟨#[]⟩, .int .u8 2, .int .i64 0, .string ⟨#[]⟩, .int .i64 1, .int .u8 3, .int .i64 0, .string ⟨#[97, 98]⟩, .int .u8 3, .int .i64 0, .string ⟨#[65, 66]⟩, .int .i64 0] 65)) = w9 at *
          generalize wrq.heap.size = p9 at *
          go_loopw [9] (fun i wx => ∃ k : Nat, k ≤ 11 ∧ i = .int .i64 k ∧ Kept w wx ∧ Trio wx w.heap.size ∧ Box wx p9 65 pairCs) (fun i _ => 11 - (intOf i).toNat)
          case atStart => exact ⟨0, by omega, rfl, kk9, T9.out, BP.out⟩
          case round =>
            obtain ⟨k, hk, rfl, kw, tr, bs⟩ := hrel
            have TR := Lib.hid tr
            clear tr kk9 T9 BP
            by_cases h9 : k < 11
            · obtain ⟨a, b, c, a1, b1, a2, b2, cc, ⟨x0, x1, x2⟩, ⟨y0, y1, y2⟩, z0⟩ := pairAt k h9
              have X0c := (bs.cell (k * 7)).trans x0
              have X1c := (bs.cell (k * 7 + 1)).trans x1
              have X2c := (bs.cell (k * 7 + 2)).trans x2
              have Y0c := (bs.cell (k * 7 + 3)).trans y0
              have Y1c := (bs.cell (k * 7 + 3 + 1)).trans y1
              have Y2c := (bs.cell (k * 7 + 3 + 2)).trans y2
              have BS := Lib.hid bs
              have Z0 := Lib.hid z0
              have CK : Hid (∀ w, Calls Tryd.prog 41 #[aggV a, aggV b] w fun e w' => e = .returned (.tuple #[.int .i64 c, .int .i64 0]) ∧ Kept w w') := fun w => by
                have := vcompare_any a b w a1 b1 a2 b2
                rwa [cc] at this
              clear a1 b1 a2 b2 cc x0 x1 x2 y0 y1 y2 z0 bs
              go_wp2_with fail
              have A0 := cell_regrown X0c; have A1 := cell_regrown X1c; have A2 := cell_regrown X2c
              have B0 := cell_regrown Y0c; have B1 := cell_regrown Y1c; have B2 := cell_regrown Y2c
              refine wp_region_quiet_below (w := wr) (by kernel_rfl) (by kernel_rfl) ?_
              repeat (quiet_step (first | with_reducible exact Calls.regrown_of (CK.out _)))
              refine wpQuiet_nil ?_
              intro _ hw'; obtain ⟨⟨dq, osq⟩, hw''⟩ := hw'; subst hw''
              have kq : Kept wr (Go.Sort.grow (redrawn wr dq) osq) := below_regrown wr dq osq
              generalize Go.Sort.grow (redrawn wr dq) osq = wrq at *
              clear A0 A1 A2 B0 B1 B2 X0c X1c X2c Y0c Y1c Y2c
              have zc := ((BS.out.kept kq).cell (k * 7 + 6)).trans Z0.out
              have TQ := Lib.hid (TR.out.kept kq)
              have BQ := Lib.hid (BS.out.kept kq)
              have kw := kw.trans kq
              clear TR BS kq
              go_wp2_with fail
              go_roundw
              case rel => exact ⟨k + 1, by omega, by go_num, kw, TQ.out, BQ.out⟩
              case measure => (simp [intOf]; try omega)
            · obtain rfl : k = 11 := by omega
              clear h9 hk bs
              have TT := TR
              have kk := kw
              clear TR kw
              go_wp2_with fail
              refine (HF.out _ _).mono ?_
              rintro e w11 ⟨rfl, kz⟩
              have TT := Lib.hid (TT.out.kept kz)
              have kk := kk.trans kz
              clear kz
              go_wp2_with fail
              refine (HN.out _ _).mono ?_
              rintro e w12 ⟨rfl, kz⟩
              have TT := Lib.hid (TT.out.kept kz)
              have kk := kk.trans kz
              clear kz
              go_wp2_with fail
              refine (XC.out _).mono ?_
              rintro e w13 ⟨rfl, kz⟩
              have TT := Lib.hid (TT.out.kept kz)
              have kk := kk.trans kz
              clear kz
              go_wp2_with fail
              refine (HT.out _ _).mono ?_
              rintro e w14 ⟨rfl, kz⟩
              have TT := Lib.hid (TT.out.kept kz)
              have kk := kk.trans kz
              clear kz
              go_wp2_with fail
              refine (X0.out _ (HM.out.kept kk)).mono ?_
              rintro e w15 ⟨rfl, kz⟩
              have TT := Lib.hid (TT.out.kept kz)
              have kk := kk.trans kz
              clear kz
              go_wp2_with fail
              refine (HN.out _ _).mono ?_
              rintro e w16 ⟨rfl, kz⟩
              have TT := Lib.hid (TT.out.kept kz)
              have kk := kk.trans kz
              clear kz
              go_wp2_with fail
              refine (HT.out _ _).mono ?_
              rintro e w17 ⟨rfl, kz⟩
              have TT := Lib.hid (TT.out.kept kz)
              have kk := kk.trans kz
              clear kz
              go_wp2_with fail
              refine (X1.out _ (HM.out.kept kk)).mono ?_
              rintro e w18 ⟨rfl, kz⟩
              have TT := Lib.hid (TT.out.kept kz)
              have kk := kk.trans kz
              clear kz
              go_wp2_with fail
              refine (HF.out _ _).mono ?_
              rintro e w19 ⟨rfl, kz⟩
              have TT := Lib.hid (TT.out.kept kz)
              have kk := kk.trans kz
              clear kz
              go_wp2_with fail
              refine (HT.out _ _).mono ?_
              rintro e w20 ⟨rfl, kz⟩
              have TT := Lib.hid (TT.out.kept kz)
              have kk := kk.trans kz
              clear kz
              go_wp2_with fail
              refine (X2.out _ (HM.out.kept kk)).mono ?_
              rintro e w21 ⟨rfl, kz⟩
              have TT := Lib.hid (TT.out.kept kz)
              have kk := kk.trans kz
              clear kz
              go_wp2_with fail
              refine (HF.out _ _).mono ?_
              rintro e w22 ⟨rfl, kz⟩
              have TT := Lib.hid (TT.out.kept kz)
              have kk := kk.trans kz
              clear kz
              obtain ⟨⟨a0, a1, a2⟩, ⟨b0, b1, b2⟩, ⟨d0, d1, d2⟩⟩ := TT.out.cells
              go_wp2_with fail
              clear a0 a1 a2 b0 b1 b2 d0 d1 d2
              refine (X3.out _ (HM.out.kept kk)).mono ?_
              rintro e w23 ⟨rfl, kz⟩
              have TT := Lib.hid (TT.out.kept kz)
              have kk := kk.trans kz
              clear kz
              go_wp2_with fail
              refine (HN.out _ _).mono ?_
              rintro e w24 ⟨rfl, kz⟩
              have TT := Lib.hid (TT.out.kept kz)
              have kk := kk.trans kz
              clear kz
              go_wp2_with fail
              refine (HT.out _ _).mono ?_
              rintro e w25 ⟨rfl, kz⟩
              have TT := Lib.hid (TT.out.kept kz)
              have kk := kk.trans kz
              clear kz
              go_wp2_with fail
              refine (X4.out _ (HM.out.kept kk)).mono ?_
              rintro e w26 ⟨rfl, kz⟩
              have TT := Lib.hid (TT.out.kept kz)
              have kk := kk.trans kz
              clear kz
              go_wp2_with fail
              refine (HF.out _ _).mono ?_
              rintro e w27 ⟨rfl, kz⟩
              have TT := Lib.hid (TT.out.kept kz)
              have kk := kk.trans kz
              clear kz
              obtain ⟨⟨a0, a1, a2⟩, ⟨b0, b1, b2⟩, ⟨d0, d1, d2⟩⟩ := TT.out.cells
              go_wp2_with fail
              clear a0 a1 a2 b0 b1 b2 d0 d1 d2
              refine (X5.out _ (HM.out.kept kk)).mono ?_
              rintro e w28 ⟨rfl, kz⟩
              have TT := Lib.hid (TT.out.kept kz)
              have kk := kk.trans kz
              clear kz
              go_wp2_with fail
              refine (HN.out _ _).mono ?_
              rintro e w29 ⟨rfl, kz⟩
              have TT := Lib.hid (TT.out.kept kz)
              have kk := kk.trans kz
              clear kz
              go_wp2_with fail
              refine (HF.out _ _).mono ?_
              rintro e w30 ⟨rfl, kz⟩
              have TT := Lib.hid (TT.out.kept kz)
              have kk := kk.trans kz
              clear kz
              go_wp2_with fail
              refine (X6.out _ (HM.out.kept kk)).mono ?_
              rintro e w31 ⟨rfl, kz⟩
              have TT := Lib.hid (TT.out.kept kz)
              have kk := kk.trans kz
              clear kz
              go_wp2_with fail
              refine (HF.out _ _).mono ?_
              rintro e w32 ⟨rfl, kz⟩
              have TT := Lib.hid (TT.out.kept kz)
              have kk := kk.trans kz
              clear kz
              obtain ⟨⟨a0, a1, a2⟩, ⟨b0, b1, b2⟩, ⟨d0, d1, d2⟩⟩ := TT.out.cells
              go_wp2_with fail
              have A0 := cell_regrown a0; have A1 := cell_regrown a1; have A2 := cell_regrown a2
              have B0 := cell_regrown b0; have B1 := cell_regrown b1; have B2 := cell_regrown b2
              have D0 := cell_regrown d0; have D1 := cell_regrown d1; have D2 := cell_regrown d2
              refine wp_region_quiet_below (w := w32) (by kernel_rfl) (by kernel_rfl) ?_
              repeat (quiet_step (first | with_reducible exact Calls.regrown_of (HN.out _ _) | with_reducible exact Calls.regrown_of (HT.out _ _) | with_reducible exact Calls.regrown_of (HF.out _ _) | with_reducible exact Calls.regrown_of (X7.out _) | with_reducible exact Calls.regrown_of (X8.out _) | with_reducible exact Calls.regrown_of (X9.out _) | with_reducible exact Calls.regrown_of (X11.out _) | with_reducible exact Calls.regrown_of (X12.out _) | with_reducible exact Calls.regrown_of (X13.out _) | with_reducible exact Calls.regrown_of (X14.out _) | with_reducible exact Calls.regrown_of (X15.out _)))
              refine wpQuiet_nil ?_
              intro _ hw'; obtain ⟨⟨dq, osq⟩, hw''⟩ := hw'; subst hw''
              have kq : Kept w32 (Go.Sort.grow (redrawn w32 dq) osq) := below_regrown w32 dq osq
              generalize Go.Sort.grow (redrawn w32 dq) osq = w32q at *
              clear A0 A1 A2 B0 B1 B2 D0 D1 D2 a0 a1 a2 b0 b1 b2 d0 d1 d2
              have TT := Lib.hid (TT.out.kept kq)
              have kk := kk.trans kq
              clear kq
              go_wp2_with fail
              refine (X19.out _ (WD.out.kept kk)).mono ?_
              rintro e w33 ⟨rfl, kz⟩
              have TT := Lib.hid (TT.out.kept kz)
              have kk := kk.trans kz
              clear kz
              go_wp2_with fail
              refine (X20.out _ (WD.out.kept kk)).mono ?_
              rintro e w34 ⟨rfl, kz⟩
              have TT := Lib.hid (TT.out.kept kz)
              have kk := kk.trans kz
              clear kz
              go_wp2_with fail
              refine (HF.out _ _).mono ?_
              rintro e w35 ⟨rfl, kz⟩
              have TT := Lib.hid (TT.out.kept kz)
              have kk := kk.trans kz
              clear kz
              go_wp2_with fail
              refine (X16.out _ (WD.out.kept kk)).mono ?_
              rintro e w36 ⟨rfl, kz⟩
              have TT := Lib.hid (TT.out.kept kz)
              have kk := kk.trans kz
              clear kz
              obtain ⟨⟨a0, a1, a2⟩, ⟨b0, b1, b2⟩, ⟨d0, d1, d2⟩⟩ := TT.out.cells
              go_wp2_with fail
              clear a0 a1 a2 b0 b1 b2 d0 d1 d2
              refine (X17.out _ (WD.out.kept kk)).mono ?_
              rintro e w37 ⟨rfl, kz⟩
              have TT := Lib.hid (TT.out.kept kz)
              have kk := kk.trans kz
              clear kz
              go_wp2_with fail
              refine (HN.out _ _).mono ?_
              rintro e w38 ⟨rfl, kz⟩
              have TT := Lib.hid (TT.out.kept kz)
              have kk := kk.trans kz
              clear kz
              go_wp2_with fail
              refine (X18.out _ (WD.out.kept kk)).mono ?_
              rintro e w39 ⟨rfl, kz⟩
              have TT := Lib.hid (TT.out.kept kz)
              have kk := kk.trans kz
              clear kz
              go_wp2_with fail
              refine (XF.out _).mono ?_
              rintro e w40 ⟨rfl, kz⟩
              have TT := Lib.hid (TT.out.kept kz)
              have kk := kk.trans kz
              clear kz
              go_wp2_with fail
              refine (HF.out _ _).mono ?_
              rintro e w41 ⟨rfl, kz⟩
              have TT := Lib.hid (TT.out.kept kz)
              have kk := kk.trans kz
              clear kz
              go_wp2_with fail
              refine (XM.out _).mono ?_
              rintro e w42 ⟨rfl, kz⟩
              have TT := Lib.hid (TT.out.kept kz)
              have kk := kk.trans kz
              clear kz
              go_wp2_with fail
              refine (HF.out _ _).mono ?_
              rintro e w43 ⟨rfl, kz⟩
              have TT := Lib.hid (TT.out.kept kz)
              have kk := kk.trans kz
              clear kz
              go_wp2_with fail
              refine (HF.out _ _).mono ?_
              rintro e w44 ⟨rfl, kz⟩
              have TT := Lib.hid (TT.out.kept kz)
              have kk := kk.trans kz
              clear kz
              go_wp2_with fail
              refine (X10.out _).mono ?_
              rintro e w45 ⟨rfl, kz⟩
              have TT := Lib.hid (TT.out.kept kz)
              have kk := kk.trans kz
              clear kz
              go_wp2_with fail
              refine (HF.out _ _).mono ?_
              rintro e w46 ⟨rfl, kz⟩
              have TT := Lib.hid (TT.out.kept kz)
              have kk := kk.trans kz
              clear kz
              go_wp2_with fail
              go_ret
              exact ⟨rfl, kk⟩
end Go.Proofs.YtipkjpcedfokhaaDoor
