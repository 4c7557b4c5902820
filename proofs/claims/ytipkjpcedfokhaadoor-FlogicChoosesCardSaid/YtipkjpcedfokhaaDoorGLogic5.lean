/- Layer 15: conditions, value, Call. -/
import Derived.Test.YtipkjpcedfokhaaDoorGLogic3
import Derived.Test.YtipkjpcedfokhaaDoorGLogic4
namespace Go.Proofs.YtipkjpcedfokhaaDoor
set_option linter.unusedVariables false
set_option linter.unusedSimpArgs false
open Go.RowKit Lv

theorem ret_agg {a b : Value} (h : a = b) : Ending.returned a = .returned b := by rw [h]
/-- AND, OR, XOR: what the program makes of the count -/
def condV (fn : Nat) (n : Nat) (t : Int) : Vl := vTruth (if fn = 21 then decide (t = (n : Int)) else if fn = 22 then decide (0 < t) else decide (t % 2 = 1))
theorem truth_ways (b : Bool) (w : World) : Calls Tryd.prog 59 #[.bool b] w fun e w' => e = .returned (aggV (vTruth b)) ∧ Kept w w' := vtruth_any b w

set_option maxHeartbeats 2000000 in
set_option maxRecDepth 100000 in
theorem conditions_any (fn : Nat) (hfn : fn = 21 ∨ fn = 22 ∨ fn = 23) (A : Option Addr) (cap : Nat) (l : List Vl) (w : World) (hr : RowV w A l) (hs : ∀ v ∈ l, Small v) (hl : l.length ≤ 100) :
    Calls Tryd.prog 123 #[.int .u8 fn, .slice A l.length cap] w fun e w' => e = .returned (aggV (match firstE (l.map vBool) with | some e => e | none => condV fn l.length (trues (l.map vBool)))) ∧ Kept w w' := by
  have FI := Lib.hid (fun w (h : RowV w A l) => foldI_any A cap l w h hs hl)
  have ts := fun h => trues_small l h
  have HR := Lib.hid hr
  obtain ⟨n, hn⟩ : ∃ n, n = l.length := ⟨_, rfl⟩
  rw [← hn] at FI ts ⊢
  have b0 : Box (w.alloc (.cells #[.int .u8 0, .int .i64 0, .string ⟨#[]⟩] 35)) w.heap.size 35 (cellsV blankV) := Box.new w _ _
  have B0 := Lib.hid b0
  rw [← hn] at hl
  clear hn hs hr b0
  cases hf : firstE (l.map vBool) with
  | some x =>
    rw [hf] at FI
    have F2 : Hid (∀ w, RowV w A l → Calls Tryd.prog 142 #[.slice A n cap, .func (.func 53) #[] #[], .int .i64 0, .func (.func 143) #[] #[]] w
      fun e w' => e = .returned (.tuple #[.int .i64 0, aggV x, .bool false]) ∧ Kept w w') := FI
    clear hf FI ts hfn
    go_enter Tryd.func123, Tryd.ntmps123
    go_wp2_with fail
    refine (F2.out _ (HR.out.kept (by repeat (first | with_reducible exact Kept.refl _ | with_reducible apply Kept.drew | with_reducible apply Kept.drewN | with_reducible apply Kept.alloc | (with_reducible refine Kept.setCellX ?_ ?_ _; focus (first | (simp; done) | (simp; omega))) | (with_reducible refine Kept.trans ?_ (by assumption)))))).mono ?_
    rintro e w1 ⟨rfl, k1⟩
    have c0 := B0.out.kept k1
    obtain ⟨i0, p0, p1, p2, f0, f1, f2⟩ := c0.three
    have KK : Hid (Kept w w1) := Lib.hid (Kept.trans (by repeat (first | with_reducible exact Kept.refl _ | with_reducible apply Kept.drew | with_reducible apply Kept.drewN | with_reducible apply Kept.alloc | (with_reducible refine Kept.setCellX ?_ ?_ _; focus (first | (simp; done) | (simp; omega))) | (with_reducible refine Kept.trans ?_ (by assumption)))) k1)
    have C0 := Lib.hid c0
    clear c0 k1
    go_wp2_with fail
    exact bodyPost_ret (v := aggV x) (by simp [results, Tryd.results123, go_sem, p0, p1, p2, i0]) rfl ⟨rfl, (KK.out.set3 (Nat.le_refl _)).alloc _⟩
  | none =>
    rw [hf] at FI
    obtain ⟨t0, t1⟩ := ts hf
    have F2 : Hid (∀ w, RowV w A l → Calls Tryd.prog 142 #[.slice A n cap, .func (.func 53) #[] #[], .int .i64 0, .func (.func 143) #[] #[]] w
      fun e w' => e = .returned (.tuple #[.int .i64 (trues (l.map vBool)), aggV blankV, .bool true]) ∧ Kept w w') := FI
    generalize trues (l.map vBool) = t at *
    clear hf FI ts
    rcases hfn with rfl | rfl | rfl
    · have key : ∃ b, ((t == (n : Int)) = b) ∧ condV 21 n t = vTruth b := by
        refine ⟨_, rfl, ?_⟩
        unfold condV; rw [if_pos rfl]; congr 1
      obtain ⟨b, hb, EF⟩ := key
      have T := Lib.hid (fun w => vtruth_any b w)
      have EF := Lib.hid EF
      go_enter Tryd.func123, Tryd.ntmps123
      go_wp2_with fail
      refine (F2.out _ (HR.out.kept (by repeat (first | with_reducible exact Kept.refl _ | with_reducible apply Kept.drew | with_reducible apply Kept.drewN | with_reducible apply Kept.alloc | (with_reducible refine Kept.setCellX ?_ ?_ _; focus (first | (simp; done) | (simp; omega))) | (with_reducible refine Kept.trans ?_ (by assumption)))))).mono ?_
      rintro e w1 ⟨rfl, k1⟩
      have KK : Hid (Kept w w1) := Lib.hid (Kept.trans (by repeat (first | with_reducible exact Kept.refl _ | with_reducible apply Kept.drew | with_reducible apply Kept.drewN | with_reducible apply Kept.alloc | (with_reducible refine Kept.setCellX ?_ ?_ _; focus (first | (simp; done) | (simp; omega))) | (with_reducible refine Kept.trans ?_ (by assumption)))) k1)
      have C0 := Lib.hid (B0.out.kept k1)
      clear k1
      go_wp2_with fail
      refine (T.out _).mono ?_
      rintro e w2 ⟨rfl, k2⟩
      have k3 := (Kept.alloc (Kept.refl w1) (.cells #[.int .u8 0, .int .i64 0, .string ⟨#[]⟩] 35)).trans k2
      have c0 := C0.out.kept k3
      obtain ⟨i0, p0, p1, p2, f0, f1, f2⟩ := c0.three
      have KK := Lib.hid (KK.out.trans k3)
      clear c0 k3 k2
      go_wp2_with fail
      exact bodyPost_ret (v := aggV (vTruth b)) (by simp [results, Tryd.results123, go_sem, p0, p1, p2, i0]) rfl ⟨congrArg (fun z => Ending.returned (aggV z)) EF.out.symm, KK.out.set3 (Nat.le_refl _)⟩
    · have key : ∃ b, ((decide (0 < t)) = b) ∧ condV 22 n t = vTruth b := by
        refine ⟨_, rfl, ?_⟩
        unfold condV; rw [if_neg (by omega), if_pos rfl]
      obtain ⟨b, hb, EF⟩ := key
      have T := Lib.hid (fun w => vtruth_any b w)
      have EF := Lib.hid EF
      go_enter Tryd.func123, Tryd.ntmps123
      go_wp2_with fail
      refine (F2.out _ (HR.out.kept (by repeat (first | with_reducible exact Kept.refl _ | with_reducible apply Kept.drew | with_reducible apply Kept.drewN | with_reducible apply Kept.alloc | (with_reducible refine Kept.setCellX ?_ ?_ _; focus (first | (simp; done) | (simp; omega))) | (with_reducible refine Kept.trans ?_ (by assumption)))))).mono ?_
      rintro e w1 ⟨rfl, k1⟩
      have KK : Hid (Kept w w1) := Lib.hid (Kept.trans (by repeat (first | with_reducible exact Kept.refl _ | with_reducible apply Kept.drew | with_reducible apply Kept.drewN | with_reducible apply Kept.alloc | (with_reducible refine Kept.setCellX ?_ ?_ _; focus (first | (simp; done) | (simp; omega))) | (with_reducible refine Kept.trans ?_ (by assumption)))) k1)
      have C0 := Lib.hid (B0.out.kept k1)
      clear k1
      go_wp2_with fail
      refine (T.out _).mono ?_
      rintro e w2 ⟨rfl, k2⟩
      have k3 := (Kept.alloc (Kept.refl w1) (.cells #[.int .u8 0, .int .i64 0, .string ⟨#[]⟩] 35)).trans k2
      have c0 := C0.out.kept k3
      obtain ⟨i0, p0, p1, p2, f0, f1, f2⟩ := c0.three
      have KK := Lib.hid (KK.out.trans k3)
      clear c0 k3 k2
      go_wp2_with fail
      exact bodyPost_ret (v := aggV (vTruth b)) (by simp [results, Tryd.results123, go_sem, p0, p1, p2, i0]) rfl ⟨congrArg (fun z => Ending.returned (aggV z)) EF.out.symm, KK.out.set3 (Nat.le_refl _)⟩
    · have key : ∃ b, ((t % 2 == 1) = b) ∧ condV 23 n t = vTruth b := by
        refine ⟨_, rfl, ?_⟩
        unfold condV; rw [if_neg (by omega), if_neg (by omega)]; congr 1
      obtain ⟨b, hb, EF⟩ := key
      have T := Lib.hid (fun w => vtruth_any b w)
      have EF := Lib.hid EF
      go_enter Tryd.func123, Tryd.ntmps123
      go_wp2_with fail
      refine (F2.out _ (HR.out.kept (by repeat (first | with_reducible exact Kept.refl _ | with_reducible apply Kept.drew | with_reducible apply Kept.drewN | with_reducible apply Kept.alloc | (with_reducible refine Kept.setCellX ?_ ?_ _; focus (first | (simp; done) | (simp; omega))) | (with_reducible refine Kept.trans ?_ (by assumption)))))).mono ?_
      rintro e w1 ⟨rfl, k1⟩
      have KK : Hid (Kept w w1) := Lib.hid (Kept.trans (by repeat (first | with_reducible exact Kept.refl _ | with_reducible apply Kept.drew | with_reducible apply Kept.drewN | with_reducible apply Kept.alloc | (with_reducible refine Kept.setCellX ?_ ?_ _; focus (first | (simp; done) | (simp; omega))) | (with_reducible refine Kept.trans ?_ (by assumption)))) k1)
      have C0 := Lib.hid (B0.out.kept k1)
      clear k1
      go_wp2_with fail
      refine (T.out _).mono ?_
      rintro e w2 ⟨rfl, k2⟩
      have k3 := (Kept.alloc (Kept.refl w1) (.cells #[.int .u8 0, .int .i64 0, .string ⟨#[]⟩] 35)).trans k2
      have c0 := C0.out.kept k3
      obtain ⟨i0, p0, p1, p2, f0, f1, f2⟩ := c0.three
      have KK := Lib.hid (KK.out.trans k3)
      clear c0 k3 k2
      go_wp2_with fail
      exact bodyPost_ret (v := aggV (vTruth b)) (by simp [results, Tryd.results123, go_sem, p0, p1, p2, i0]) rfl ⟨congrArg (fun z => Ending.returned (aggV z)) EF.out.symm, KK.out.set3 (Nat.le_refl _)⟩

def condOf (fn : Nat) (l : List Vl) : Vl := match firstE (l.map vBool) with
  | some e => e
  | none => condV fn l.length (trues (l.map vBool))
theorem conditions_of (fn : Nat) (hfn : fn = 21 ∨ fn = 22 ∨ fn = 23) (A : Option Addr) (cap : Nat) (l : List Vl) (w : World) (hr : RowV w A l) (hs : ∀ v ∈ l, Small v) (hl : l.length ≤ 100) :
    Calls Tryd.prog 123 #[.int .u8 fn, .slice A l.length cap] w fun e w' => e = .returned (aggV (condOf fn l)) ∧ Kept w w' := conditions_any fn hfn A cap l w hr hs hl
theorem logic_cond (fn : Nat) (hfn : fn = 21 ∨ fn = 22 ∨ fn = 23) (a : Vl) (r : List Vl) : vLogic fn a r = condOf fn (a :: r) := by
  unfold vLogic condOf condV
  rw [if_neg (by omega), if_neg (by omega), if_pos hfn]
  cases firstE ((a :: r).map vBool) <;> rfl
theorem chosen_err {x : Vl} (f : Option Vl) (h : isE x = true) : chosenE x f = .tuple #[aggV blankV, aggV x, .bool false] := by unfold chosenE; rw [h]; rfl
theorem chosen_some {x : Vl} (e : Vl) (h : isE x = false) : chosenE x (some e) = .tuple #[aggV x, aggV e, .bool false] := by unfold chosenE; rw [h]; rfl
theorem chosen_none {x : Vl} (h : isE x = false) : chosenE x none = .tuple #[aggV x, aggV blankV, .bool true] := by unfold chosenE; rw [h]; rfl
/-- what choice hands IF -/
theorem chosen20 (a : Vl) (r : List Vl) : (∃ p q, chosenE (vBool a) (firstE r) = .tuple #[aggV p, aggV q, .bool false] ∧ vLogic 20 a r = q) ∨
    (chosenE (vBool a) (firstE r) = .tuple #[aggV (vBool a), aggV blankV, .bool true] ∧ vLogic 20 a r = if (vBool a).n = 1 then r.headD blankV else if r.length = 2 then r.getD 1 blankV else vTruth false) := by
  have e : vLogic 20 a r = if isE (vBool a) then vBool a else match firstE r with
      | some e => e
      | none => if (vBool a).n = 1 then r.headD blankV else if r.length = 2 then r.getD 1 blankV else vTruth false := by
    unfold vLogic
    rw [if_neg (by omega), if_neg (by omega), if_neg (by omega), if_pos rfl]
    cases firstE r <;> rfl
  rw [e]
  cases he : isE (vBool a) with
  | true => exact Or.inl ⟨_, _, chosen_err _ he, rfl⟩
  | false =>
    generalize firstE r = f
    cases f with
    | some e => exact Or.inl ⟨_, _, chosen_some e he, rfl⟩
    | none => exact Or.inr ⟨chosen_none he, rfl⟩
theorem chosen30 (a : Vl) (r : List Vl) : (∃ p q, chosenE (vNum a) (firstE r) = .tuple #[aggV p, aggV q, .bool false] ∧ vLogic 30 a r = q) ∨
    (chosenE (vNum a) (firstE r) = .tuple #[aggV (vNum a), aggV blankV, .bool true] ∧ vLogic 30 a r = if 1 ≤ Int.tdiv (vNum a).n 10000 ∧ Int.tdiv (vNum a).n 10000 < ((a :: r).length : Nat) then r.getD (Int.tdiv (vNum a).n 10000 - 1).toNat blankV else vFail 2) := by
  have e : vLogic 30 a r = if isE (vNum a) then vNum a else match firstE r with
      | some e => e
      | none => if 1 ≤ Int.tdiv (vNum a).n 10000 ∧ Int.tdiv (vNum a).n 10000 < ((a :: r).length : Nat) then r.getD (Int.tdiv (vNum a).n 10000 - 1).toNat blankV else vFail 2 := by
    unfold vLogic
    rw [if_neg (by omega), if_neg (by omega), if_neg (by omega), if_neg (by omega), if_pos rfl]
    cases firstE r <;> rfl
  rw [e]
  cases he : isE (vNum a) with
  | true => exact Or.inl ⟨_, _, chosen_err _ he, rfl⟩
  | false =>
    generalize firstE r = f
    cases f with
    | some e => exact Or.inl ⟨_, _, chosen_some e he, rfl⟩
    | none => exact Or.inr ⟨chosen_none he, rfl⟩
end Go.Proofs.YtipkjpcedfokhaaDoor
