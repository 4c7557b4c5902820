/- Small texts together: GAgg3, GIter, WDiv, WDec1, WRef1, MDivide, WDivide, WRef2, WSum1. -/
import Derived.Test.YtbkjdcpfkepheaaGreatDoorCGAgg2
import Derived.Test.YtbkjdcpfkepheaaGreatDoorCMixAP
import Derived.RangeFuncNested
import Derived.RangeFuncBound
import Derived.RangeFuncCalls
import Derived.RangeFuncLeaves
import Derived.OwnWalkIn
import Derived.TacticsInMore
import Derived.LoopIn
import Derived.Maps.AppendAt
import Derived.Test.YtbkjdcpfkepheaaGreatDoorProg
import Derived.Test.YtbkjdcpfkepheaaGreatDoorCShelf
import Derived.Test.YtbkjdcpfkepheaaGreatDoorCBunM
import Derived.Test.YtbkjdcpfkepheaaGreatDoorCBunW
import Derived.WalkKit
import Derived.ProofKit
import Derived.Outline
import Derived.Lib.Hide
import Derived.Lib.ItoaNum
import Derived.Deep.QuietTactic
import Derived.BigQuiet
import Derived.Deep.DeepCutAuto
import Derived.Deep.CutBlock
import Derived.Laws.Externs
set_option linter.unusedVariables false
set_option linter.unusedSimpArgs false
set_option maxHeartbeats 4000000
set_option maxRecDepth 100000
namespace Go.Proofs.YtbkjdcpfkepheaaGreatDoor
section
open Go.RowKit Lv
set_option maxRecDepth 100000
theorem Own.only {w0 w : World} {H : List Th} (h : Own w0 H w) (k : Nat) {t : Th} (e : H[k]? = some t) : Own w0 [t] w := by
  have hm := List.mem_of_getElem? e; exact ⟨h.kept, fun s hs => by rw [List.mem_singleton.1 hs]; exact h.has t hm, fun s hs => by rw [List.mem_singleton.1 hs]; exact h.old t hm, List.pairwise_singleton _ _⟩
theorem Own.both {w0 w w' : World} {H T : List Th} (h : Own w0 H w) (t : Own w T w') : Own w0 (H ++ T) w' := by
  have h' := h.keep t.kept; refine ⟨h'.kept, fun s hs => (List.mem_append.1 hs).elim (h'.has s) (t.has s), fun s hs => (List.mem_append.1 hs).elim (h'.old s) (fun c g e => Nat.le_trans h.kept.size (t.old s c g e)), List.pairwise_append.2 ⟨h'.apart, t.apart, fun s hs u hu g e c => ?_⟩⟩; have h1 := s.ins w (h.has s hs) g e; have h2 := t.old u hu g c
  omega
def fx (a : Ar) (A0 : Option Addr) (w : World) (e : Ending) (w' : World) : Prop := ∃ T A1 c1, e = .returned (.agg #[.int .i64 (ai a).1.c1, .int .i64 (ai a).1.r1, .int .i64 (ai a).1.c2, .int .i64 (ai a).1.r2, .slice A1 (ai a).2.length c1]) ∧ Own w T w' ∧ (ai a).2.length ≤ c1 ∧ ∀ base z, RowK 5 clV z A0 a.l → Own base T z → RowK 5 clV z A1 (ai a).2
theorem qz {a : Ar} {A1 : Option Addr} {c1 : Nat} {w w' : World} {H : List Th} {e : Ending} (o : Own w H w') (he : e = .returned (.agg #[.int .i64 a.x.c1, .int .i64 a.x.r1, .int .i64 a.x.c2, .int .i64 a.x.r2, .slice A1 a.l.length c1])) (h : a.w = true) (hc : a.l.length ≤ c1) : fx a A1 w e w' := by
  have e16 : ai a = (a.x, a.l) := by unfold ai; rw [if_pos h]
  unfold fx; rw [e16]; exact ⟨[], A1, c1, he, o.drop, hc, fun _ _ r _ => r⟩
theorem qA {a : Ar} {A1 : Option Addr} {w w' : World} {H : List Th} {e : Ending} (o : Own w H w') (he : e = .returned (.agg #[.int .i64 1, .int .i64 1, .int .i64 1, .int .i64 1, .slice none 0 0])) (h : a.w = false) (hk : ¬ ((a.v.k : Int) ≠ (0 : Int))) : fx a A1 w e w' := by
  have e16 : ai a = (⟨1, 1, 1, 1⟩, []) := by unfold ai; rw [if_neg (by rw [h]; decide), if_pos (by omega)]
  unfold fx; rw [e16]; exact ⟨[], none, 0, he, o.drop, Nat.le_refl _, fun _ _ _ _ => RowK.nil⟩
theorem ut {a : Ar} {A1 : Option Addr} {g : Nat} {w w' : World} {H : List Th} {e : Ending} (o : Own w H w') (he : e = .returned (.agg #[.int .i64 1, .int .i64 1, .int .i64 1, .int .i64 1, .slice (some ⟨g, 0, none⟩) 1 1])) (h : a.w = false) (hk : (a.v.k : Int) ≠ (0 : Int)) (t : Own w [Th.obj g (.cells #[.int .i64 1, .int .i64 1, .int .u8 a.v.k, .int .i64 a.v.n, .string ⟨a.v.t.toArray⟩] 46 (0, 0))] w') : fx a A1 w e w' := by
  have e16 : ai a = (⟨1, 1, 1, 1⟩, [⟨1, 1, a.v⟩]) := by unfold ai; rw [if_neg (by rw [h]; decide), if_neg (by omega)]
  unfold fx; rw [e16]; exact ⟨_, _, 1, he, t, Nat.le_refl _, fun _ _ _ q => RowK.box (q.box 0 rfl) eC rfl⟩
theorem uu {v : Vl} (h : (cF v : Int) ≠ (0 : Int)) : vOk v = false := by
  unfold cF at h
  cases e : vOk v with
  | false => rfl
  | true => rw [e] at h; exact absurd rfl h
theorem uw {v : Vl} (h : ¬ ((cF v : Int) ≠ (0 : Int))) : vOk v = true := by
  unfold cF at h
  cases e : vOk v with
  | true => rfl
  | false => rw [e] at h; exact absurd (by decide) h
theorem BR {v : Vl} : decide ((cF v : Int) = (0 : Int)) = vOk v := by
  unfold cF
  cases vOk v <;> rfl
theorem qB {a : Ar} (h : a.w = false) : ((decide ((cF a.v : Int) = (0 : Int)) && decide (a.x = (⟨0, 0, 0, 0⟩ : Rc))) && decide (((a.l.length : Nat) : Int) = (0 : Int))) = Js a := by
  unfold Js; rw [if_neg (by rw [h]; decide), BR, show decide (((a.l.length : Nat) : Int) = (0 : Int)) = decide (a.l.length = 0) from decide_eq_decide.2 (by omega)]
  rfl
theorem qC {v : Vl} : fV v (⟨0, 0, []⟩ : Vl) = true ↔ (v.k = 0 ∧ v.n = 0 ∧ v.t = []) := by
  unfold fV
  simp [and_assoc]
theorem ux {a : Ar} (h : a.w = true) (b : (¬ (fV a.v (⟨0, 0, []⟩ : Vl) = true)) ∨ ((iy a.x : Int) ≠ (0 : Int))) : Js a = false := by
  unfold Js; rw [if_pos h]; rcases b with b | b
  · rw [qC] at b
    rw [decide_eq_false b]; rfl
  · rw [oK b, Bool.and_false, Bool.false_and]
theorem uy {a : Ar} (b : ¬ ((¬ (fV a.v (⟨0, 0, []⟩ : Vl) = true)) ∨ ((iy a.x : Int) ≠ (0 : Int)))) : (a.v.k = 0 ∧ a.v.n = 0 ∧ a.v.t = []) ∧ okR a.x = true := by
  rw [not_or, Classical.not_not, qC] at b; exact ⟨b.1, lA b.2⟩
theorem ii {a : Ar} {b : Bool} (h : a.w = true) (o : (a.v.k = 0 ∧ a.v.n = 0 ∧ a.v.t = []) ∧ okR a.x = true) (e : db a.x (-1) a.l = b) : Js a = b := by
  unfold Js; rw [if_pos h, decide_eq_true o.1, o.2, e]; rfl
theorem DE {h b c : Bool} (e : ((!h || b) || c) = false) : h = true := by revert e; cases h <;> cases b <;> cases c <;> decide
theorem BS {x : Rc} {n : Int} {c : Cl} (h : ¬ ((((¬ (jL x c.c c.r = true)) ∨ ((c.v.k : Int) = (0 : Int))) ∨ ((cF c.v : Int) ≠ (0 : Int))) ∨ ((bN x c.c c.r : Int) ≤ (n : Int)))) : jL x c.c c.r = true := by
  simp only [not_or, Classical.not_not] at h
  exact h.1.1.1
theorem yZ {x : Rc} {n : Int} {l : List Cl} {k : Nat} {c : Cl} (e : l[k]? = some c) (h : (((¬ (jL x c.c c.r = true)) ∨ ((c.v.k : Int) = (0 : Int))) ∨ ((cF c.v : Int) ≠ (0 : Int))) ∨ ((bN x c.c c.r : Int) ≤ (n : Int))) : db x n (l.drop k) = false := by
  rw [dD e, db]
  have : mc x n c = false := by
    unfold mc; rcases h with ((h | h) | h) | h
    · rw [Bool.eq_false_iff.2 h]; rfl
    · rw [decide_eq_false (p := c.v.k ≠ 0) (by omega), Bool.and_false]; rfl
    · rw [uu h, Bool.and_false]; rfl
    · rw [decide_eq_false (p := n < bN x c.c c.r) (by omega), Bool.and_false]
  rw [this]; rfl
theorem BT {x : Rc} {n : Int} {l : List Cl} {k : Nat} {c : Cl} (e : l[k]? = some c) (h : ¬ ((((¬ (jL x c.c c.r = true)) ∨ ((c.v.k : Int) = (0 : Int))) ∨ ((cF c.v : Int) ≠ (0 : Int))) ∨ ((bN x c.c c.r : Int) ≤ (n : Int)))) : db x n (l.drop k) = db x (bN x c.c c.r) (l.drop (k + 1)) := by
  rw [dD e, db]
  simp only [not_or] at h
  have : mc x n c = true := by
    unfold mc; rw [Classical.not_not.1 h.1.1.1, decide_eq_true (p := c.v.k ≠ 0) (by have := h.1.1.2; omega), uw h.1.2, decide_eq_true (p := n < bN x c.c c.r) (by have := h.2; omega)]; rfl
  rw [this, Bool.true_and]
theorem wj {x : Rc} {n : Int} {l : List Cl} {k : Nat} (h : l.length ≤ k) : db x n (l.drop k) = true := by
  rw [List.drop_eq_nil_of_le h]; rfl
theorem qD (a : Ar) (A1 : Option Addr) (c1 : Nat) (w : World) (hc : a.l.length ≤ c1) :
    Calls Tryz.prog 66 #[aA a (.slice A1 a.l.length c1)] w fun e w' => fx a A1 w e w' := by
  go_enter Tryz.func66, Tryz.ntmps66; refine z00 21 [(0, aA a (.slice A1 a.l.length c1))] ?_; intro _ s; refine zr s 2 (zV (zB Z0 (.cells #[.bool a.w, .int .u8 a.v.k, .int .i64 a.v.n, .string ⟨a.v.t.toArray⟩, .int .i64 a.x.c1, .int .i64 a.x.r1, .int .i64 a.x.c2, .int .i64 a.x.r2, .slice A1 a.l.length c1] 39 (0, 0))) (.cells #[.int .i64 0, .int .i64 0, .int .i64 0, .int .i64 0, .slice none 0 0] 37 (0, 0))) ?_; intro gb1 gb2 _ fw s; refine sq fun hK1 => ?_; refine zr s 2 (zL (zF Z0 0) 1) ?_; intro _ fw s; refine zb s (Iff.rfl) ?_ ?_
  ·intro hc1
   have hw := hc1; refine zt_ s 2 (zA (zF Z0 4) (.agg #[.int .i64 a.x.c1, .int .i64 a.x.r1, .int .i64 a.x.c2, .int .i64 a.x.r2, .slice A1 a.l.length c1]) 5 1) ?_; intro _ fw s K2 hK2; refine zS s 0 ?_; intro fw s; refine wt hK2 ?_; refine wp_ret ?_; refine ag ?_; refine ac (v := .agg #[.int .i64 a.x.c1, .int .i64 a.x.r1, .int .i64 a.x.c2, .int .i64 a.x.r2, .slice A1 a.l.length c1]) rfl (.cons (rC s 5 0) .nil) rfl s.q ?_; exact qz s.o rfl hw hc
  intro hc1; have hw := Bool.eq_false_iff.2 hc1; refine wp_skip ?_; refine tn hK1 ?_; refine zt_ s 3 (zV (zO (zO Z0 (v := .agg #[.int .i64 1, .int .i64 1, .int .i64 1, .int .i64 1]) fun cc => xb4 rfl rfl rfl rfl rfl (by kernel_rfl)) (v := .agg #[.int .i64 1, .int .i64 1, .int .i64 1, .int .i64 1, .slice none 0 0]) fun cc => xb1 rfl cc.e (by kernel_rfl)) (.cells #[.int .i64 0, .int .i64 0, .int .i64 0, .int .i64 0, .slice none 0 0] 37 (0, 0))) ?_; intro gb3 _ fw s K3 hK3; refine zS s 0 ?_; intro fw s; refine wt hK3 ?_; refine sq fun hK4 => ?_; refine zr s 4 (zP (zL (zF (zF Z0 1) 1) 2)) ?_; intro _ fw s; refine zi_ s ?_ ?_
  ·intro hc2
   have hk0 := hc2; refine zu s 6 (by exact zF (zNl (zO (zA (zF (zO Z0 (v := .agg #[.int .i64 1, .int .i64 1]) fun cc => xb2 rfl rfl rfl (by kernel_rfl)) 1) (ae a.v) 3 2) (v := .agg #[.int .i64 1, .int .i64 1, .int .u8 a.v.k, .int .i64 a.v.n, .string ⟨a.v.t.toArray⟩]) fun cc => xb2 rfl cc.e cc.e (by kernel_rfl)) (b := .cells #[.int .i64 1, .int .i64 1, .int .u8 a.v.k, .int .i64 a.v.n, .string ⟨a.v.t.toArray⟩] 46 (0, 0)) (m := 1) fun cc => qs rfl cc.e (by kernel_rfl)) 4) ?_; intro gb4 _ fw s; refine zS s 1 ?_; intro fw s; refine wt hK4 ?_; refine zt_ s 1 (zA Z0 (.agg #[.int .i64 1, .int .i64 1, .int .i64 1, .int .i64 1, .slice (some ⟨gb4, 0, none⟩) 1 1]) 5 1) ?_; intro _ fw s K5 hK5; refine zS s 2 ?_; intro fw s; refine wt hK5 ?_; refine wp_ret ?_; refine ac (v := .agg #[.int .i64 1, .int .i64 1, .int .i64 1, .int .i64 1, .slice (some ⟨gb4, 0, none⟩) 1 1]) rfl (.cons (rC s 5 2) .nil) rfl s.q ?_; exact ut s.o rfl hw hk0 (s.o.only 0 rfl)
  intro hc2; have hk0 := hc2; refine wp_skip ?_; refine tn hK4 ?_; refine zt_ s 1 (zA Z0 (.agg #[.int .i64 1, .int .i64 1, .int .i64 1, .int .i64 1, .slice none 0 0]) 5 0) ?_; intro _ fw s K6 hK6; refine zS s 1 ?_; intro fw s; refine wt hK6 ?_; refine wp_ret ?_; refine ac (v := .agg #[.int .i64 1, .int .i64 1, .int .i64 1, .int .i64 1, .slice none 0 0]) rfl (.cons (rC s 5 1) .nil) rfl s.q ?_; exact qA s.o rfl hw hk0
theorem qE (a : Ar) (A1 : Option Addr) (c1 : Nat) (w : World) (hr : RowK 5 clV w A1 a.l) (hl : a.l.length ≤ 1000000) (hsv : Small a.v) (hs : ∀ c ∈ a.l, Small c.v) :
    Calls Tryz.prog 32 #[aA a (.slice A1 a.l.length c1)] w fun e w' => e = .returned (.bool (Js a)) ∧ Kept w w' := by
  go_enter Tryz.func32, Tryz.ntmps32; refine z00 80 [(0, aA a (.slice A1 a.l.length c1))] ?_; intro _ s; refine zr s 2 (zP (zB Z0 (.cells #[.bool a.w, .int .u8 a.v.k, .int .i64 a.v.n, .string ⟨a.v.t.toArray⟩, .int .i64 a.x.c1, .int .i64 a.x.r1, .int .i64 a.x.c2, .int .i64 a.x.r2, .slice A1 a.l.length c1] 39 (0, 0)))) ?_; intro gb1 _ fw s; refine sq fun hK1 => ?_; refine zr s 3 (zP (zL (zF Z0 0) 0)) ?_; intro _ fw s; refine zb s (jc (Iff.rfl)) ?_ ?_
  ·intro hc1
   have hw : a.w = false := by simpa using hc1
   refine zr s 19 (zP (zO (zPi (zNi (zLi (zFi (zFi (zP (zO (zI (zI (zAi (zFi (zFi (zP (zP (zC (zA (zF Z0 1) (ae a.v) 3 0) fun cc => cY a.v _ (by first | exact hsv.1 | exact hsc.1) (by first | exact Nat.le_trans hsv.2 (by decide) | exact Nat.le_trans hsc.2 (by decide))))) 4) 4) (aR a.x) 4 0) (v := .agg #[.int .i64 0, .int .i64 0, .int .i64 0, .int .i64 0]) (run := by exact fun cc hz => cG (us := #[]) rfl (by simp) (by kernel_rfl))) (v := .bool (decide (a.x = (⟨0, 0, 0, 0⟩ : Rc)))) (run := by exact fun cc hz => Ex (u := a.x) (v := (⟨0, 0, 0, 0⟩ : Rc)) rfl (cc.f hz) (cc.f hz))) fun cc => gm rfl cc.e (fun hb => cc.f hb) rfl)) 4) 8) 0))) fun cc => gm rfl cc.e (fun hb => cc.f hb) rfl)) ?_; intro _ fw s; refine wp_ret ?_; refine ag ?_; refine z1 s ?_; exact ⟨(congrArg (fun b => Ending.returned (.bool b)) (show _ = Js a by exact qB hw)), s.o.kept⟩
  intro hc1; have hw : a.w = true := by simpa using hc1
  refine wp_skip ?_; refine tn hK1 ?_; refine sq fun hK2 => ?_; refine zr s 11 (zO (zPi (zCI (zAi (zFi (zFi (zP (zO (zO (zA (zF Z0 1) (ae a.v) 3 0) (v := ae (⟨0, 0, []⟩ : Vl)) fun cc => cG (us := #[]) rfl (by simp) (by kernel_rfl)) fun cc => Im rfl cc.e cc.e)) 4) 4) (aR a.x) 4 0) fun cc => nM a.x _)) fun cc => gA rfl cc.e rfl (fun hb => cc.f hb)) ?_; intro _ fw s; refine zb s (bor (jc (Iff.rfl)) (decide_eq_true_iff)) ?_ ?_
  ·intro hc2
   have hbad := hc2; refine zr s 1 (zP Z0) ?_; intro _ fw s; refine wp_ret ?_; refine ag ?_; refine z1 s ?_; exact ⟨(congrArg (fun b => Ending.returned (.bool b)) (show _ = Js a by exact (ux hw hbad).symm)), s.o.kept⟩
  intro hc2; have hok := uy hc2; refine wp_skip ?_; refine tn hK2 ?_; refine zr s 1 (zP Z0) ?_; intro _ fw s; refine sq fun hK3 => ?_; refine zr s 5 (zP (zN (zL (zF (zF Z0 4) 8) 0))) ?_; intro _ fw s; refine wp_block ?_; refine aP (fun (k : Nat) fr u => ∃ (n : Int), (k ≤ a.l.length) ∧ (db a.x (-1) a.l = db a.x n (a.l.drop k)) ∧ (-1 ≤ n ∧ n ≤ 1048576) ∧ Sg 80 w [Th.obj gb1 (.cells #[.bool a.w, .int .u8 a.v.k, .int .i64 a.v.n, .string ⟨a.v.t.toArray⟩, .int .i64 a.x.c1, .int .i64 a.x.r1, .int .i64 a.x.c2, .int .i64 a.x.r2, .slice A1 a.l.length c1] 39 (0, 0))] [(1, .pointer (some ⟨gb1, 0, none⟩)), (2, .bool false), (3, .int .i64 n), (40, .slice A1 a.l.length c1), (41, .int .i64 ((a.l.length : Nat) : Int)), (42, .int .i64 (k : Int))] fr u) (fun k => a.l.length - k) 0 ⟨(-1), (Nat.zero_le _), rfl, ⟨by decide, by decide⟩, s.c⟩ (fun k b_ u_ hI => ?_)
  revert b_ u_; intro fa fw hI
  obtain ⟨n, hk0, hoc, hnb, s⟩ := hI; refine zr s 1 (zP Z0) ?_; intro _ fw s; refine sq fun hK4 => ?_; refine zi_ s ?_ ?_
  ·intro hc3
   refine wp_skip ?_; refine tn hK4 ?_; refine sq fun hK5 => ?_; refine wp_block ?_; have hltk : k < a.l.length := by omega
   obtain ⟨cl, hcl⟩ := bI hltk; obtain ⟨bcl, ocl, Acl, ecl⟩ := hr.elem hcl; have hsc := hs cl (List.mem_of_getElem? hcl); refine zt_ s 3 (zV (zO (zO Z0 fun cc => al 5 Tryz.underlying35 (by kernel_rfl) rfl Acl cc.e cc.e hltk) (v := .agg #[.int .i64 cl.c, .int .i64 cl.r, .int .u8 cl.v.k, .int .i64 cl.v.n, .string ⟨cl.v.t.toArray⟩]) fun cc => bf (n := 5) 0 rfl (by kernel_rfl) (by kernel_rfl) cc.e rfl (ecl.kept cc.ow.kept)) (.cells #[.int .i64 0, .int .i64 0, .int .u8 0, .int .i64 0, .string ⟨[].toArray⟩] 46 (0, 0))) ?_; intro gb2 _ fw s K6 hK6; refine zS s 0 ?_; intro fw s; refine wt hK6 ?_; refine sq fun hK7 => ?_; refine zr s 28 (zO (zPi (zPi (zCi (zAi (zFi (zAi (zFi (zP (zO (zPi (zCI (zAi (zFi (zP (zO (zPi (zLi (zFi (zFi (zP (zP (zC (zA (zF (zA (zF (zF Z0 4) 4) (aR a.x) 4 1) 0) (.agg #[.int .i64 cl.c, .int .i64 cl.r]) 2 0) fun cc => BP a.x cl.c cl.r _))) 2) 2) 0)) fun cc => gA rfl cc.e rfl (fun hb => cc.f hb))) 2) (ae cl.v) 3 0) fun cc => cY cl.v _ (by first | exact hsv.1 | exact hsc.1) (by first | exact Nat.le_trans hsv.2 (by decide) | exact Nat.le_trans hsc.2 (by decide)))) fun cc => gA rfl cc.e rfl (fun hb => cc.f hb))) 4) (.agg #[.int .i64 a.x.c1, .int .i64 a.x.r1, .int .i64 a.x.c2, .int .i64 a.x.r2, .slice A1 a.l.length c1]) 5 1) 0) (.agg #[.int .i64 cl.c, .int .i64 cl.r]) 2 0) (v := .int .i64 (bN a.x cl.c cl.r)) (run := by exact fun cc hz => ⟨_, _, kG rfl (cc.f hz) (cc.f hz) (qx _ _), ks a.x _ _ _ cl.c cl.r _ hok.2 (by first | exact hfc | exact DE hz)⟩)))) fun cc => gA rfl cc.e rfl (fun hb => cc.f hb)) ?_
   intro _ fw s; refine zb s (bor (bor (bor (jc (Iff.rfl)) (decide_eq_true_iff)) (decide_eq_true_iff)) (decide_eq_true_iff)) ?_ ?_
   ·intro hc4
    have hcb := hc4; refine zr s 1 (zP Z0) ?_; intro _ fw s; refine wp_ret ?_; refine ag (ao (ag (ag (ao (ag ?_))))); refine z1 s ?_; exact ⟨(congrArg (fun b => Ending.returned (.bool b)) (show _ = Js a by exact (ii hw hok (hoc.trans (yZ hcl hcb))).symm)), s.o.kept⟩
   intro hc4; have hcg := hc4; have hfc := BS hcg; have hix := yR hok.2 hfc; refine wp_skip ?_; refine tn hK7 ?_; refine zq s 6 (by exact zP (zC (zA (zF (zA (zF Z0 4) (.agg #[.int .i64 a.x.c1, .int .i64 a.x.r1, .int .i64 a.x.c2, .int .i64 a.x.r2, .slice A1 a.l.length c1]) 5 1) 0) (.agg #[.int .i64 cl.c, .int .i64 cl.r]) 2 0) fun cc => ks a.x _ _ _ cl.c cl.r _ hok.2 (by first | exact hfc | exact DE hz))) ?_; intro _ fw s; refine aB ?_; refine tn hK5 ?_; refine zu s 1 (by exact zAn Z0 k 1) ?_; intro _ fw s; refine zw s ?_; intro _ fw s; refine aN ?_; exact bg ⟨(k + 1), ⟨(bN a.x cl.c cl.r), hltk, (hoc.trans (BT hcl hcg)), (by omega), (s.ow s.o.tail).c⟩, (show a.l.length - (k + 1) < a.l.length - k by omega)⟩
  intro hc3; refine wp_exit ?_; refine aM ?_; refine aM ?_; refine aD ?_; refine tn hK3 ?_; refine zr s 1 (zP Z0) ?_; intro _ fw s; refine wp_ret ?_; refine z1 s ?_; exact ⟨(congrArg (fun b => Ending.returned (.bool b)) (show _ = Js a by exact (ii hw hok (hoc.trans (wj (by omega)))).symm)), s.o.kept⟩
end

section
open Go.RowKit Lv
set_option maxRecDepth 100000
section
variable {P : Program} {ops : Array Oper} {Q : Exit → Act → World → Prop} {rest : List Oper} {o : Oper} {a : Act} {w : World} {n : Nat}
theorem bB {v : Value} {w' : World} (hw : Region.wanted o (yielded ops a.tmps) = true) (hr : (execOp a.eval o).run P w = .ok (.value v) w') (h : wpListIn Fence.wide n P ops Q rest (a.put o.dst v) w') : wpListIn Fence.wide n P ops Q (o :: rest) a w := by
  unfold wpListIn; rw [if_pos hw]; refine ⟨fun _ _ => trivial, ?_⟩; show Oper.uponIn _ _ _ _ _ _ _ ((Oper.semAt none a.eval o).run P w); rw [Oper.semAt_none, hr]; exact h
theorem iX (hw : Region.wanted o (yielded ops a.tmps) = false) (h : wpListIn Fence.wide n P ops Q rest (a.put o.dst undef) w) : wpListIn Fence.wide n P ops Q (o :: rest) a w := by
  unfold wpListIn; rw [if_neg (by rw [hw]; decide)]; exact ⟨fun _ _ => trivial, h⟩
theorem uz {l : Nat} {args : Array Value} {R : Ending → World → Prop} (hw : Region.wanted o (yielded ops a.tmps) = true) (hr : ∀ r w', (Instr.yield l args).run P w = .ok r w' → (execOp a.eval o).run P w = .ok r w') (hy : YieldAt Fence.wide (n - 1) P l args w R) (h : ∀ e w', R e w' → ∃ v, e = .returned v ∧ wpListIn Fence.wide n P ops Q rest (a.put o.dst v) w') : wpListIn Fence.wide n P ops Q (o :: rest) a w := by
  obtain ⟨fn, tmps, asg, body, hy, hR⟩ := hy; unfold wpListIn; rw [if_pos hw]; refine ⟨fun _ _ => trivial, ?_⟩; show Oper.uponIn _ _ _ _ _ _ _ ((Oper.semAt none a.eval o).run P w); rw [Oper.semAt_none, hr _ _ hy]; refine ⟨fun h => (by cases h), hR.mono fun e w' r => ?_⟩; obtain ⟨v, rfl, k⟩ := h e w' r; exact k
theorem DF {f x : Operand} {ts : Array TypeId} {l : Nat} {u : Value} (ho : o.op = .call { callee := .value f, args := #[x], argTypes := ts }) (hf : a.eval f = .func (.yield l) #[] #[]) (hx : a.eval x = u) : ∀ r w', (Instr.yield l #[u]).run P w = .ok r w' → (execOp a.eval o).run P w = .ok r w' := by
  intro r w' h; unfold execOp; rw [ho]
  simp only [resolve, List.map_toArray, List.map_cons, List.map_nil, hf, hx]
  go_simp
end
theorem wk {w w' : World} (h : Kept w w') : w.grownBy w' none := ⟨h.os, h.tape, h.output, h.size, fun k hk _ => h.block k hk⟩
def KeepsC (n₀ : Nat) (W W' : World) : Prop := Below n₀ W W' ∧ ∀ (k : Nat) (cs : Array Value) (t : TypeId) (r : Nat × Nat), W.heap[k]? = some (Obj.cells cs t r) → t ≠ 2 → t ≠ 54 → W'.heap[k]? = some (Obj.cells cs t r)
theorem BU {n₀ : Nat} {A B C : World} (h : KeepsC n₀ A B) (k : KeepsC n₀ B C) : KeepsC n₀ A C := ⟨h.1.trans k.1, fun i cs t r e h1 h2 => k.2 i cs t r (h.2 i cs t r e h1 h2) h1 h2⟩
theorem BV {n₀ : Nat} {w : World} (hn : n₀ ≤ w.heap.size) (W : World) (l : Nat) (o o' : Obj) (hl : w.heap.size ≤ l) (h : W.heap[l]? = some o) (hc : o.isCells = false) (hw : o.isWalk = false) : KeepsC n₀ W (W.putObj l o') :=
  ⟨belowK_b hn W l o o' hl h hc hw, fun k cs t r e _ _ => by
    have ne : k ≠ l := fun c => by subst c; rw [h] at e; cases e; cases hc
    exact (World.putObj_heap_other ne).trans e⟩
theorem KeepsC.box {n₀ : Nat} {W W' : World} (h : KeepsC n₀ W W') {g : Nat} {t : TypeId} {cs : Array Value} (b : Box W g t cs) (h1 : t ≠ 2) (h2 : t ≠ 54) : Box W' g t cs := h.2 g cs t _ b h1 h2
theorem Box.kept16 {w w' : World} {g : Nat} {t : TypeId} {cs : Array Value} (b : Box w g t cs) (k : Kept w w') : Box w' g t cs := (k.block g b.inside).trans b
theorem dE {β : Type} {B : Nat} {J : β → World → Prop} (h : AbidesFrom B J) {s : β} {w w' : World} (j : J s w) (k : Kept w w') : J s w' := h s w w' none j (wk k) (fun r e => by cases e)
def upE : List Vl → List Vl
  | [] => []
  | v :: l => if isE v then [v] else v :: upE l
theorem Ez (v : Vl) (l : List Vl) (h : isE v = false) : ax (v :: l) = ax l := by
  unfold ax; rw [List.find?_cons, h]
theorem fA {l : List Vl} : ax l = none ↔ ∀ v ∈ l, isE v = false := by
  unfold ax; rw [List.find?_eq_none]; exact ⟨fun h v hv => by simpa using h v hv, fun h v hv => by simp [h v hv]⟩
theorem oM : ∀ {l : List Vl}, ax l = none → upE l = l
  | [], _ => rfl
  | v :: l, h => by
    have h' := fA.1 h; unfold upE; rw [if_neg (by rw [h' v List.mem_cons_self]; decide), oM (fA.2 fun u hu => h' u (List.mem_cons_of_mem _ hu))]
theorem za : ∀ {p r : List Vl} {v : Vl}, ax p = none → isE v = true → upE (p ++ v :: r) = p ++ [v]
  | [], r, v, _, hv => by
    show (if isE v then [v] else v :: upE r) = [v]; rw [if_pos hv]
  | u :: p, r, v, h, hv => by
    have h' := fA.1 h; show (if isE u then [u] else u :: upE (p ++ v :: r)) = u :: (p ++ [v]); rw [if_neg (by rw [h' u List.mem_cons_self]; decide), za (fA.2 fun x hx => h' x (List.mem_cons_of_mem _ hx)) hv]
theorem EA {p r : List Vl} {v : Vl} (h : ax p = none) (hv : isE v = true) : ax (p ++ v :: r) = some v := by
  have h' := fA.1 h; unfold ax; rw [List.find?_append, List.find?_eq_none.2 (fun u hu => by simp [h' u hu]), List.find?_cons, hv]
  rfl
theorem mn {p : List Vl} {v : Vl} (h : ax p = none) (hv : isE v = false) : ax (p ++ [v]) = none := fA.2 fun u hu => by
  rcases List.mem_append.1 hu with hu | hu
  · exact fA.1 h u hu
  · rw [List.mem_singleton.1 hu]; exact hv
theorem nN : ∀ {l : List Vl}, ax (upE l) = none → ax l = none
  | [], _ => rfl
  | v :: l, h => by
    unfold upE at h
    split at h
    · rename_i e
      have := fA.1 h v List.mem_cons_self; rw [e] at this; cases this
    · rename_i e
      have h' := fA.1 h; have e' : isE v = false := by simpa using e
      rw [Ez v l e']; exact nN (fA.2 fun u hu => h' u (List.mem_cons_of_mem _ hu))
def eZ (l : List Cl) : List Vl := (l.map Cl.v).filter (fun v => decide (v.k = 1 ∨ v.k = 4))
theorem uA (a : Ar) (l : List Ar) : aH (a :: l) = rK a ++ aH l := rfl
theorem DG {l : List Ar} {k : Nat} {a : Ar} (h : l[k]? = some a) : aH (l.drop k) = rK a ++ aH (l.drop (k + 1)) := by rw [dD h, uA]
theorem sJ {a : Ar} (h : a.w = false) : rK a = [aL a.v] := by unfold rK; rw [if_neg (by rw [h]; decide)]
theorem lB {a : Ar} (h : a.w = true) : rK a = eZ a.l := by unfold rK; rw [if_pos h]; rfl
theorem BW {l : List Cl} {k : Nat} {c : Cl} (h : l[k]? = some c) (hk : c.v.k = 1 ∨ c.v.k = 4) : eZ (l.drop k) = c.v :: eZ (l.drop (k + 1)) := by
  rw [dD h]; unfold eZ; rw [List.map_cons, List.filter_cons_of_pos (by simpa using hk)]
theorem zc {l : List Cl} {k : Nat} {c : Cl} (h : l[k]? = some c) (hk : ¬ (c.v.k = 1 ∨ c.v.k = 4)) : eZ (l.drop k) = eZ (l.drop (k + 1)) := by
  rw [dD h]; unfold eZ; rw [List.map_cons, List.filter_cons_of_neg (by simpa using hk)]
theorem BZ {l : List Cl} {k : Nat} (h : l.length ≤ k) : eZ (l.drop k) = [] := by rw [List.drop_eq_nil_of_le h]; rfl
theorem mo {p r q : List Vl} {v : Vl} (h : p ++ (v :: r) = q) : p.length < q.length := by rw [← h]; simp
theorem kO {p r q : List Vl} {v : Vl} (h : p ++ (v :: r) = q) : p ++ [v] <+: q := ⟨r, by rw [← h]; simp⟩
def aY (a : Ar) : Prop := Small a.v ∧ ∀ c ∈ a.l, Small c.v
theorem uB {v : Vl} (h : (v.k : Int) = (4 : Int)) : isE v = true := by unfold isE; rw [decide_eq_true_eq]; omega
theorem oO {v : Vl} (h : ¬ ((v.k : Int) = (4 : Int))) : isE v = false := by unfold isE; rw [decide_eq_false_iff_not]; omega
end

section
open Go.RowKit Lv
def GA (y : Int) (w : World) (e : Ending) (w' : World) : Prop := ∃ k : Nat, k ≤ 63 ∧ y * 2 ^ k ≤ 18446744073709551615 ∧ 9223372036854775808 ≤ y * 2 ^ k ∧ e = .returned (.int .i64 k) ∧ w = w'
theorem GB (y : Int) (w : World) (h1 : 0 < y) (h2 : y ≤ 18446744073709551615) : Calls Tryz.prog 190 #[.int .u64 y] w (GA y w) := by
  obtain ⟨y, rfl⟩ := Int.eq_ofNat_of_zero_le (show 0 ≤ y by omega); refine (Tryz.bits_LeadingZeros64 y w (by omega) (by omega)).mono ?_; rintro e w' ⟨rfl, rfl⟩; obtain ⟨hb1, s3, s1⟩ := Lib.bitLenAux_bounds 64 y (by omega) (by omega); have hb : Lib.bitLen y ≤ 64 := Lib.bitLen_le y 64 (by omega) (by omega)
  change 1 ≤ Lib.bitLen y at hb1
  change 2 ^ (Lib.bitLen y - 1) ≤ y at s3
  change y < 2 ^ Lib.bitLen y at s1
  have e1 : (2 : Nat) ^ Lib.bitLen y * 2 ^ (64 - Lib.bitLen y) = 18446744073709551616 := by rw [← Nat.pow_add, show Lib.bitLen y + (64 - Lib.bitLen y) = 64 from by omega]
  have e2 : (2 : Nat) ^ (Lib.bitLen y - 1) * 2 ^ (64 - Lib.bitLen y) = 9223372036854775808 := by rw [← Nat.pow_add, show Lib.bitLen y - 1 + (64 - Lib.bitLen y) = 63 from by omega]
  have f1 := (Nat.mul_lt_mul_right (Nat.two_pow_pos (64 - Lib.bitLen y))).2 s1; have f2 := Nat.mul_le_mul_right (2 ^ (64 - Lib.bitLen y)) s3; have e3 : ((y * 2 ^ (64 - Lib.bitLen y) : Nat) : Int) = (y : Int) * 2 ^ (64 - Lib.bitLen y) := by simp
  refine ⟨64 - Lib.bitLen y, by omega, by rw [← e3]; omega, by rw [← e3]; omega, ?_, rfl⟩
  simp only [Ending.returned.injEq, Value.int.injEq, true_and]
  rw [Int.toNat_natCast]
  omega
structure Prep (hi lo y v a b hs ls u t u1 u0 q : Int) (k : Nat) : Prop where
  v_ : y * 2 ^ k = v
  a_ : v / 4294967296 = a
  b_ : bits .and .u64 v 4294967295 = b
  hs_ : IntKind.u64.wrap (hi * 2 ^ k) = hs
  ls_ : lo / 2 ^ (64 - k) = ls
  u_ : bits .or .u64 hs ls = u
  t_ : IntKind.u64.wrap (lo * 2 ^ k) = t
  u1_ : t / 4294967296 = u1
  u0_ : bits .and .u64 t 4294967295 = u0
  q_ : u / a = q
  d : Digit u u1 a b v
  t0 : 0 ≤ t
  t1 : t ≤ 18446744073709551615
  w0 : 0 ≤ u0
  w1 : u0 < 4294967296
  tt : t = u1 * 4294967296 + u0
  whole : (hi * 18446744073709551616 + lo) * 2 ^ k = u * 18446744073709551616 + t
theorem Jo (hi lo y : Int) (k : Nat) (h0 : 0 < hi) (h1 : hi < y) (h3 : 0 ≤ lo) (h4 : lo ≤ 18446744073709551615) (k1 : k ≤ 63) (k2 : y * 2 ^ k ≤ 18446744073709551615) (k3 : 9223372036854775808 ≤ y * 2 ^ k) :
    ∃ v a b hs ls u t u1 u0 q : Int, Prep hi lo y v a b hs ls u t u1 u0 q k := by
  obtain ⟨hi, rfl⟩ := Int.eq_ofNat_of_zero_le (show 0 ≤ hi by omega); obtain ⟨lo, rfl⟩ := Int.eq_ofNat_of_zero_le (show 0 ≤ lo by omega); obtain ⟨y, rfl⟩ := Int.eq_ofNat_of_zero_le (show 0 ≤ y by omega)
  have g1 : hi * 2 ^ k + 2 ^ k ≤ y * 2 ^ k := by
    have := Nat.mul_le_mul_right (2 ^ k) (show hi + 1 ≤ y by omega); rw [Nat.add_mul] at this; omega
  have g2 : lo / 2 ^ (64 - k) < 2 ^ k := Gc lo k (by omega) (by omega); have g3 := rN hi lo k (by omega); have p1 : ((2 ^ k : Nat) : Int) = 2 ^ k := by simp
  have p2 : ((2 ^ (64 - k) : Nat) : Int) = 2 ^ (64 - k) := by simp
  rw [← p1] at k2 k3; have g4 := fun h => Gb hi k (lo / 2 ^ (64 - k)) g2 h; refine ⟨_, _, _, _, _, _, _, _, _, _, ⟨rfl, rfl, rfl, rfl, rfl, rfl, rfl, rfl, rfl, rfl, ?_, ?_, ?_, ?_, ?_, ?_, ?_⟩⟩
  all_goals simp only [← p1, ← p2]
  all_goals clear p1 p2 k1
  all_goals generalize 2 ^ k = p at *
  all_goals generalize 2 ^ (64 - k) = p' at *
  all_goals have e1 : (y : Int) * (p : Int) = ((y * p : Nat) : Int) := by simp
  all_goals have e2 : (hi : Int) * (p : Int) = ((hi * p : Nat) : Int) := by simp
  all_goals have e3 : (lo : Int) * (p : Int) = ((lo * p : Nat) : Int) := by simp
  all_goals have e4 : (lo : Int) / (p' : Int) = ((lo / p' : Nat) : Int) := by simp
  all_goals have e5 : ((hi : Int) * 18446744073709551616 + lo) * p = (((hi * 18446744073709551616 + lo) * p : Nat) : Int) := by simp
  all_goals rw [e1] at k2 k3
  all_goals have g5 := g4 (by omega)
  all_goals have hs : IntKind.u64.wrap ((hi * p : Nat) : Int) = ((hi * p : Nat) : Int) := xo _ (by omega) (by omega)
  all_goals have ht : IntKind.u64.wrap ((lo * p : Nat) : Int) = ((lo * p % 18446744073709551616 : Nat) : Int) := by rw [gW]; simp
  all_goals have t1 : lo * p % 18446744073709551616 < 18446744073709551616 := Nat.mod_lt _ (by omega)
  all_goals have a1 := Dg ((y * p : Nat) : Int) (by omega) (by omega)
  all_goals have a2 := Dg ((lo * p % 18446744073709551616 : Nat) : Int) (by omega) (by omega)
  all_goals clear g4
  all_goals simp only [e1, e2, e3, e4, e5, hs, ht, g5, a1, a2, g3]
  all_goals clear e1 e2 e3 e4 e5 hs ht g5 a1 a2 g3
  all_goals generalize lo * p % 18446744073709551616 = t at *
  all_goals generalize y * p = v at *
  all_goals generalize lo / p' = l at *
  all_goals generalize hi * p = h at *
  · exact ⟨by omega, by omega, by omega, by omega, by omega, by omega, by omega, by omega, by omega⟩
  all_goals omega
theorem Lv.Digit.second {u u1 a b v u0 : Int} (d : Digit u u1 a b v) (w0 : 0 ≤ u0) (w1 : u0 < 4294967296) : Digit ((u * 4294967296 + u1) % v) u0 a b v := by
  have h2 := Int.emod_lt_of_pos (u * 4294967296 + u1) (b := v) (by have := d.uv; have := d.u0; omega); have h3 := Int.emod_nonneg (u * 4294967296 + u1) (b := v) (by have := d.uv; have := d.u0; omega); exact ⟨h3, h2, w0, w1, d.a0, d.a1, d.b0, d.b1, d.hv⟩
theorem Lv.Digit.ge {u u1 a b v : Int} (d : Digit u u1 a b v) : 0 ≤ (u * 4294967296 + u1) / v := Int.ediv_nonneg (by have := d.u0; have := d.l0; omega) (by have := d.uv; have := d.u0; omega)
theorem Prep.final {hi lo y v a b hs ls u t u1 u0 q : Int} {k : Nat} (P : Prep hi lo y v a b hs ls u t u1 u0 q k) (d : Digit u u1 a b v) (d2 : Digit ((u * 4294967296 + u1) % v) u0 a b v) :
    (hi * 18446744073709551616 + lo) / y = (u * 4294967296 + u1) / v * 4294967296 + ((u * 4294967296 + u1) % v * 4294967296 + u0) / v ∧
    (hi * 18446744073709551616 + lo) % y = ((u * 4294967296 + u1) % v * 4294967296 + u0) % v / 2 ^ k ∧
    0 ≤ ((u * 4294967296 + u1) % v * 4294967296 + u0) % v := by
  have h1 := Int.mul_ediv_add_emod (u * 4294967296 + u1) v; have h2 := Int.mul_ediv_add_emod ((u * 4294967296 + u1) % v * 4294967296 + u0) v; have vpos : 0 < v := by have := d.uv; have := d.u0; omega
  have h3 := Int.emod_lt_of_pos ((u * 4294967296 + u1) % v * 4294967296 + u0) (b := v) vpos; have h4 := Int.emod_nonneg ((u * 4294967296 + u1) % v * 4294967296 + u0) (b := v) (by omega); generalize (u * 4294967296 + u1) / v = q1 at *; generalize (u * 4294967296 + u1) % v = r1 at *; generalize (r1 * 4294967296 + u0) / v = q2 at *; generalize (r1 * 4294967296 + u0) % v = r2 at *; have hw := P.whole; have htt := P.tt; have hv := P.v_; have pp : (0 : Int) < 2 ^ k := Int.pow_pos (by omega); generalize (2 : Int) ^ k = p at *; generalize hi * 18446744073709551616 + lo = n at *
  have e1 : n * p = (q1 * 4294967296 + q2) * v + r2 := by
    rw [hw, htt]; grind
  have ypos : 0 < y := by
    by_cases c : 0 < y
    · exact c
    · have := Int.mul_le_mul_of_nonneg_right (show y ≤ 0 by omega) (show 0 ≤ p by omega)
      omega
  subst hv; have e2 : n * p / (y * p) = n / y := Int.mul_ediv_mul_of_pos_left n y pp
  have e3 : n * p / (y * p) = q1 * 4294967296 + q2 := by
    rw [e1, Int.add_comm, Int.add_mul_ediv_right _ _ (by omega), Int.ediv_eq_zero_of_lt h4 h3]; omega
  have e4 : n * p % (y * p) = n % y * p := by rw [Int.mul_comm n, Int.mul_comm y, Int.mul_emod_mul_of_pos n y pp, Int.mul_comm]
  have e5 : n * p % (y * p) = r2 := by
    rw [e1, Int.add_comm, Int.add_mul_emod_self_right, Int.emod_eq_of_lt h4 h3]
  refine ⟨by omega, ?_, h4⟩; rw [← e5, e4, Int.mul_ediv_cancel _ (by omega)]
theorem EB (hi lo y : Int) (w : World) (h0 : 0 < hi) (h1 : hi < y) (h2 : y ≤ 18446744073709551615) (h3 : 0 ≤ lo) (h4 : lo ≤ 18446744073709551615) :
    Calls Tryz.prog 180 #[.int .u64 hi, .int .u64 lo, .int .u64 y] w fun e w' => e = .returned (.tuple #[.int .u64 ((hi * 18446744073709551616 + lo) / y), .int .u64 ((hi * 18446744073709551616 + lo) % y)]) ∧ w = w' := by
  go_enter Tryz.func180, Tryz.ntmps180; go_wp2_with fail; refine (GB _ _ (by omega) (by omega)).mono ?_; rintro e w' ⟨k, hk1, hk2, hk3, rfl, rfl⟩; obtain ⟨v, a, b, hs, ls, u, t, u1, u0, q, P⟩ := Jo hi lo y k h0 h1 h3 h4 hk1 hk2 hk3; have v_ := P.v_; have a_ := P.a_; have b_ := P.b_; have hs_ := P.hs_; have ls_ := P.ls_; have u_ := P.u_; have t_ := P.t_; have u1_ := P.u1_; have u0_ := P.u0_; have q_ := P.q_; have d := P.d; have dq := d.qa; have g0 := d.start; rw [q_] at dq g0; obtain ⟨dq1, dq2, dq3, dq4, dq5, dq6⟩ := dq; have du0 := d.u0; have duv := d.uv; have dl0 := d.l0; have dl1 := d.l1; have da0 := d.a0; have da1 := d.a1; have db0 := d.b0; have db1 := d.b1; have dv1 : v ≤ 18446744073709551615 := by rw [← v_]; omega
  have dv0 : 9223372036854775808 ≤ v := by rw [← v_]; omega
  have t0 := P.t0; have t1 := P.t1; have w0 := P.w0; have w1 := P.w1; have hwhole := Lib.hid P.whole; have htt := Lib.hid P.tt; have hv_ := Lib.hid v_
  go_upto_block 0 with fail
  clear v_ a_ b_ hs_ ls_ u_ t_ u1_ u0_ q_
  go_cut [15] (fun x wx => x = .int .u64 ((u * 4294967296 + u1) / v) ∧ w = wx)
  case first =>
    go_wp2_with fail
    go_loop [15, 16] (fun x z => ∃ Q R : Int, Guess u u1 a v Q R ∧ R < 4294967296 ∧ x = .int .u64 Q ∧ z = .int .u64 R) (fun x _ => (intOf x).toNat)
    case atStart => exact ⟨u / a, u - u / a * a, d.start, by have := d.qa; omega, rfl, by rw [P.q_]⟩
    case round =>
      obtain ⟨Q, R, g, hR, rfl, rfl⟩ := hrel; have gb := g.bounds d; obtain ⟨gb1, gb2⟩ := gb; have gs := g; obtain ⟨gs1, gs2, gs3, gs4, gs5⟩ := gs; clear gs4 g0 P
      by_cases c : 4294967296 ≤ Q ∨ 4294967296 * R + u1 < Q * b
      · have gl := g.less d c
        obtain ⟨gl1, gl2⟩ := gl; have Hgl2 := Lib.hid gl2; clear gl2 g
        by_cases c1 : 4294967296 ≤ Q
        · by_cases c2 : 4294967296 ≤ R + a
          · go_wp2_with fail
            go_meet
            exact ⟨by rw [Hgl2.out.past d (by omega) c2], rfl⟩
          · go_wp2_with fail
            go_round
            case rel => exact ⟨Q - 1, R + a, Hgl2.out, by omega, rfl, rfl⟩
            case measure => simp [intOf]; omega
        · by_cases c2 : 4294967296 ≤ R + a
          · go_wp2_with fail
            go_meet
            exact ⟨by rw [Hgl2.out.past d (by omega) c2], rfl⟩
          · go_wp2_with fail
            go_round
            case rel => exact ⟨Q - 1, R + a, Hgl2.out, by omega, rfl, rfl⟩
            case measure => simp [intOf]; omega
      · have Hg := Lib.hid g
        clear g; go_wp2_with fail
        go_meet
        exact ⟨by rw [Hg.out.done d (by omega)], rfl⟩
  case rest =>
    obtain ⟨rfl, rfl⟩ := hcut; have d2 := d.second P.w0 P.w1; have hfin := P.final d d2; have hr := Lib.hid (d.rest dv1); have hr2 := Lib.hid (d2.rest dv1); have dlt := d.lt; have dge := d.ge; have dlt2 := d2.lt; have dge2 := d2.ge; clear P g0 d; generalize (u * 4294967296 + u1) / v = q1 at *; generalize (u * 4294967296 + u1) % v = r1 at *; have d2q := d2.qa; have d2s := d2.start; obtain ⟨e1, e2, e3, e4, e5, e6⟩ := d2q; have hr' := hr.out; have z0 := d2.u0; have z1 := d2.uv
    go_upto_block 2 with fail
    clear hr'
    go_cut [18] (fun x wx => x = .int .u64 ((r1 * 4294967296 + u0) / v) ∧ w = wx)
    case first =>
      go_wp2_with fail
      go_loop [18, 16] (fun x z => ∃ Q R : Int, Guess r1 u0 a v Q R ∧ R < 4294967296 ∧ x = .int .u64 Q ∧ z = .int .u64 R) (fun x _ => (intOf x).toNat)
      case atStart => exact ⟨r1 / a, r1 - r1 / a * a, d2.start, by have := d2.qa; omega, rfl, rfl⟩
      case round =>
        obtain ⟨Q, R, g, hR, rfl, rfl⟩ := hrel; have gb := g.bounds d2; obtain ⟨gb1, gb2⟩ := gb; have gs := g; obtain ⟨gs1, gs2, gs3, gs4, gs5⟩ := gs; clear gs4 d2s
        by_cases c : 4294967296 ≤ Q ∨ 4294967296 * R + u0 < Q * b
        · have gl := g.less d2 c
          obtain ⟨gl1, gl2⟩ := gl; have Hgl2 := Lib.hid gl2; clear gl2 g
          by_cases c1 : 4294967296 ≤ Q
          · by_cases c2 : 4294967296 ≤ R + a
            · go_wp2_with fail
              go_meet
              exact ⟨by rw [Hgl2.out.past d2 (by omega) c2], rfl⟩
            · go_wp2_with fail
              go_round
              case rel => exact ⟨Q - 1, R + a, Hgl2.out, by omega, rfl, rfl⟩
              case measure => simp [intOf]; omega
          · by_cases c2 : 4294967296 ≤ R + a
            · go_wp2_with fail
              go_meet
              exact ⟨by rw [Hgl2.out.past d2 (by omega) c2], rfl⟩
            · go_wp2_with fail
              go_round
              case rel => exact ⟨Q - 1, R + a, Hgl2.out, by omega, rfl, rfl⟩
              case measure => simp [intOf]; omega
        · have Hg := Lib.hid g
          clear g; go_wp2_with fail
          go_meet
          exact ⟨by rw [Hg.out.done d2 (by omega)], rfl⟩
    case rest =>
      obtain ⟨rfl, rfl⟩ := hcut; generalize (r1 * 4294967296 + u0) / v = q2 at *; generalize (r1 * 4294967296 + u0) % v = r2 at *; have hr2' := hr2.out; obtain ⟨hf1, hf2, hf3⟩ := hfin; have Hf1 := Lib.hid hf1; have Hf2 := Lib.hid hf2; clear hf1 hf2; go_wp2_with fail; go_ret2; exact ⟨av Hf1.out.symm Hf2.out.symm, rfl⟩
end

section
open Go.RowKit Lv
theorem ze (lo y : Int) (w : World) (h1 : 0 < y) (h2 : y ≤ 18446744073709551615) (h3 : 0 ≤ lo) (h4 : lo ≤ 18446744073709551615) :
    Calls Tryz.prog 180 #[.int .u64 0, .int .u64 lo, .int .u64 y] w fun e w' => e = .returned (.tuple #[.int .u64 (lo / y), .int .u64 (lo % y)]) ∧ ∃ n, w' = w.drewN n := by
  have b1 : 0 ≤ lo / y := Int.ediv_nonneg h3 (by omega); have b2 : lo / y ≤ lo := Int.ediv_le_self y h3; have b3 := Int.emod_nonneg lo (b := y) (by omega); have b4 := Int.emod_lt_of_pos lo h1; have c : (y == 0) = false := beq_eq_false_iff_ne.2 (by omega); go_enter Tryz.func180, Tryz.ntmps180; go_wp2_with fail
  go_quiet (fail)
  go_wp2; go_ret2; exact ⟨rfl, _, rfl⟩
theorem EC (hi lo y : Int) (w : World) (h : u64 hi) (h1 : hi < y) (h2 : y ≤ 18446744073709551615) (h' : u64 lo) :
    Calls Tryz.prog 180 #[.int .u64 hi, .int .u64 lo, .int .u64 y] w fun e w' => e = .returned (.tuple #[.int .u64 ((hi * 18446744073709551616 + lo) / y), .int .u64 ((hi * 18446744073709551616 + lo) % y)]) ∧ ∃ n, w' = w.drewN n := by
  obtain ⟨h3, h4⟩ := h'
  by_cases c : hi = 0
  · subst c
    rw [show 0 * 18446744073709551616 + lo = lo by omega]; exact ze lo y w (by omega) h2 h3 h4
  · refine (EB hi lo y w (by have := h.1; omega) h1 h2 h3 h4).mono ?_
    rintro e w' ⟨he, rfl⟩; exact ⟨he, 0, rfl⟩
theorem mp (hi lo d : Int) (w : World) (h : u64 hi) (h' : u64 lo) (hd : u64 d) :
    Calls Tryz.prog 159 #[.int .u64 hi, .int .u64 lo, .int .u64 d] w fun e w' => e = .returned (.tuple #[.int .u64 (Ba (hi * 18446744073709551616 + lo) d).1, .bool (Ba (hi * 18446744073709551616 + lo) d).2]) ∧ ∃ n, w' = w.drewN n := by
  obtain ⟨d1, d2⟩ := hd
  by_cases c : d = 0
  · subst c
    rw [show Ba (hi * 18446744073709551616 + lo) 0 = (0, false) from if_neg (by simp)]; go_enter Tryz.func159, Tryz.ntmps159; go_wp2; go_ret2; exact ⟨rfl, 0, rfl⟩
  · obtain ⟨h1, h2⟩ := h
    have c' : (d == 0) = false := beq_eq_false_iff_ne.2 c
    by_cases c2 : d ≤ hi
    · have e1 : Ba (hi * 18446744073709551616 + lo) d = (0, false) := by
        refine if_neg ?_; have := h'.1
        have h5 : 18446744073709551616 ≤ (hi * 18446744073709551616 + lo) / d := by
          rw [Int.le_ediv_iff_mul_le (by omega)]; omega
        omega
      have E := Lib.hid e1; clear e1; go_enter Tryz.func159, Tryz.ntmps159; go_wp2; go_ret2; exact ⟨vw E.out, 0, rfl⟩
    · have hx0 : 0 ≤ hi * 18446744073709551616 + lo := by have := h'.1; omega
      have b1 : 0 ≤ (hi * 18446744073709551616 + lo) / d := Int.ediv_nonneg hx0 (by omega)
      have b2 : (hi * 18446744073709551616 + lo) / d ≤ 18446744073709551615 := by
        have : (hi * 18446744073709551616 + lo) / d < 18446744073709551616 := Int.ediv_lt_of_lt_mul (by omega) (by have := h'.2; omega)
        omega
      have b3 := Int.emod_nonneg (hi * 18446744073709551616 + lo) (b := d) (by omega); have b4 := Int.emod_lt_of_pos (hi * 18446744073709551616 + lo) (b := d) (by omega); have E := Lib.hid (show Ba (hi * 18446744073709551616 + lo) d = if d ≠ 0 ∧ (hi * 18446744073709551616 + lo) / d ≤ 9223372036854775807 then (rnd (hi * 18446744073709551616 + lo) d, true) else (0, false) from rfl); have R := Lib.hid (show rnd (hi * 18446744073709551616 + lo) d = (hi * 18446744073709551616 + lo) / d + if d ≤ 2 * ((hi * 18446744073709551616 + lo) % d) then 1 else 0 from rfl); have D := Lib.hid (EC hi lo d w ⟨h1, h2⟩ (by omega) d2 h'); generalize Ba (hi * 18446744073709551616 + lo) d = N at *; generalize rnd (hi * 18446744073709551616 + lo) d = N2 at *; clear h'; generalize (hi * 18446744073709551616 + lo) / d = q at *; generalize (hi * 18446744073709551616 + lo) % d = r at *
      by_cases c3 : 9223372036854775807 < q
      · go_enter Tryz.func159, Tryz.ntmps159
        go_wp2_with (go_at_call 180; refine D.out.mono ?_; rintro e w' ⟨rfl, n, rfl⟩); go_ret2; exact ⟨vw (by rw [E.out, if_neg (by omega)]), _, rfl⟩
      · by_cases c4 : d - r ≤ r
        · go_enter Tryz.func159, Tryz.ntmps159
          go_wp2_with (go_at_call 180; refine D.out.mono ?_; rintro e w' ⟨rfl, n, rfl⟩); go_ret2; exact ⟨vw (by rw [E.out, R.out, if_pos (by omega), if_pos (by omega)]), _, rfl⟩
        · go_enter Tryz.func159, Tryz.ntmps159
          go_wp2_with (go_at_call 180; refine D.out.mono ?_; rintro e w' ⟨rfl, n, rfl⟩); go_ret2; exact ⟨vw (by rw [E.out, R.out, if_pos (by omega), if_neg (by omega)]; simp), _, rfl⟩
theorem wm (a b d : Int) (ng : Bool) (w : World) (h : u64 a) (h' : u64 b) (hd : u64 d) :
    Calls Tryz.prog 157 #[.int .u64 a, .int .u64 b, .int .u64 d, .bool ng] w fun e w' => e = .returned (.tuple #[.int .i64 (nk a b d ng).1, .bool (nk a b d ng).2]) ∧ ∃ n, w' = w.drewN n := by
  obtain ⟨a, rfl⟩ := Int.eq_ofNat_of_zero_le h.1; obtain ⟨b, rfl⟩ := Int.eq_ofNat_of_zero_le h'.1; have ha := h.2; have hb := h'.2; have M := Lib.hid (Tryz.bits_Mul64 a b (by omega) (by omega) w)
  have hlt : a * b / 18446744073709551616 < 18446744073709551616 := by
    rw [Nat.div_lt_iff_lt_mul (by omega)]; exact Nat.mul_lt_mul_of_le_of_lt (show a ≤ 18446744073709551616 by omega) (by omega) (by omega)
  have hlo : a * b % 18446744073709551616 < 18446744073709551616 := Nat.mod_lt _ (by omega)
  have hsplit : ((a * b / 18446744073709551616 : Nat) : Int) * 18446744073709551616 + ((a * b % 18446744073709551616 : Nat) : Int) = (a : Int) * (b : Int) := by
    rw [← Int.natCast_mul]; omega
  have S := Lib.hid (show nk a b d ng = if d = 0 then (0, false) else fit (sg ng (rnd ((a : Int) * b) d)) from rfl); generalize nk a b d ng = Z at *; rw [← hsplit] at S; clear hsplit; generalize a * b / 18446744073709551616 = hi at *; generalize a * b % 18446744073709551616 = lo at *; have NE := fun w => mp hi lo d w ⟨by omega, by omega⟩ ⟨by omega, by omega⟩ hd; generalize hx : (hi : Int) * 18446744073709551616 + (lo : Int) = x at *; have hx0 : 0 ≤ x := by omega
  clear hx; have d1 := hd.1; have hd2 := hd.2
  by_cases c : d ≠ 0 ∧ x / d ≤ 9223372036854775807
  · have e1 : Ba x d = (rnd x d, true) := if_pos c
    have q0 : 0 ≤ x / d := Int.ediv_nonneg hx0 d1; have rb := fD x d; have SG := fun w => dh 0 (rnd x d) ng w ⟨by omega, by omega⟩ ⟨by omega, by omega⟩; have HN := Lib.hid NE; have HS := Lib.hid SG; have E := Lib.hid e1; clear NE SG e1 rb q0; rw [if_neg c.1] at S; clear c h h' hd; rw [E.out] at HN; go_enter Tryz.func157, Tryz.ntmps157; go_wp2_with fail; refine M.out.mono ?_; rintro e w' ⟨rfl, rfl⟩; go_wp2_with fail; refine (HN.out _).mono ?_; rintro e w' ⟨rfl, n, rfl⟩; go_wp2_with fail; refine (HS.out _).mono ?_; rintro e w' ⟨rfl, rfl⟩; go_wp2_with fail; go_ret2; exact ⟨vw (by rw [S.out]), _, rfl⟩
  · have e1 : Ba x d = (0, false) := if_neg c
    have HN := Lib.hid NE; have E := Lib.hid e1
    have e2 : (if d = 0 then (0, false) else fit (sg ng (rnd x d))) = ((0 : Int), false) := by
      by_cases c2 : d = 0
      · rw [if_pos c2]
      · rw [if_neg c2]
        have rb := fD x d; refine dB ?_
        cases ng <;> simp only [sg] <;> simp <;> omega
    rw [e2] at S; clear NE e1 e2 c h h' hd; rw [E.out] at HN; go_enter Tryz.func157, Tryz.ntmps157; go_wp2_with fail; refine M.out.mono ?_; rintro e w' ⟨rfl, rfl⟩; go_wp2_with fail; refine (HN.out _).mono ?_; rintro e w' ⟨rfl, n, rfl⟩; go_wp2_with fail; go_ret2; exact ⟨vw S.out, _, rfl⟩
theorem ED (a b : Int) (w : World) (h : i64 a) (h' : i64 b) : Calls Tryz.prog 133 #[.int .i64 a, .int .i64 b] w fun e w' => e = .returned (.tuple #[.int .i64 (lh a b).1, .bool (lh a b).2]) ∧ ∃ n, w' = w.drewN n := by
  have hs : nk (Lv.abs a) (Lv.abs b) 10000 (decide (a < 0) != decide (b < 0)) = lh a b := by
    unfold lh nk; rw [if_neg (by omega)]; rfl
  have S := fun w => wm (Lv.abs a) (Lv.abs b) 10000 (decide (a < 0) != decide (b < 0)) w (eB h) (eB h') ⟨by omega, by omega⟩; rw [hs] at S; have HS := Lib.hid S; have Z := Lib.hid (fun w => lv a w h); have Z2 := Lib.hid (fun w => lv b w h'); clear S hs; obtain ⟨h1, h2⟩ := h; go_enter Tryz.func133, Tryz.ntmps133; go_wp2_with fail; refine (Z.out _).mono ?_; rintro e w' ⟨rfl, rfl⟩; go_wp2_with fail; refine (Z2.out _).mono ?_; rintro e w' ⟨rfl, rfl⟩; go_wp2_with fail; refine (HS.out _).mono ?_; rintro e w' ⟨rfl, n, rfl⟩; go_wp2_with fail; go_ret2; exact ⟨rfl, _, rfl⟩
end

section
open Go.RowKit Lv
theorem B3 {a b c d : Int} (a1 : 0 ≤ a) (a2 : a ≤ 18446744073709551615) (b1 : 0 ≤ b) (b2 : b ≤ 18446744073709551615) (c1 : 0 ≤ c) (c2 : c ≤ 18446744073709551615) (d1 : 0 ≤ d) (d2 : d ≤ 18446744073709551615) :
    (IntKind.u64.wrap (b - d) = aK (wd a b - wd c d)) ∧ (b < d → IntKind.u64.wrap (IntKind.u64.wrap (a - c) - 1) = aF (wd a b - wd c d)) ∧ (d ≤ b → IntKind.u64.wrap (a - c) = aF (wd a b - wd c d)) := by
  simp only [gW, aK, aF, wd]
  refine ⟨by omega, fun h => by omega, fun h => by omega⟩
theorem qF (a b c d : Int) (w : World) (ha : u64 a) (hb : u64 b) (hc : u64 c) (hd : u64 d) :
    Calls Tryz.prog 173 #[.agg #[.int .u64 a, .int .u64 b], .agg #[.int .u64 c, .int .u64 d]] w fun e w' => e = .returned (.agg #[.int .u64 (aF (wd a b - wd c d)), .int .u64 (aK (wd a b - wd c d))]) ∧ Kept w w' := by
  obtain ⟨a1, a2⟩ := ha; obtain ⟨b1, b2⟩ := hb; obtain ⟨c1, c2⟩ := hc; obtain ⟨d1, d2⟩ := hd; have H := Lib.hid (B3 a1 a2 b1 b2 c1 c2 d1 d2); go_enter Tryz.func173, Tryz.ntmps173; go_wp2
  · exact bodyPost_ret (v := .agg #[_, _]) (by simp [results, Tryz.results173, go_sem]) rfl ⟨lj (H.out.2.1 (by assumption)) H.out.1, kpt⟩
  · exact bodyPost_ret (v := .agg #[_, _]) (by simp [results, Tryz.results173, go_sem]) rfl ⟨lj (H.out.2.2 (by assumption)) ((xo _ (by omega) (by omega)).symm.trans H.out.1), kpt⟩
theorem B4 (a b c d : Int) (w : World) (ha : u64 a) (hb : u64 b) (hc : u64 c) (hd : u64 d) :
    Calls Tryz.prog 172 #[.agg #[.int .u64 a, .int .u64 b], .agg #[.int .u64 c, .int .u64 d]] w fun e w' => e = .returned (.bool (decide (wd a b < wd c d))) ∧ Kept w w' := by
  obtain ⟨a1, a2⟩ := ha; obtain ⟨b1, b2⟩ := hb; obtain ⟨c1, c2⟩ := hc; obtain ⟨d1, d2⟩ := hd; have H := Lib.hid (show (a < c → wd a b < wd c d) ∧ (c < a → ¬ wd a b < wd c d) ∧ (a = c → (wd a b < wd c d ↔ b < d)) by unfold wd; omega)
  by_cases k1 : a < c
  · go_enter Tryz.func172, Tryz.ntmps172
    go_wp2; go_ret; exact ⟨dM (decide_eq_true (H.out.1 k1)).symm, kpt⟩
  · by_cases k2 : c < a
    · have k3 : (a == c) = false := beq_eq_false_iff_ne.2 (by omega)
      go_enter Tryz.func172, Tryz.ntmps172; go_wp2; go_ret; exact ⟨dM (decide_eq_false (by have := H.out.2.1 k2; omega)).symm, kpt⟩
    · obtain rfl : a = c := by omega
      have k3 : (a == a) = true := beq_iff_eq.2 rfl; clear H; have H := Lib.hid (show decide (b < d) = decide (wd a b < wd a d) by unfold wd; congr 1; simp); go_enter Tryz.func172, Tryz.ntmps172; go_wp2; go_ret; exact ⟨dM H.out, kpt⟩
end

namespace Lv
open Go
structure Bits (X T Y : Int) (k : Nat) : Prop where
  le : k ≤ 128
  e : X * 2 ^ k = T * 340282366920938463463374607431768211456 + Y
  t0 : 0 ≤ T
  y0 : 0 ≤ Y
  y1 : Y < 340282366920938463463374607431768211456
theorem Bits.start {X : Int} (h : 0 ≤ X) (g : X < 340282366920938463463374607431768211456) : Bits X 0 X 0 := ⟨by omega, by simp, by omega, h, g⟩
theorem Bits.step {X T Y : Int} {k : Nat} (b : Bits X T Y k) (h : k < 128) : Bits X (2 * T + Y / 170141183460469231731687303715884105728) (2 * Y % 340282366920938463463374607431768211456) (k + 1) := by
  obtain ⟨h1, h2, h3, h4, h5⟩ := b; refine ⟨by omega, ?_, by omega, by omega, by omega⟩; rw [Int.pow_succ, ← Int.mul_assoc, h2]
  omega
theorem Bits.le_X {X T Y : Int} {k : Nat} (b : Bits X T Y k) (hX : 0 ≤ X) : T ≤ X := by
  obtain ⟨h1, h2, h3, h4, h5⟩ := b
  have h6 : (2 : Int) ^ k ≤ 2 ^ 128 := by
    have := Nat.pow_le_pow_right (n := 2) (by omega) h1; have e1 : ((2 ^ k : Nat) : Int) = 2 ^ k := by simp
    have e2 : ((2 ^ 128 : Nat) : Int) = 2 ^ 128 := by simp
    rw [← e1, ← e2]; exact Int.ofNat_le.2 this
  have h7 := Int.mul_le_mul_of_nonneg_left h6 hX; have h8 : (2 : Int) ^ 128 = 340282366920938463463374607431768211456 := by decide
  rw [h8] at h7
  omega
theorem Bits.done {X T Y : Int} (b : Bits X T Y 128) : T = X := by
  obtain ⟨h1, h2, h3, h4, h5⟩ := b; have h8 : (2 : Int) ^ 128 = 340282366920938463463374607431768211456 := by decide
  rw [h8] at h2
  omega
theorem GC {T b d : Int} (t0 : 0 ≤ T) (b0 : 0 ≤ b) (b1 : b ≤ 1) (d0 : 0 < d) (h : 2 * (T % d) + b < d) : (2 * T + b) / d = 2 * (T / d) ∧ (2 * T + b) % d = 2 * (T % d) + b := by
  have e := Int.mul_ediv_add_emod T d; have m := Int.emod_nonneg T (b := d) (by omega); generalize T / d = q at *; generalize T % d = r at *; have e2 : 2 * T + b = (2 * r + b) + d * (2 * q) := by rw [← e]; grind
  rw [e2]; refine ⟨?_, ?_⟩
  · rw [Int.add_mul_ediv_left _ _ (by omega), Int.ediv_eq_zero_of_lt (by omega) h]; omega
  · rw [Int.add_mul_emod_self_left, Int.emod_eq_of_lt (by omega) h]
theorem GD {T b d : Int} (t0 : 0 ≤ T) (b0 : 0 ≤ b) (b1 : b ≤ 1) (d0 : 0 < d) (h : d ≤ 2 * (T % d) + b) : (2 * T + b) / d = 2 * (T / d) + 1 ∧ (2 * T + b) % d = 2 * (T % d) + b - d := by
  have e := Int.mul_ediv_add_emod T d; have m := Int.emod_nonneg T (b := d) (by omega); have m2 := Int.emod_lt_of_pos T d0; generalize T / d = q at *; generalize T % d = r at *; have e2 : 2 * T + b = (2 * r + b - d) + d * (2 * q + 1) := by rw [← e]; grind
  rw [e2]; refine ⟨?_, ?_⟩
  · rw [Int.add_mul_ediv_left _ _ (by omega), Int.ediv_eq_zero_of_lt (by omega) (by omega)]; omega
  · rw [Int.add_mul_emod_self_left, Int.emod_eq_of_lt (by omega) (by omega)]
theorem GE {Y : Int} (y0 : 0 ≤ Y) (y1 : Y < 340282366920938463463374607431768211456) : aF (wd (aF Y) (aK Y) + wd (aF Y) (aK Y)) = aF (2 * Y % 340282366920938463463374607431768211456) := by
  rw [cV y0 y1]; unfold aF; omega
theorem GF {Y : Int} (y0 : 0 ≤ Y) (y1 : Y < 340282366920938463463374607431768211456) : aK (wd (aF Y) (aK Y) + wd (aF Y) (aK Y)) = aK (2 * Y % 340282366920938463463374607431768211456) := by
  rw [cV y0 y1]; unfold aK; omega
theorem EE {Y : Int} (y0 : 0 ≤ Y) (y1 : Y < 340282366920938463463374607431768211456) : aF Y / 9223372036854775808 = Y / 170141183460469231731687303715884105728 := by unfold aF; omega
theorem EI {q : Int} (y0 : 0 ≤ q) (y1 : 2 * q < 340282366920938463463374607431768211456) : aF (wd (aF q) (aK q) + wd (aF q) (aK q)) = aF (2 * q) := by
  rw [cV y0 (by omega)]; unfold aF; omega
theorem EJ {q : Int} (y0 : 0 ≤ q) (y1 : 2 * q < 340282366920938463463374607431768211456) : aK (wd (aF q) (aK q) + wd (aF q) (aK q)) = aK (2 * q) := by
  rw [cV y0 (by omega)]; unfold aK; omega
theorem GG (q : Int) : aF (2 * q + 1) = aF (2 * q) := by unfold aF; omega
theorem DH (q : Int) : aK (2 * q + 1) = aK (2 * q) + 1 := by unfold aK; omega
end Lv

section
open Go.RowKit Lv
def GH (X d : Int) (w : World) (r i : Value) (wr : World) : Prop := ∃ (k : Nat) (T Y : Int), Lv.Bits X T Y k ∧ T < 340282366920938463463374607431768211456 ∧ i = .int .i64 k ∧ r = .int .u64 (T % d) ∧
  Box wr w.heap.size 142 #[.int .u64 (aF Y), .int .u64 (aK Y)] ∧ Box wr (w.heap.size + 1 + 1) 142 #[.int .u64 (aF (T / d)), .int .u64 (aK (T / d))] ∧
  Box wr (w.heap.size + 1) 142 #[.int .u64 0, .int .u64 0] ∧ Kept w wr
theorem B5 (X d : Int) (w : World) (x0 : 0 ≤ X) (x1 : X < 340282366920938463463374607431768211456) (d0 : 0 < d) (d2 : d ≤ 18446744073709551615) :
    Calls Tryz.prog 174 #[.agg #[.int .u64 (aF X), .int .u64 (aK X)], .int .u64 d] w fun e w' => e = .returned (.tuple #[.agg #[.int .u64 (aF (X / d)), .int .u64 (aK (X / d))], .int .u64 (X % d)]) ∧ Kept w w' := by
  go_enter Tryz.func174, Tryz.ntmps174; go_wp2_with fail
  go_loopw [7, 8] (fun r i wr => GH X d w r i wr) (fun _ i _ => 128 - (intOf i).toNat)
  case atStart =>
    refine ⟨0, 0, X, Bits.start x0 x1, by omega, rfl, by simp, bxd, ?_, bxd, kpt⟩; have e0 : aF (0 / d) = 0 := by rw [Int.zero_ediv]; rfl
    have e1 : aK (0 / d) = 0 := by rw [Int.zero_ediv]; rfl
    rw [e0, e1]; exact bxd
  case round =>
    obtain ⟨k, T, Y, hb, ht, rfl, rfl, bx, bq, bo, hk⟩ := hrel; have hklt := hb.le
    by_cases hlt : k < 128
    · have hb' := hb.step hlt
      have hT' := hb'.le_X x0; have y0 := hb.y0; have y1 := hb.y1; have t0 := hb.t0; have hbit : aF Y / 9223372036854775808 = Y / 170141183460469231731687303715884105728 := EE y0 y1; have b0 : 0 ≤ Y / 170141183460469231731687303715884105728 := by omega
      have b1 : Y / 170141183460469231731687303715884105728 ≤ 1 := by omega
      have r0 := Int.emod_nonneg T (b := d) (by omega); have r1 := Int.emod_lt_of_pos T d0; have q0 : 0 ≤ T / d := Int.ediv_nonneg t0 (by omega); have q1 : T / d ≤ T := Int.ediv_le_self d t0; have yh := GE y0 y1; have yl := GF y0 y1; have lo := Lib.hid (fun h => @GC T (Y / 170141183460469231731687303715884105728) d t0 b0 b1 d0 h); have hi := Lib.hid (fun h => @GD T (Y / 170141183460469231731687303715884105728) d t0 b0 b1 d0 h); have HB := Lib.hid hb'; have HT := Lib.hid (show 2 * T + Y / 170141183460469231731687303715884105728 < 340282366920938463463374607431768211456 by omega); have ql : 2 * (T / d) < 340282366920938463463374607431768211456 := by omega
      have qh1 := EI q0 ql; have qh2 := EJ q0 ql; clear hb hb' hT' y0 y1 ql q1 ht x0 x1 t0; generalize Y / 170141183460469231731687303715884105728 = b at *; generalize 2 * Y % 340282366920938463463374607431768211456 = Y' at *; generalize hr : T % d = r at *; generalize hq : T / d = q at *; have Hr := Lib.hid hr; have Hq := Lib.hid hq; clear hr hq
      by_cases hA : 2 * r + b < d
      · have cr : (r / 9223372036854775808 == 1) = false := beq_eq_false_iff_ne.2 (by omega)
        have bx_0 := Box.c0 bx; have bx_1 := Box.c1 bx; have bx_f := Box.loose bx 0; have bx_g := Box.loose bx 1; have bq_0 := Box.c0 bq; have bq_1 := Box.c1 bq; have bq_f := Box.loose bq 0; have bq_g := Box.loose bq 1; go_wp2_with fail; refine (bE _ _ _ _ _ (aQ _) (aO _) (aQ _) (aO _)).mono ?_; rintro e w1 ⟨rfl, hk1⟩; obtain ⟨hk1c, hk1f⟩ := bP hk1; have hk1z := Below.size hk1
        try simp only [World.size_alloc, World.size_setCell] at hk1z hk1c hk1f
        try have hk1x : w.heap.size ≤ w1.heap.size := by omega
        try have hk1y := Nat.lt_of_succ_le hk1z
        try have hk1x2 : w.heap.size < w1.heap.size := by omega
        try have hk1w : w.heap.size + 1 < w1.heap.size := by omega
        have bx1 := Box.kept hk1 bx; have bq1 := Box.kept hk1 bq; have bo1 := Box.kept hk1 bo; clear bx_0 bx_1 bx_f bx_g bq_0 bq_1 bq_f bq_g; have bx1_0 := Box.c0 bx1; have bx1_1 := Box.c1 bx1; have bx1_f := Box.loose bx1 0; have bx1_g := Box.loose bx1 1; have bq1_0 := Box.c0 bq1; have bq1_1 := Box.c1 bq1; have bq1_f := Box.loose bq1 0; have bq1_g := Box.loose bq1 1; go_wp2_with fail; refine (bE _ _ _ _ _ (aQ _) (aO _) (aQ _) (aO _)).mono ?_; rintro e w2 ⟨rfl, hk2⟩; obtain ⟨hk2c, hk2f⟩ := bP hk2; have hk2z := Below.size hk2
        try simp only [World.size_alloc, World.size_setCell] at hk2z hk2c hk2f
        try have hk2x : w.heap.size ≤ w2.heap.size := by omega
        try have hk2y := Nat.lt_of_succ_le hk2z
        try have hk2x2 : w.heap.size < w2.heap.size := by omega
        try have hk2w : w.heap.size + 1 < w2.heap.size := by omega
        have bx2 : Box w2 w.heap.size 142 #[.int .u64 (aF Y'), .int .u64 (aK Y')] := Box.kept hk2 bxd; have bq2 : Box w2 (w.heap.size + 1 + 1) 142 #[.int .u64 (aF q), .int .u64 (aK q)] := Box.kept hk2 bxd; have bo2 : Box w2 (w.heap.size + 1) 142 #[.int .u64 0, .int .u64 0] := Box.kept hk2 bxd; clear bx1_0 bx1_1 bx1_f bx1_g bq1_0 bq1_1 bq1_f bq1_g; have bx2_0 := Box.c0 bx2; have bx2_1 := Box.c1 bx2; have bx2_f := Box.loose bx2 0; have bx2_g := Box.loose bx2 1; have bq2_0 := Box.c0 bq2; have bq2_1 := Box.c1 bq2; have bq2_f := Box.loose bq2 0; have bq2_g := Box.loose bq2 1; go_wp2_with fail
        go_roundw
        case rel =>
          obtain ⟨e1, e2⟩ := lo.out hA; exact ⟨k + 1, 2 * T + b, Y', HB.out, HT.out, by go_num, by rw [e2, show r * 2 + b = 2 * r + b by omega], bxd, by rw [e1]; exact bxd, bxd, kpt⟩
        case measure => simp [intOf]; omega
      · have e1h := Lib.hid (GG q)
        have e1l := Lib.hid (DH q); have HI := Lib.hid (hi.out (by omega)); have lob := (aO (2 * q + 1)).2; have lob0 := (aO (2 * q)).1; have lob1 : aK (2 * q) + 1 ≤ 18446744073709551615 := by rw [← DH]; exact lob
        clear lob
        by_cases hB : r * 2 + b ≤ 18446744073709551615
        · have cr : (r / 9223372036854775808 == 1) = false := beq_eq_false_iff_ne.2 (by omega)
          have bx_0 := Box.c0 bx; have bx_1 := Box.c1 bx; have bx_f := Box.loose bx 0; have bx_g := Box.loose bx 1; have bq_0 := Box.c0 bq; have bq_1 := Box.c1 bq; have bq_f := Box.loose bq 0; have bq_g := Box.loose bq 1; go_wp2_with fail; refine (bE _ _ _ _ _ (aQ _) (aO _) (aQ _) (aO _)).mono ?_; rintro e w1 ⟨rfl, hk1⟩; obtain ⟨hk1c, hk1f⟩ := bP hk1; have hk1z := Below.size hk1
          try simp only [World.size_alloc, World.size_setCell] at hk1z hk1c hk1f
          try have hk1x : w.heap.size ≤ w1.heap.size := by omega
          try have hk1y := Nat.lt_of_succ_le hk1z
          try have hk1x2 : w.heap.size < w1.heap.size := by omega
          try have hk1w : w.heap.size + 1 < w1.heap.size := by omega
          have bx1 := Box.kept hk1 bx; have bq1 := Box.kept hk1 bq; have bo1 := Box.kept hk1 bo; clear bx_0 bx_1 bx_f bx_g bq_0 bq_1 bq_f bq_g; have bx1_0 := Box.c0 bx1; have bx1_1 := Box.c1 bx1; have bx1_f := Box.loose bx1 0; have bx1_g := Box.loose bx1 1; have bq1_0 := Box.c0 bq1; have bq1_1 := Box.c1 bq1; have bq1_f := Box.loose bq1 0; have bq1_g := Box.loose bq1 1; go_wp2_with fail; refine (bE _ _ _ _ _ (aQ _) (aO _) (aQ _) (aO _)).mono ?_; rintro e w2 ⟨rfl, hk2⟩; obtain ⟨hk2c, hk2f⟩ := bP hk2; have hk2z := Below.size hk2
          try simp only [World.size_alloc, World.size_setCell] at hk2z hk2c hk2f
          try have hk2x : w.heap.size ≤ w2.heap.size := by omega
          try have hk2y := Nat.lt_of_succ_le hk2z
          try have hk2x2 : w.heap.size < w2.heap.size := by omega
          try have hk2w : w.heap.size + 1 < w2.heap.size := by omega
          have bx2 : Box w2 w.heap.size 142 #[.int .u64 (aF Y'), .int .u64 (aK Y')] := Box.kept hk2 bxd; have bq2 : Box w2 (w.heap.size + 1 + 1) 142 #[.int .u64 (aF q), .int .u64 (aK q)] := Box.kept hk2 bxd; have bo2 : Box w2 (w.heap.size + 1) 142 #[.int .u64 0, .int .u64 0] := Box.kept hk2 bxd; clear bx1_0 bx1_1 bx1_f bx1_g bq1_0 bq1_1 bq1_f bq1_g; have bx2_0 := Box.c0 bx2; have bx2_1 := Box.c1 bx2; have bx2_f := Box.loose bx2 0; have bx2_g := Box.loose bx2 1; have bq2_0 := Box.c0 bq2; have bq2_1 := Box.c1 bq2; have bq2_f := Box.loose bq2 0; have bq2_g := Box.loose bq2 1; go_wp2_with fail
          go_roundw
          case rel =>
            obtain ⟨e1, e2⟩ := HI.out; exact ⟨k + 1, 2 * T + b, Y', HB.out, HT.out, by go_num, by rw [e2, show r * 2 + b - d = 2 * r + b - d by omega], bxd, by rw [e1, e1h.out, e1l.out]; exact bxd, bxd, kpt⟩
          case measure => simp [intOf]; omega
        · have cr : (r / 9223372036854775808 == 1) = true := beq_iff_eq.2 (by omega)
          obtain ⟨m, hm⟩ : ∃ m, m = r * 2 - 18446744073709551616 := ⟨_, rfl⟩; have hm1 : IntKind.u64.wrap (r * 2) = m := by rw [gW]; omega
          have hm2 : IntKind.u64.wrap (m + b - d) = 2 * r + b - d := by rw [gW]; omega
          have hm3 : 0 ≤ m := by omega
          have hm4 : m + b ≤ 18446744073709551615 := by omega
          clear hm; have bx_0 := Box.c0 bx; have bx_1 := Box.c1 bx; have bx_f := Box.loose bx 0; have bx_g := Box.loose bx 1; have bq_0 := Box.c0 bq; have bq_1 := Box.c1 bq; have bq_f := Box.loose bq 0; have bq_g := Box.loose bq 1; go_wp2_with fail; refine (bE _ _ _ _ _ (aQ _) (aO _) (aQ _) (aO _)).mono ?_; rintro e w1 ⟨rfl, hk1⟩; obtain ⟨hk1c, hk1f⟩ := bP hk1; have hk1z := Below.size hk1
          try simp only [World.size_alloc, World.size_setCell] at hk1z hk1c hk1f
          try have hk1x : w.heap.size ≤ w1.heap.size := by omega
          try have hk1y := Nat.lt_of_succ_le hk1z
          try have hk1x2 : w.heap.size < w1.heap.size := by omega
          try have hk1w : w.heap.size + 1 < w1.heap.size := by omega
          have bx1 := Box.kept hk1 bx; have bq1 := Box.kept hk1 bq; have bo1 := Box.kept hk1 bo; clear bx_0 bx_1 bx_f bx_g bq_0 bq_1 bq_f bq_g; have bx1_0 := Box.c0 bx1; have bx1_1 := Box.c1 bx1; have bx1_f := Box.loose bx1 0; have bx1_g := Box.loose bx1 1; have bq1_0 := Box.c0 bq1; have bq1_1 := Box.c1 bq1; have bq1_f := Box.loose bq1 0; have bq1_g := Box.loose bq1 1; go_wp2_with fail; refine (bE _ _ _ _ _ (aQ _) (aO _) (aQ _) (aO _)).mono ?_; rintro e w2 ⟨rfl, hk2⟩; obtain ⟨hk2c, hk2f⟩ := bP hk2; have hk2z := Below.size hk2
          try simp only [World.size_alloc, World.size_setCell] at hk2z hk2c hk2f
          try have hk2x : w.heap.size ≤ w2.heap.size := by omega
          try have hk2y := Nat.lt_of_succ_le hk2z
          try have hk2x2 : w.heap.size < w2.heap.size := by omega
          try have hk2w : w.heap.size + 1 < w2.heap.size := by omega
          have bx2 : Box w2 w.heap.size 142 #[.int .u64 (aF Y'), .int .u64 (aK Y')] := Box.kept hk2 bxd; have bq2 : Box w2 (w.heap.size + 1 + 1) 142 #[.int .u64 (aF q), .int .u64 (aK q)] := Box.kept hk2 bxd; have bo2 : Box w2 (w.heap.size + 1) 142 #[.int .u64 0, .int .u64 0] := Box.kept hk2 bxd; clear bx1_0 bx1_1 bx1_f bx1_g bq1_0 bq1_1 bq1_f bq1_g; have bx2_0 := Box.c0 bx2; have bx2_1 := Box.c1 bx2; have bx2_f := Box.loose bx2 0; have bx2_g := Box.loose bx2 1; have bq2_0 := Box.c0 bq2; have bq2_1 := Box.c1 bq2; have bq2_f := Box.loose bq2 0; have bq2_g := Box.loose bq2 1; go_wp2_with fail
          go_roundw
          case rel =>
            obtain ⟨e1, e2⟩ := HI.out; exact ⟨k + 1, 2 * T + b, Y', HB.out, HT.out, by go_num, by rw [e2], bxd, by rw [e1, e1h.out, e1l.out]; exact bxd, bxd, kpt⟩
          case measure => simp [intOf]; omega
    · obtain rfl : k = 128 := by omega
      have hX := hb.done; clear hb; subst hX; have bq_0 := Box.c0 bq; have bq_1 := Box.c1 bq; have bq_f := Box.loose bq 0; have bq_g := Box.loose bq 1; have bo_0 := Box.c0 bo; have bo_1 := Box.c1 bo; have bo_f := Box.loose bo 0; have bo_g := Box.loose bo 1; go_wp2_with fail; exact bodyPost_ret (v := .tuple #[.agg #[.int .u64 (aF (T / d)), .int .u64 (aK (T / d))], .int .u64 (T % d)]) (by simp [results, Tryz.results174, go_sem, bo_0, bo_1, bo_f, bo_g]) rfl ⟨rfl, kpt⟩
end

section
open Go.RowKit Lv
theorem wq (h l d : Int) (w : World) (hh : u64 h) (hl : u64 l) (d0 : 0 < d) (d2 : d ≤ 18446744073709551615) :
    Calls Tryz.prog 174 #[.agg #[.int .u64 h, .int .u64 l], .int .u64 d] w fun e w' => e = .returned (.tuple #[.agg #[.int .u64 (aF (wd h l / d)), .int .u64 (aK (wd h l / d))], .int .u64 (wd h l % d)]) ∧ Kept w w' := by
  have x0 : 0 ≤ wd h l := by unfold wd; have := hh.1; have := hl.1; omega
  have x1 : wd h l < 340282366920938463463374607431768211456 := by unfold wd; have := hh.2; have := hl.2; omega
  have H := B5 (wd h l) d w x0 x1 d0 d2; rw [D6 hh hl, D7 hh hl] at H; exact H
theorem IB {q : Int} (q0 : 0 ≤ q) (q1 : q < 340282366920938463463374607431768211456) : aF (wd (aF q) (aK q) + wd 0 1) = aF (q + 1) ∧ aK (wd (aF q) (aK q) + wd 0 1) = aK (q + 1) := by
  rw [cV q0 q1]; exact ⟨rfl, rfl⟩
theorem kP (h l d : Int) (w : World) (hh : u64 h) (hl : u64 l) (d0 : 0 < d) (d2 : d ≤ 18446744073709551615) :
    Calls Tryz.prog 144 #[.agg #[.int .u64 h, .int .u64 l], .int .u64 d] w fun e w' => e = .returned (.agg #[.int .u64 (aF (rnd (wd h l) d)), .int .u64 (aK (rnd (wd h l) d))]) ∧ Kept w w' := by
  have x0 : 0 ≤ wd h l := by unfold wd; have := hh.1; have := hl.1; omega
  have x1 : wd h l < 340282366920938463463374607431768211456 := by unfold wd; have := hh.2; have := hl.2; omega
  have D := Lib.hid (fun w => wq h l d w hh hl d0 d2); have R := Lib.hid (show rnd (wd h l) d = wd h l / d + if d ≤ 2 * (wd h l % d) then 1 else 0 from rfl); have q0 : 0 ≤ wd h l / d := Int.ediv_nonneg x0 (by omega); have q1 : wd h l / d ≤ wd h l := Int.ediv_le_self d x0; have r0 := Int.emod_nonneg (wd h l) (b := d) (by omega); have r1 := Int.emod_lt_of_pos (wd h l) d0; have p1 := IB q0 (by omega); obtain ⟨p1, p2⟩ := p1; generalize rnd (wd h l) d = n at *; generalize wd h l / d = q at *; generalize wd h l % d = r at *; generalize wd h l = X at *; have W := Lib.hid (show True from trivial)
  by_cases c : d - r ≤ r
  · have E : Hid (n = q + 1) := by rw [R.out, if_pos (by omega)]; rfl
    clear R; go_enter Tryz.func144, Tryz.ntmps144; go_wp2_with fail; refine (D.out _).mono ?_; rintro e w1 ⟨rfl, hk1⟩; obtain ⟨hk1c, hk1f⟩ := bP hk1; have hk1z := Below.size hk1
    try simp only [World.size_alloc, World.size_setCell] at hk1z hk1c hk1f
    try have hk1x : w.heap.size ≤ w1.heap.size := by omega
    try have hk1y := Nat.lt_of_succ_le hk1z
    try have hk1x2 : w.heap.size < w1.heap.size := by omega
    try have hk1w : w.heap.size + 1 < w1.heap.size := by omega
    have bo : Box w1 (w.heap.size + 1) 142 #[.int .u64 0, .int .u64 0] := Box.kept hk1 bxd; have bo_0 := Box.c0 bo; have bo_1 := Box.c1 bo; have bo_f := Box.loose bo 0; have bo_g := Box.loose bo 1; go_wp2_with fail; refine (bE _ _ _ _ _ (aQ _) (aO _) ⟨by omega, by omega⟩ ⟨by omega, by omega⟩).mono ?_; rintro e w2 ⟨rfl, hk2⟩; obtain ⟨hk2c, hk2f⟩ := bP hk2; have hk2z := Below.size hk2
    try simp only [World.size_alloc, World.size_setCell] at hk2z hk2c hk2f
    try have hk2x : w.heap.size ≤ w2.heap.size := by omega
    try have hk2y := Nat.lt_of_succ_le hk2z
    try have hk2x2 : w.heap.size < w2.heap.size := by omega
    try have hk2w : w.heap.size + 1 < w2.heap.size := by omega
    have bp : Box w2 (w.heap.size + 1) 142 #[.int .u64 0, .int .u64 0] := Box.kept hk2 bxd; have bq : Box w2 w1.heap.size 142 #[.int .u64 (aF q), .int .u64 (aK q)] := Box.kept hk2 bxd; clear bo_0 bo_1 bo_f bo_g; have bp_0 := Box.c0 bp; have bp_1 := Box.c1 bp; have bp_f := Box.loose bp 0; have bp_g := Box.loose bp 1; have bq_0 := Box.c0 bq; have bq_1 := Box.c1 bq; have bq_f := Box.loose bq 0; have bq_g := Box.loose bq 1; go_wp2_with fail; exact bodyPost_ret (v := .agg #[.int .u64 (aF (q + 1)), .int .u64 (aK (q + 1))]) (by simp [results, Tryz.results144, go_sem, bp_0, bp_1]) rfl ⟨by rw [E.out], kpt⟩
  · have E : Hid (n = q) := by rw [R.out, if_neg (by omega), Int.add_zero]; rfl
    clear R; go_enter Tryz.func144, Tryz.ntmps144; go_wp2_with fail; refine (D.out _).mono ?_; rintro e w1 ⟨rfl, hk1⟩; obtain ⟨hk1c, hk1f⟩ := bP hk1; have hk1z := Below.size hk1
    try simp only [World.size_alloc, World.size_setCell] at hk1z hk1c hk1f
    try have hk1x : w.heap.size ≤ w1.heap.size := by omega
    try have hk1y := Nat.lt_of_succ_le hk1z
    try have hk1x2 : w.heap.size < w1.heap.size := by omega
    try have hk1w : w.heap.size + 1 < w1.heap.size := by omega
    have bo : Box w1 (w.heap.size + 1) 142 #[.int .u64 0, .int .u64 0] := Box.kept hk1 bxd; have bo_0 := Box.c0 bo; have bo_1 := Box.c1 bo; have bo_f := Box.loose bo 0; have bo_g := Box.loose bo 1; go_wp2_with fail; exact bodyPost_ret (v := .agg #[.int .u64 (aF q), .int .u64 (aK q)]) (by simp [results, Tryz.results144, go_sem, bo_0, bo_1, hk1y]) rfl ⟨by rw [E.out], kpt⟩
theorem DI {X d : Int} (x0 : 0 ≤ X) (x1 : X < 340282366920938463463374607431768211456) (d0 : 0 < d) : wd (aF (rnd X d)) (aK (rnd X d)) = rnd X d := by
  have q0 : 0 ≤ X / d := Int.ediv_nonneg x0 (by omega); have q1 : X / d ≤ X := Int.ediv_le_self d x0; refine cV (by unfold rnd; split <;> omega) ?_; unfold rnd
  split
  · by_cases c : d = 1
    · subst c; omega
    · have : X / d < 170141183460469231731687303715884105728 := Int.ediv_lt_of_lt_mul (by omega) (by omega)
      omega
  · omega
theorem B6 (a b : Int) (w : World) (h : i64 a) (h' : i64 b) : Calls Tryz.prog 117 #[.int .i64 a, .int .i64 b] w fun e w' => e = .returned (.tuple #[.int .i64 (lh a b).1, .bool (lh a b).2]) ∧ Kept w w' := by
  have ab := eB h; have bb := eB h'; have p0 : 0 ≤ Lv.abs a * Lv.abs b := Int.mul_nonneg ab.1 bb.1
  have p1 : Lv.abs a * Lv.abs b < 340282366920938463463374607431768211456 := by
    have := Int.mul_le_mul ab.2 bb.2 bb.1 (by omega); omega
  have hs : fit (sg (decide (a < 0) != decide (b < 0)) (wd (aF (rnd (Lv.abs a * Lv.abs b) 10000)) (aK (rnd (Lv.abs a * Lv.abs b) 10000)))) = lh a b := by
    rw [DI p0 p1 (by omega)]; rfl
  have T := Lib.hid (fun w => cx (Lv.abs a) (Lv.abs b) w ab bb); have N := fun w => kP (aF (Lv.abs a * Lv.abs b)) (aK (Lv.abs a * Lv.abs b)) 10000 w (aQ _) (aO _) (by omega) (by omega); rw [cV p0 p1] at N; have HN := Lib.hid N; have S := fun w => bm (aF (rnd (Lv.abs a * Lv.abs b) 10000)) (aK (rnd (Lv.abs a * Lv.abs b) 10000)) (decide (a < 0) != decide (b < 0)) w (aQ _) (aO _); rw [hs] at S; have HS := Lib.hid S; have Z := Lib.hid (fun w => lK a w h); have Z2 := Lib.hid (fun w => lK b w h'); clear S N hs p0 p1; obtain ⟨h1, h2⟩ := h; go_enter Tryz.func117, Tryz.ntmps117; go_wp2_with fail; refine (Z.out _).mono ?_; rintro e w' ⟨rfl, rfl⟩; go_wp2_with fail; refine (Z2.out _).mono ?_; rintro e w' ⟨rfl, rfl⟩; go_wp2_with fail; refine (T.out _).mono ?_; rintro e w1 ⟨rfl, hk1⟩; obtain ⟨hk1c, hk1f⟩ := bP hk1; have hk1z := Below.size hk1
  try simp only [World.size_alloc, World.size_setCell] at hk1z hk1c hk1f
  try have hk1x : w.heap.size ≤ w1.heap.size := by omega
  try have hk1y := Nat.lt_of_succ_le hk1z
  try have hk1x2 : w.heap.size < w1.heap.size := by omega
  try have hk1w : w.heap.size + 1 < w1.heap.size := by omega
  go_wp2_with fail; refine (HN.out _).mono ?_; rintro e w2 ⟨rfl, hk2⟩; obtain ⟨hk2c, hk2f⟩ := bP hk2; have hk2z := Below.size hk2
  try simp only [World.size_alloc, World.size_setCell] at hk2z hk2c hk2f
  try have hk2x : w.heap.size ≤ w2.heap.size := by omega
  try have hk2y := Nat.lt_of_succ_le hk2z
  try have hk2x2 : w.heap.size < w2.heap.size := by omega
  try have hk2w : w.heap.size + 1 < w2.heap.size := by omega
  go_wp2_with fail; refine (HS.out _).mono ?_; rintro e w3 ⟨rfl, hk3⟩; obtain ⟨hk3c, hk3f⟩ := bP hk3; have hk3z := Below.size hk3
  try simp only [World.size_alloc, World.size_setCell] at hk3z hk3c hk3f
  try have hk3x : w.heap.size ≤ w3.heap.size := by omega
  try have hk3y := Nat.lt_of_succ_le hk3z
  try have hk3x2 : w.heap.size < w3.heap.size := by omega
  try have hk3w : w.heap.size + 1 < w3.heap.size := by omega
  go_wp2_with fail; go_ret2; exact ⟨rfl, kpt⟩
end

section
open Go.RowKit Lv
def uC : Array Value → Sem Value := fun args => do
  let (x, y, b) ← Extern.MathBitsCarry.three "Sub64" args
  pure (Extern.MathBitsCarry.pair ((x + Extern.MathBitsCarry.m64 - y - b) % Extern.MathBitsCarry.m64) (if x < y + b then 1 else 0))
theorem sK (x y b : Nat) (hb : b ≤ 1) (w : World) :
    (uC #[.int .u64 x, .int .u64 y, .int .u64 b]).run Tryz.prog w =
      .ok (.tuple #[.int .u64 (((x + 18446744073709551616 - y - b) % 18446744073709551616 : Nat) : Int), .int .u64 ((if x < y + b then 1 else 0 : Nat) : Int)]) w := by
  have : b = 0 ∨ b = 1 := by omega
  rcases this with rfl | rfl <;> rfl
theorem zf (x y c : Int) (h : u64 x) (h' : u64 y) (c0 : 0 ≤ c) (c1 : c ≤ 1) (w : World) :
    (callFunc 189 #[.int .u64 x, .int .u64 y, .int .u64 c]).run Tryz.prog w = .ok (.value (.tuple #[.int .u64 ((x + y + c) % 18446744073709551616), .int .u64 ((x + y + c) / 18446744073709551616)])) w := by
  rw [run_callFunc_extern Tryz.func189 (by kernel_rfl) (by kernel_rfl) (by kernel_rfl) (e := add64Entry) (by kernel_rfl), run_add64 x y c h.1 h'.1 c0 c1]
  rfl
theorem EK (x y b : Int) (h : u64 x) (h' : u64 y) (b0 : 0 ≤ b) (b1 : b ≤ 1) (w : World) :
    (callFunc 178 #[.int .u64 x, .int .u64 y, .int .u64 b]).run Tryz.prog w = .ok (.value (.tuple #[.int .u64 ((x - y - b) % 18446744073709551616), .int .u64 (if x < y + b then 1 else 0)])) w := by
  obtain ⟨x, rfl⟩ := Int.eq_ofNat_of_zero_le h.1; obtain ⟨y, rfl⟩ := Int.eq_ofNat_of_zero_le h'.1; obtain ⟨b, rfl⟩ := Int.eq_ofNat_of_zero_le b0; rw [run_callFunc_extern Tryz.func178 (by kernel_rfl) (by kernel_rfl) (by kernel_rfl) (e := uC) (by kernel_rfl), sK x y b (by omega)]; have h2 := h'.2; have e1 : (((x + 18446744073709551616 - y - b) % 18446744073709551616 : Nat) : Int) = ((x : Int) - y - b) % 18446744073709551616 := by omega
  have e2 : ((if x < y + b then 1 else 0 : Nat) : Int) = if (x : Int) < y + b then 1 else 0 := by
    by_cases c : x < y + b
    · rw [if_pos c, if_pos (by omega)]; rfl
    · rw [if_neg c, if_neg (by omega)]; rfl
  rw [e1, e2]
  rfl
theorem GI (h0 h1 l0 l1 a : Int) (g : Nat) (w : World) (ha : i64 a) (hb : Box w g 194 #[.int .u64 h0, .int .u64 h1, .int .u64 l0, .int .u64 l1]) (uh : u64 h0) (ul : u64 l0) (c : 0 ≤ a) (hc : h0 < 18446744073709551615) :
    Calls Tryz.prog 177 #[.pointer (some ⟨g, 0, none⟩), .int .i64 a, .bool false] w fun e w' => e = .returned (.tuple #[]) ∧ Only g w w' ∧
      Box w' g 194 #[.int .u64 (h0 + (l0 + Lv.abs a) / 18446744073709551616), .int .u64 h1, .int .u64 ((l0 + Lv.abs a) % 18446744073709551616), .int .u64 l1] := by
  have hA := zf l0 (Lv.abs a) 0 ul (eB ha) (by omega) (by omega); rw [show l0 + Lv.abs a + 0 = l0 + Lv.abs a by omega] at hA; have hs := fun w => lv a w ha; have b0 : w.cell? ⟨g, 0, none⟩ = some (.int .u64 h0) := hb.cell 0; have b1 : w.cell? ⟨g, 1, none⟩ = some (.int .u64 h1) := hb.cell 1; have b2 : w.cell? ⟨g, 2, none⟩ = some (.int .u64 l0) := hb.cell 2; have b3 : w.cell? ⟨g, 3, none⟩ = some (.int .u64 l1) := hb.cell 3; have f0 := hb.loose 0; have f1 := hb.loose 1; have f2 := hb.loose 2; have f3 := hb.loose 3; have HB := Lib.hid hb; clear hb; go_enter Tryz.func177, Tryz.ntmps177; go_wp2_with fail
  go_quiet ((go_at_call 158; first | exact nt (hs _) | exact gk (hs _)))
  have au := eB ha; obtain ⟨au1, au2⟩ := au; obtain ⟨uh1, uh2⟩ := uh; obtain ⟨ul1, ul2⟩ := ul; have k0 : 0 ≤ (l0 + Lv.abs a) / 18446744073709551616 := by omega
  have k1 : (l0 + Lv.abs a) / 18446744073709551616 ≤ 1 := by omega
  go_wp2_with fail
  go_region
  go_end0
  have hb := HB.out; exact ⟨rfl, by repeat (first | with_reducible exact Only.refl _ _ | with_reducible apply Only.drew | with_reducible apply Only.drewN | with_reducible apply Only.setCell), bxd⟩
theorem GJ (h0 h1 l0 l1 a : Int) (g : Nat) (w : World) (ha : i64 a) (hb : Box w g 194 #[.int .u64 h0, .int .u64 h1, .int .u64 l0, .int .u64 l1]) (uh : u64 h1) (ul : u64 l1) (c : a < 0) (hc : h1 < 18446744073709551615) :
    Calls Tryz.prog 177 #[.pointer (some ⟨g, 0, none⟩), .int .i64 a, .bool false] w fun e w' => e = .returned (.tuple #[]) ∧ Only g w w' ∧
      Box w' g 194 #[.int .u64 h0, .int .u64 (h1 + (l1 + Lv.abs a) / 18446744073709551616), .int .u64 l0, .int .u64 ((l1 + Lv.abs a) % 18446744073709551616)] := by
  have hA := zf l1 (Lv.abs a) 0 ul (eB ha) (by omega) (by omega); rw [show l1 + Lv.abs a + 0 = l1 + Lv.abs a by omega] at hA; have hs := fun w => lv a w ha; have b0 : w.cell? ⟨g, 0, none⟩ = some (.int .u64 h0) := hb.cell 0; have b1 : w.cell? ⟨g, 1, none⟩ = some (.int .u64 h1) := hb.cell 1; have b2 : w.cell? ⟨g, 2, none⟩ = some (.int .u64 l0) := hb.cell 2; have b3 : w.cell? ⟨g, 3, none⟩ = some (.int .u64 l1) := hb.cell 3; have f0 := hb.loose 0; have f1 := hb.loose 1; have f2 := hb.loose 2; have f3 := hb.loose 3; have HB := Lib.hid hb; clear hb; go_enter Tryz.func177, Tryz.ntmps177; go_wp2_with fail
  go_quiet ((go_at_call 158; first | exact nt (hs _) | exact gk (hs _)))
  have au := eB ha; obtain ⟨au1, au2⟩ := au; obtain ⟨uh1, uh2⟩ := uh; obtain ⟨ul1, ul2⟩ := ul; have k0 : 0 ≤ (l1 + Lv.abs a) / 18446744073709551616 := by omega
  have k1 : (l1 + Lv.abs a) / 18446744073709551616 ≤ 1 := by omega
  go_wp2_with fail
  go_region
  go_end0
  have hb := HB.out; exact ⟨rfl, by repeat (first | with_reducible exact Only.refl _ _ | with_reducible apply Only.drew | with_reducible apply Only.drewN | with_reducible apply Only.setCell), bxd⟩
