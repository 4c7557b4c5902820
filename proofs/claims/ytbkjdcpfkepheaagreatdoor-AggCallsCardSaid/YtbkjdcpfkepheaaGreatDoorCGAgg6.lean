/- Layer 16: functions of numbers: the program's (printed by wip/mkagg6.py). -/
import Derived.Test.YtbkjdcpfkepheaaGreatDoorCMixAS
import Derived.Test.YtbkjdcpfkepheaaGreatDoorCMixAP
import Derived.Test.YtbkjdcpfkepheaaGreatDoorCMixAT
set_option maxHeartbeats 4000000
namespace Go.Proofs.YtbkjdcpfkepheaaGreatDoor
section
set_option linter.unusedVariables false
set_option linter.unusedSimpArgs false
open Go.RowKit Lv
set_option maxRecDepth 100000
def p16 (v : Vl) : Int × Vl × Bool := if isE (aL v) then (0, aL v, false) else (dK v, aj, true)
theorem IH {v : Vl} (h : isE (aL v) = true) : p16 v = (0, aL v, false) := by unfold p16; rw [if_pos h]
theorem II {v : Vl} (h : isE (aL v) = false) : p16 v = (dK v, aj, true) := by unfold p16; rw [if_neg (by rw [h]; decide)]
theorem Row.kept16 {w w' : World} {A : Option Addr} {zs : List Int} (h : Row w A zs) (k : Kept w w') : Row w' A zs := fun i hi => by
  obtain ⟨b, off, e, hb, hc⟩ := h i hi; exact ⟨b, off, e, Nat.lt_of_lt_of_le hb k.size, (k.cell (p := ⟨b, _, none⟩) hb).trans hc⟩
theorem mean_i64 (l : List Int) : i64 (bM l).1 := by
  unfold bM
  split
  · exact ⟨by decide, by decide⟩
  · exact fX _
theorem mq {l : List Int} (h64 : All64 l) (h : l ≠ []) : i64 (gM l) := h64 _ (wA h).1
theorem mr {l : List Int} (h64 : All64 l) (h : l ≠ []) : i64 (gO l) := h64 _ (wB h).1
theorem B8 (l : List Int) (h : l ≠ []) : Lib.minOf l = gM l := by
  cases l with
  | nil => exact absurd rfl h
  | cons a l =>
    show (a :: l).foldl min a = l.foldl min a; rw [List.foldl_cons, show min a a = a by omega]
theorem B9 (l : List Int) (h : l ≠ []) : Lib.maxOf l = gO l := by
  cases l with
  | nil => exact absurd rfl h
  | cons a l =>
    show (a :: l).foldl max a = l.foldl max a; rw [List.foldl_cons, show max a a = a by omega]
theorem Ca (A : Option Addr) (cap : Nat) (l : List Int) (w : World) (hr : Row w A l) (h0 : 0 < l.length) (hl : l.length ≤ 1000000) :
    Calls Tryz.prog 135 #[.slice A l.length cap] w fun e w' => e = .returned (.int .i64 (gM l)) ∧ Kept w w' := by
  obtain ⟨b, off, rfl, hb, _⟩ := hr 0 h0; refine (Tryz.slices_Min_int b off l.length cap l w h0 (Nat.le_refl _) (by omega) (fun j hj => ?_)).mono ?_
  · obtain ⟨b', off', e, _, hc⟩ := hr j hj
    cases e
    exact hc
  · rintro e w' ⟨rfl, rfl⟩
    exact ⟨by rw [List.take_length, B8 l (List.length_pos_iff.1 h0)], Kept.refl _⟩
theorem Cb (A : Option Addr) (cap : Nat) (l : List Int) (w : World) (hr : Row w A l) (h0 : 0 < l.length) (hl : l.length ≤ 1000000) :
    Calls Tryz.prog 136 #[.slice A l.length cap] w fun e w' => e = .returned (.int .i64 (gO l)) ∧ Kept w w' := by
  obtain ⟨b, off, rfl, hb, _⟩ := hr 0 h0; refine (Tryz.slices_Max_int b off l.length cap l w h0 (Nat.le_refl _) (by omega) (fun j hj => ?_)).mono ?_
  · obtain ⟨b', off', e, _, hc⟩ := hr j hj
    cases e
    exact hc
  · rintro e w' ⟨rfl, rfl⟩
    exact ⟨by rw [List.take_length, B9 l (List.length_pos_iff.1 h0)], Kept.refl _⟩
theorem dn {l : List Int} {k : Nat} (h : k < l.length) : l.getD k 0 ∈ l := by
  rw [show l.getD k 0 = l[k] by simp [List.getD, h]]; exact List.getElem_mem h
theorem nP (l : List Int) : l.headD 0 = l.getD 0 0 := by cases l <;> rfl
theorem ms {l : List Int} {k : Nat} (h : k + 1 < l.length) : l.tail.drop k = l.getD (k + 1) 0 :: l.tail.drop (k + 1) := by
  cases l with
  | nil => simp at h
  | cons a l =>
    have hk : k < l.length := by simpa using h
    show l.drop k = l.getD k 0 :: l.drop (k + 1); rw [List.drop_eq_getElem_cons hk, show l.getD k 0 = l[k] by simp [List.getD, hk]]
theorem EO {l : List Int} {k : Nat} {x : Int} (h : k + 1 < l.length) (ok : (lh x (l.getD (k + 1) 0)).2 = true) : fH x (l.tail.drop k) = fH (lh x (l.getD (k + 1) 0)).1 (l.tail.drop (k + 1)) := by
  rw [ms h, fH, if_pos ok]
theorem EP {l : List Int} {k : Nat} {x : Int} (h : k + 1 < l.length) (ok : (lh x (l.getD (k + 1) 0)).2 = false) : eX (fH x (l.tail.drop k)) = aG 3 := by
  rw [ms h, fH, if_neg (by rw [ok]; decide)]
  rfl
theorem Cc {l : List Int} {k : Nat} {x : Int} (h : l.length - 1 ≤ k) : eX (fH x (l.tail.drop k)) = ay x := by
  rw [List.drop_eq_nil_of_le (by rw [List.length_tail]; exact h)]
  rfl
section
variable {a : Act} {w : World} {o : Oper}
theorem cO {x y : Operand} {A : Option Addr} {b0 o0 n c k : Nat} (ho : o.op = .indexAddr 54 x y) (hA : A = some ⟨b0, o0, none⟩) (hx : a.eval x = .slice A n c) (hy : a.eval y = .int .i64 (k : Nat)) (hk : k < n) : (execOp a.eval o).run Tryz.prog w = .ok (.value (.pointer (some ⟨b0, o0 + k, none⟩))) w := by
  subst hA; exact eK ho hx hy (fG Tryz.underlying54 (by kernel_rfl) hk)
theorem mt {T : TypeId} {x : Operand} {A : Option Addr} {l : List Int} {b0 o0 k : Nat} (ho : o.op = .load T x) (ha : (isAgg T).run Tryz.prog w = .ok false w) (hx : a.eval x = .pointer (some ⟨b0, o0 + k, none⟩)) (hr : Row w A l) (hA : A = some ⟨b0, o0, none⟩) (hk : k < l.length) : (execOp a.eval o).run Tryz.prog w = .ok (.value (.int .i64 (l.getD k 0))) w := by
  obtain ⟨b, off, e, _, hc⟩ := hr k hk; rw [hA] at e
  cases e
  exact kE ho ha hx hc
theorem EQ {x : Operand} {b0 o0 o1 k : Nat} (h : o1 = o0 + 1) (hx : a.eval x = .pointer (some ⟨b0, o1 + k, none⟩)) : a.eval x = .pointer (some ⟨b0, o0 + (k + 1), none⟩) := by
  rw [hx, h, Nat.add_assoc, Nat.add_comm 1 k]
theorem GM {x : Operand} {A : Option Addr} {b0 o0 o1 n cap : Nat} (ho : o.op = .slice 54 x (some (.const (.int .i64 1))) none none) (hA : A = some ⟨b0, o0, none⟩) (h1 : o1 = if cap = 1 then o0 else o0 + 1) (hx : a.eval x = .slice A n cap) (hn : 1 ≤ n) (hc : n ≤ cap) : (execOp a.eval o).run Tryz.prog w = .ok (.value (.slice (some ⟨b0, o1, none⟩) (n - 1) (cap - 1))) w := by
  subst hA; have hr := run_underlying (w := w) Tryz.underlying54; have hz : (sizeOf 2).run Tryz.prog w = .ok 1 w := by kernel_rfl
  have c1 : (1 : Int) ≤ (n : Int) := by omega
  have c2 : (n : Int) ≤ (cap : Int) := by omega
  unfold execOp; rw [ho]
  simp only [hx, Option.map_some, Option.map_none, show a.eval (.const (.int .i64 1)) = .int .i64 1 from rfl]
  go_simp
  by_cases c : cap = 1
  · subst c
    rw [if_pos rfl] at h1; subst h1
    simp
  · rw [if_neg c] at h1
    subst h1; have c3 : ¬ cap - 1 = 0 := by omega
    have c4 : ¬ cap ≤ 1 := by omega
    rw [if_neg c, if_neg c]
end
def eH (fn : Nat) : Int × Int × Int := if fn = 13 ∨ (46 ≤ fn ∧ fn ≤ 50) then (1, 1, 0) else if fn = 18 ∨ fn = 19 ∨ fn = 45 then (2, 2, 0) else if fn = 43 then (2, 3, 0) else if fn = 44 then (2, 2, 1) else (1, 16, -1)
theorem sP : En 134 := by intro args w; go_simp
theorem eI (v : Vl) (w : World) (mx : Int) (HM : Mx w mx) (hs : Small v) :
    Calls Tryz.prog 100 #[ae v] w fun e w' => e = .returned (.tuple #[.int .i64 (p16 v).1, ae (p16 v).2.1, .bool (p16 v).2.2]) ∧ Kept w w' := by
  go_enter Tryz.func100, Tryz.ntmps100; refine z00 16 [(0, ae v)] ?_; intro _ s; refine zr s 4 (zP (zV (zP (zB Z0 (.cells #[.int .u8 v.k, .int .i64 v.n, .string ⟨v.t.toArray⟩] 25 (0, 0)))) oZ)) ?_; intro gb1 gb2 _ fw s; refine zt_ s 3 (zV (zC (zA Z0 (ae v) 3 1) fun cc => qn v _ mx (HM.kept cc.ow.kept) hs.1 hs.2) oZ) ?_; intro gb3 _ fw s K1 hK1; refine zS s 0 ?_; intro fw s; refine wt hK1 ?_; refine sq fun hK2 => ?_; refine zr s 3 (zP (zL (zF Z0 0) 0)) ?_; intro _ fw s; refine zi_ s ?_ ?_
  ·intro hc1
   have hie := uB hc1; refine zt_ s 2 (zP (zA Z0 (ae (aL v)) 3 0)) ?_; intro _ fw s K3 hK3; refine zS s 1 ?_; intro fw s; refine zw s ?_; intro _ fw s; refine wt hK3 ?_; refine wp_ret ?_; refine ag ?_; refine ac (v := .tuple #[.int .i64 0, ae (aL v), .bool false]) rfl (.cons (rT s) (.cons (rC s 3 1) (.cons (rT s) .nil))) rfl s.q ?_; exact ⟨(by rw [IH hie]), s.o.kept⟩
  intro hc1; have hie := oO hc1; have hr0 := gJ hie hs.1; have hq := Es (y := (aL v).n) ⟨by omega, by omega⟩; have hq1 := hq.1; have hq2 := hq.2; refine wp_skip ?_; refine tn hK2 ?_; refine zt_ s 5 (zP (zO (zO (zL (zF Z0 1) 0) fun cc => Bb (Or.inr rfl) rfl cc.e rfl (by decide) (by omega) (by omega)) (v := ae (⟨0, 0, []⟩ : Vl)) fun cc => cG (us := #[]) rfl (by simp) (by kernel_rfl))) ?_; intro _ fw s K4 hK4; refine zS s 1 ?_; intro fw s; refine zw s ?_; intro _ fw s; refine wt hK4 ?_; refine wp_ret ?_; refine ac (v := .tuple #[.int .i64 (Int.tdiv ((aL v).n) 10000), ae (⟨0, 0, []⟩ : Vl), .bool true]) rfl (.cons (rT s) (.cons (rC s 3 1) (.cons (rT s) .nil))) rfl s.q ?_; exact ⟨(by rw [II hie]; rfl), s.o.kept⟩
theorem uE (A : Option Addr) (cap : Nat) (l : List Int) (w : World) (hr : Row w A l) (h64 : All64 l) (hl : l.length ≤ 1000000) :
    Calls Tryz.prog 94 #[.slice A l.length cap] w fun e w' => e = .returned (ae (eX (lZ l))) ∧ Kept w w' := by
  go_enter Tryz.func94, Tryz.ntmps94; refine z00 8 [(0, .slice A l.length cap)] ?_; intro _ s; refine zr s 1 (zV Z0 oZ) ?_; intro gb1 _ fw s; refine zt_ s 5 (zC (zP (zP (zC (zP Z0) fun cc => EN A cap l _ (Row.kept16 hr cc.ow.kept) h64 (by omega)))) fun cc => iW ((lZ l).1) ((lZ l).2) _ (fun _ => fX _)) ?_; intro _ fw s K1 hK1; refine zS s 0 ?_; intro fw s; refine wt hK1 ?_; refine wp_ret ?_; refine ac (v := ae (eX ((lZ l).1, (lZ l).2))) rfl (.cons (rC s 3 0) .nil) rfl s.q ?_; exact ⟨rfl, s.o.kept⟩
theorem kS (A : Option Addr) (cap : Nat) (l : List Int) (w : World) (hr : Row w A l) (h64 : All64 l) (hl : l.length ≤ 1000000) :
    Calls Tryz.prog 96 #[.slice A l.length cap] w fun e w' => e = .returned (ae (if l = [] then aG 1 else eX (bM l))) ∧ Kept w w' := by
  go_enter Tryz.func96, Tryz.ntmps96; refine z00 12 [(0, .slice A l.length cap)] ?_; intro _ s; refine zr s 1 (zV Z0 oZ) ?_; intro gb1 _ fw s; refine sq fun hK1 => ?_; refine zr s 3 (zP (zN (zP Z0))) ?_; intro _ fw s; refine zi_ s ?_ ?_
  ·intro hc1
   refine zt_ s 1 (zC Z0 fun cc => cz 1 _) ?_; intro _ fw s K2 hK2; refine zS s 0 ?_; intro fw s; refine wt hK2 ?_; refine wp_ret ?_; refine ag ?_; refine ac (v := ae (aG 1)) rfl (.cons (rC s 3 0) .nil) rfl s.q ?_; exact ⟨congrArg (fun v => Ending.returned (ae v)) (by rw [if_pos (show l = [] from List.eq_nil_of_length_eq_zero (by omega))]), s.o.kept⟩
  intro hc1; have hne := hc1; refine wp_skip ?_; refine tn hK1 ?_; refine zt_ s 5 (zC (zP (zP (zC (zP Z0) fun cc => uD A cap l _ (Row.kept16 hr cc.ow.kept) h64 (by omega)))) fun cc => iW ((bM l).1) ((bM l).2) _ (fun _ => mean_i64 l)) ?_; intro _ fw s K3 hK3; refine zS s 0 ?_; intro fw s; refine wt hK3 ?_; refine wp_ret ?_; refine ac (v := ae (eX ((bM l).1, (bM l).2))) rfl (.cons (rC s 3 0) .nil) rfl s.q ?_; exact ⟨congrArg (fun v => Ending.returned (ae v)) (by rw [if_neg (fun c => hne (by rw [c]; rfl))]), s.o.kept⟩
theorem nQ (A : Option Addr) (cap : Nat) (l : List Int) (w : World) (hr : Row w A l) (h64 : All64 l) (hl : l.length ≤ 1000000) :
    Calls Tryz.prog 97 #[.slice A l.length cap] w fun e w' => e = .returned (ae (if l = [] then ay 0 else ay (gM l))) ∧ Kept w w' := by
  go_enter Tryz.func97, Tryz.ntmps97; refine z00 10 [(0, .slice A l.length cap)] ?_; intro _ s; refine zr s 1 (zV Z0 oZ) ?_; intro gb1 _ fw s; refine sq fun hK1 => ?_; refine zr s 3 (zP (zN (zP Z0))) ?_; intro _ fw s; refine zi_ s ?_ ?_
  ·intro hc1
   refine zt_ s 1 (zC Z0 fun cc => dJ 0 _ (by omega) (by omega)) ?_; intro _ fw s K2 hK2; refine zS s 0 ?_; intro fw s; refine wt hK2 ?_; refine wp_ret ?_; refine ag ?_; refine ac (v := ae (ay (0 * 10000))) rfl (.cons (rC s 3 0) .nil) rfl s.q ?_; exact ⟨congrArg (fun v => Ending.returned (ae v)) (by rw [if_pos (show l = [] from List.eq_nil_of_length_eq_zero (by omega))]; rfl), s.o.kept⟩
  intro hc1; have hne := hc1; refine wp_skip ?_; refine tn hK1 ?_; refine zt_ s 3 (zC (zC (zP Z0) fun cc => Ca A cap l _ (Row.kept16 hr cc.ow.kept) (by omega) hl) fun cc => dx (gM l) _ (mq h64 (fun c => hne (by rw [c]; rfl))).1 (mq h64 (fun c => hne (by rw [c]; rfl))).2) ?_; intro _ fw s K3 hK3; refine zS s 0 ?_; intro fw s; refine wt hK3 ?_; refine wp_ret ?_; refine ac (v := ae (ay (gM l))) rfl (.cons (rC s 3 0) .nil) rfl s.q ?_; exact ⟨congrArg (fun v => Ending.returned (ae v)) (by rw [if_neg (fun c => hne (by rw [c]; rfl))]), s.o.kept⟩
theorem jA (A : Option Addr) (cap : Nat) (l : List Int) (w : World) (hr : Row w A l) (h64 : All64 l) (hl : l.length ≤ 1000000) :
    Calls Tryz.prog 98 #[.slice A l.length cap] w fun e w' => e = .returned (ae (if l = [] then ay 0 else ay (gO l))) ∧ Kept w w' := by
  go_enter Tryz.func98, Tryz.ntmps98; refine z00 10 [(0, .slice A l.length cap)] ?_; intro _ s; refine zr s 1 (zV Z0 oZ) ?_; intro gb1 _ fw s; refine sq fun hK1 => ?_; refine zr s 3 (zP (zN (zP Z0))) ?_; intro _ fw s; refine zi_ s ?_ ?_
  ·intro hc1
   refine zt_ s 1 (zC Z0 fun cc => dJ 0 _ (by omega) (by omega)) ?_; intro _ fw s K2 hK2; refine zS s 0 ?_; intro fw s; refine wt hK2 ?_; refine wp_ret ?_; refine ag ?_; refine ac (v := ae (ay (0 * 10000))) rfl (.cons (rC s 3 0) .nil) rfl s.q ?_; exact ⟨congrArg (fun v => Ending.returned (ae v)) (by rw [if_pos (show l = [] from List.eq_nil_of_length_eq_zero (by omega))]; rfl), s.o.kept⟩
  intro hc1; have hne := hc1; refine wp_skip ?_; refine tn hK1 ?_; refine zt_ s 3 (zC (zC (zP Z0) fun cc => Cb A cap l _ (Row.kept16 hr cc.ow.kept) (by omega) hl) fun cc => dx (gO l) _ (mr h64 (fun c => hne (by rw [c]; rfl))).1 (mr h64 (fun c => hne (by rw [c]; rfl))).2) ?_; intro _ fw s K3 hK3; refine zS s 0 ?_; intro fw s; refine wt hK3 ?_; refine wp_ret ?_; refine ac (v := ae (ay (gO l))) rfl (.cons (rC s 3 0) .nil) rfl s.q ?_; exact ⟨congrArg (fun v => Ending.returned (ae v)) (by rw [if_neg (fun c => hne (by rw [c]; rfl))]), s.o.kept⟩
theorem qI (A : Option Addr) (cap : Nat) (l : List Int) (w : World) (hr : Row w A l) (h64 : All64 l) (hl : l.length ≤ 1000000) (hc : l.length ≤ cap) :
    Calls Tryz.prog 95 #[.slice A l.length cap] w fun e w' => e = .returned (ae (if l = [] then ay 0 else eX (fH (l.headD 0) l.tail))) ∧ Kept w w' := by
  go_enter Tryz.func95, Tryz.ntmps95; refine z00 33 [(0, .slice A l.length cap)] ?_; intro _ s; refine zr s 1 (zV Z0 oZ) ?_; intro gb1 _ fw s; refine sq fun hK1 => ?_; refine zr s 3 (zP (zN (zP Z0))) ?_; intro _ fw s; refine zi_ s ?_ ?_
  ·intro hc1
   refine zt_ s 1 (zC Z0 fun cc => dJ 0 _ (by omega) (by omega)) ?_; intro _ fw s K2 hK2; refine zS s 0 ?_; intro fw s; refine wt hK2 ?_; refine wp_ret ?_; refine ag ?_; refine ac (v := ae (ay (0 * 10000))) rfl (.cons (rC s 3 0) .nil) rfl s.q ?_; exact ⟨congrArg (fun v => Ending.returned (ae v)) (by rw [if_pos (show l = [] from List.eq_nil_of_length_eq_zero (by omega))]; rfl), s.o.kept⟩
  intro hc1; have hne := hc1; obtain ⟨b0, o0, hA0, _⟩ := hr 0 (by omega); obtain ⟨o1, ho1⟩ : ∃ o1, o1 = (if cap = 1 then o0 else o0 + 1) := ⟨_, rfl⟩; have ho2 : 1 < l.length → o1 = o0 + 1 := fun h => by rw [ho1, if_neg (by omega)]
  refine wp_skip ?_; refine tn hK1 ?_; refine zr s 5 (zP (zP (zO (zO (zP Z0) fun cc => cO (k := 0) rfl hA0 cc.e rfl (by omega)) fun cc => mt rfl (by kernel_rfl) cc.e (Row.kept16 hr cc.ow.kept) hA0 (by omega)))) ?_; intro _ fw s; refine sq fun hK3 => ?_; refine zr s 4 (zP (zN (zO (zP Z0) fun cc => by exact GM rfl hA0 ho1 cc.e (by omega) hc))) ?_; intro _ fw s; refine wp_block ?_; refine aP (fun (k : Nat) fr u => ∃ (x : Int), (k ≤ l.length - 1) ∧ (fH (l.headD 0) l.tail = fH x (l.tail.drop k)) ∧ (i64 x) ∧ Sg 33 w [Th.obj gb1 oZ] [(2, .pointer (some ⟨gb1, 0, none⟩)), (15, .slice (some ⟨b0, o1, none⟩) (l.length - 1) (cap - 1)), (16, .int .i64 (((l.length - 1) : Nat) : Int)), (3, .int .i64 x), (17, .int .i64 (k : Int))] fr u) (fun k => l.length - 1 - k) 0 ⟨(l.getD 0 0), (Nat.zero_le _), (by rw [List.drop_zero, nP]), (h64 _ (dn (by omega))), s.c⟩ (fun k b_ u_ hI => ?_)
  revert b_ u_; intro fa fw hI
  obtain ⟨x, hk0, hp, hx, s⟩ := hI; refine zr s 1 (zP Z0) ?_; intro _ fw s; refine sq fun hK4 => ?_; refine zi_ s ?_ ?_
  ·intro hc2
   refine wp_skip ?_; refine tn hK4 ?_; refine sq fun hK5 => ?_; refine wp_block ?_; have hlt : k + 1 < l.length := by omega
   have hyx : i64 (l.getD (k + 1) 0) := h64 _ (dn hlt); refine zr s 3 (zP (zO (zO Z0 fun cc => cO (k := k) rfl rfl cc.e cc.e (by omega)) fun cc => mt (k := k + 1) rfl (by kernel_rfl) (EQ (ho2 (by omega)) cc.e) (Row.kept16 hr cc.ow.kept) hA0 (by omega))) ?_; intro _ fw s; refine zt_ s 6 (zP (zP (zP (zC (zP (zP Z0)) fun cc => yo (ED x (l.getD (k + 1) 0) _ hx hyx))))) ?_; intro _ fw s K6 hK6; refine zw s ?_; intro _ fw s; refine zw s ?_; intro _ fw s; refine wt hK6 ?_; refine zr s 2 (zP (zP Z0)) ?_; intro _ fw s; refine zb s (jc (Iff.rfl)) ?_ ?_
   ·intro hc3
    have hno : (lh x (l.getD (k + 1) 0)).2 = false := by simpa using hc3
    refine zt_ s 1 (zC Z0 fun cc => cz 3 _) ?_; intro _ fw s K7 hK7; refine zS s 0 ?_; intro fw s; refine wt hK7 ?_; refine wp_ret ?_; refine ao (ag (ag (ao (ag ?_)))); refine ac (v := ae (aG 3)) rfl (.cons (rC s 3 0) .nil) rfl s.q ?_; exact ⟨congrArg (fun v => Ending.returned (ae v)) (by rw [if_neg (fun c => hne (by rw [c]; rfl)), hp, EP (by omega) hno]), s.o.kept⟩
   intro hc3; have hok : (lh x (l.getD (k + 1) 0)).2 = true := by simpa using hc3
   refine wp_skip ?_; refine aB ?_; refine tn hK5 ?_; refine zu s 1 (by exact zAn Z0 k 1) ?_; intro _ fw s; refine zw s ?_; intro _ fw s; refine aN ?_; exact bg ⟨(k + 1), ⟨((lh x (l.getD (k + 1) 0)).1), (by omega), (hp.trans (EO (by omega) hok)), (ue _ _), s.c⟩, (show l.length - 1 - (k + 1) < l.length - 1 - k by omega)⟩
  intro hc2; refine wp_exit ?_; refine aM ?_; refine aM ?_; refine aD ?_; refine tn hK3 ?_; refine zt_ s 2 (zC (zP Z0) fun cc => dx x _ (by have := hx.1; omega) (by have := hx.2; omega)) ?_; intro _ fw s K8 hK8; refine zS s 0 ?_; intro fw s; refine wt hK8 ?_; refine wp_ret ?_; refine ac (v := ae (ay x)) rfl (.cons (rC s 3 0) .nil) rfl s.q ?_; exact ⟨congrArg (fun v => Ending.returned (ae v)) (by rw [if_neg (fun c => hne (by rw [c]; rfl)), hp, Cc (by omega)]), s.o.kept⟩
theorem oT (fn : Nat) (w : World) :
    Calls Tryz.prog 30 #[.int .u8 fn] w fun e w' => e = .returned (.bool (dw fn)) ∧ Kept w w' := by
  go_enter Tryz.func30, Tryz.ntmps30; refine z00 17 [(0, .int .u8 (fn : Int))] ?_; intro _ s; refine zr s 1 (zP Z0) ?_; intro _ fw s; refine zr s 15 (zP (zO (zI (zPi (zPi (zPi (zPi (zPi (zP (zO (zPi (zPi (zP (zP (zP Z0))))) fun cc => gm rfl cc.e (fun hb => cc.f hb) rfl))))))) (v := .bool ((decide ((43 : Int) ≤ (fn : Int))) && (decide ((fn : Int) ≤ (50 : Int))))) (run := by exact fun cc hz => gm rfl (cc.f hz) (fun hb => cc.f (And.intro hz hb)) rfl)) fun cc => gA rfl cc.e rfl (fun hb => cc.f hb))) ?_; intro _ fw s; refine wp_ret ?_; refine z1 s ?_; exact ⟨(congrArg (fun b => Ending.returned (.bool b)) (show _ = dw fn by unfold dw; rw [Bool.eq_iff_iff]; simp only [Bool.or_eq_true, Bool.and_eq_true, decide_eq_true_eq]; omega)), s.o.kept⟩
theorem wC (fn : Nat) (w : World) :
    Calls Tryz.prog 31 #[.int .u8 fn] w fun e w' => e = .returned (.tuple #[.int .i64 (eH fn).1, .int .i64 (eH fn).2.1, .int .i64 (eH fn).2.2]) ∧ Kept w w' := by
  go_enter Tryz.func31, Tryz.ntmps31; refine z00 21 [(0, .int .u8 (fn : Int))] ?_; intro _ s; refine zr s 3 (zP (zP (zP Z0))) ?_; intro _ fw s; refine sq fun hK1 => ?_; refine zr s 1 (zP Z0) ?_; intro _ fw s; refine wp_block ?_; refine sq fun hK2 => ?_; refine zr s 2 (zP (zP Z0)) ?_; intro _ fw s; refine zi_ s ?_ ?_
  ·intro hc1
   refine wp_skip ?_; refine tn hK2 ?_; refine zy s ?_ (hb := (decide_eq_true_iff).2 hc1); refine zr s 3 (zP (zP (zP Z0))) ?_; intro _ fw s; refine wp_ret ?_; refine ao (ag ?_); refine ac (v := .tuple #[.int .i64 1, .int .i64 1, .int .i64 0]) rfl (.cons (rT s) (.cons (rT s) (.cons (rT s) .nil))) rfl s.q ?_; exact ⟨(congrArg (fun t : Int × Int × Int => Ending.returned (.tuple #[.int .i64 t.1, .int .i64 t.2.1, .int .i64 t.2.2])) (show (1, 1, 0) = eH fn by unfold eH; (repeat' split) <;> first | rfl | omega)), s.o.kept⟩
  intro hc1; refine zr s 2 (zP (zP Z0)) ?_; intro _ fw s; refine zi_ s ?_ ?_
  ·intro hc2
   refine wp_skip ?_; refine tn hK2 ?_; refine zy s ?_ (hb := (decide_eq_true_iff).2 hc2); refine zr s 3 (zP (zP (zP Z0))) ?_; intro _ fw s; refine wp_ret ?_; refine ao (ag ?_); refine ac (v := .tuple #[.int .i64 1, .int .i64 1, .int .i64 0]) rfl (.cons (rT s) (.cons (rT s) (.cons (rT s) .nil))) rfl s.q ?_; exact ⟨(congrArg (fun t : Int × Int × Int => Ending.returned (.tuple #[.int .i64 t.1, .int .i64 t.2.1, .int .i64 t.2.2])) (show (1, 1, 0) = eH fn by unfold eH; (repeat' split) <;> first | rfl | omega)), s.o.kept⟩
  intro hc2; refine zr s 2 (zP (zP Z0)) ?_; intro _ fw s; refine zi_ s ?_ ?_
  ·intro hc3
   refine wp_skip ?_; refine tn hK2 ?_; refine zy s ?_ (hb := (decide_eq_true_iff).2 hc3); refine zr s 3 (zP (zP (zP Z0))) ?_; intro _ fw s; refine wp_ret ?_; refine ao (ag ?_); refine ac (v := .tuple #[.int .i64 1, .int .i64 1, .int .i64 0]) rfl (.cons (rT s) (.cons (rT s) (.cons (rT s) .nil))) rfl s.q ?_; exact ⟨(congrArg (fun t : Int × Int × Int => Ending.returned (.tuple #[.int .i64 t.1, .int .i64 t.2.1, .int .i64 t.2.2])) (show (1, 1, 0) = eH fn by unfold eH; (repeat' split) <;> first | rfl | omega)), s.o.kept⟩
  intro hc3; refine zr s 2 (zP (zP Z0)) ?_; intro _ fw s; refine zi_ s ?_ ?_
  ·intro hc4
   refine wp_skip ?_; refine tn hK2 ?_; refine zy s ?_ (hb := (decide_eq_true_iff).2 hc4); refine zr s 3 (zP (zP (zP Z0))) ?_; intro _ fw s; refine wp_ret ?_; refine ao (ag ?_); refine ac (v := .tuple #[.int .i64 1, .int .i64 1, .int .i64 0]) rfl (.cons (rT s) (.cons (rT s) (.cons (rT s) .nil))) rfl s.q ?_; exact ⟨(congrArg (fun t : Int × Int × Int => Ending.returned (.tuple #[.int .i64 t.1, .int .i64 t.2.1, .int .i64 t.2.2])) (show (1, 1, 0) = eH fn by unfold eH; (repeat' split) <;> first | rfl | omega)), s.o.kept⟩
  intro hc4; refine zr s 2 (zP (zP Z0)) ?_; intro _ fw s; refine zi_ s ?_ ?_
  ·intro hc5
   refine wp_skip ?_; refine tn hK2 ?_; refine zy s ?_ (hb := (decide_eq_true_iff).2 hc5); refine zr s 3 (zP (zP (zP Z0))) ?_; intro _ fw s; refine wp_ret ?_; refine ao (ag ?_); refine ac (v := .tuple #[.int .i64 1, .int .i64 1, .int .i64 0]) rfl (.cons (rT s) (.cons (rT s) (.cons (rT s) .nil))) rfl s.q ?_; exact ⟨(congrArg (fun t : Int × Int × Int => Ending.returned (.tuple #[.int .i64 t.1, .int .i64 t.2.1, .int .i64 t.2.2])) (show (1, 1, 0) = eH fn by unfold eH; (repeat' split) <;> first | rfl | omega)), s.o.kept⟩
  intro hc5; refine zq s 2 (by exact zP (zP Z0)) ?_; intro _ fw s; refine tn hK2 ?_; refine zi_ s ?_ ?_
  ·intro hc6
   refine zr s 3 (zP (zP (zP Z0))) ?_; intro _ fw s; refine wp_ret ?_; refine ao (ag ?_); refine ac (v := .tuple #[.int .i64 1, .int .i64 1, .int .i64 0]) rfl (.cons (rT s) (.cons (rT s) (.cons (rT s) .nil))) rfl s.q ?_; exact ⟨(congrArg (fun t : Int × Int × Int => Ending.returned (.tuple #[.int .i64 t.1, .int .i64 t.2.1, .int .i64 t.2.2])) (show (1, 1, 0) = eH fn by unfold eH; (repeat' split) <;> first | rfl | omega)), s.o.kept⟩
  intro hc6; refine sq fun hK3 => ?_; refine zr s 2 (zP (zP Z0)) ?_; intro _ fw s; refine zi_ s ?_ ?_
  ·intro hc7
   refine wp_skip ?_; refine tn hK3 ?_; refine zy s ?_ (hb := (decide_eq_true_iff).2 hc7); refine zr s 3 (zP (zP (zP Z0))) ?_; intro _ fw s; refine wp_ret ?_; refine ao (ag ?_); refine ac (v := .tuple #[.int .i64 2, .int .i64 2, .int .i64 0]) rfl (.cons (rT s) (.cons (rT s) (.cons (rT s) .nil))) rfl s.q ?_; exact ⟨(congrArg (fun t : Int × Int × Int => Ending.returned (.tuple #[.int .i64 t.1, .int .i64 t.2.1, .int .i64 t.2.2])) (show (2, 2, 0) = eH fn by unfold eH; (repeat' split) <;> first | rfl | omega)), s.o.kept⟩
  intro hc7; refine zr s 2 (zP (zP Z0)) ?_; intro _ fw s; refine zi_ s ?_ ?_
  ·intro hc8
   refine wp_skip ?_; refine tn hK3 ?_; refine zy s ?_ (hb := (decide_eq_true_iff).2 hc8); refine zr s 3 (zP (zP (zP Z0))) ?_; intro _ fw s; refine wp_ret ?_; refine ao (ag ?_); refine ac (v := .tuple #[.int .i64 2, .int .i64 2, .int .i64 0]) rfl (.cons (rT s) (.cons (rT s) (.cons (rT s) .nil))) rfl s.q ?_; exact ⟨(congrArg (fun t : Int × Int × Int => Ending.returned (.tuple #[.int .i64 t.1, .int .i64 t.2.1, .int .i64 t.2.2])) (show (2, 2, 0) = eH fn by unfold eH; (repeat' split) <;> first | rfl | omega)), s.o.kept⟩
  intro hc8; refine zq s 2 (by exact zP (zP Z0)) ?_; intro _ fw s; refine tn hK3 ?_; refine zi_ s ?_ ?_
  ·intro hc9
   refine zr s 3 (zP (zP (zP Z0))) ?_; intro _ fw s; refine wp_ret ?_; refine ao (ag ?_); refine ac (v := .tuple #[.int .i64 2, .int .i64 2, .int .i64 0]) rfl (.cons (rT s) (.cons (rT s) (.cons (rT s) .nil))) rfl s.q ?_; exact ⟨(congrArg (fun t : Int × Int × Int => Ending.returned (.tuple #[.int .i64 t.1, .int .i64 t.2.1, .int .i64 t.2.2])) (show (2, 2, 0) = eH fn by unfold eH; (repeat' split) <;> first | rfl | omega)), s.o.kept⟩
  intro hc9; refine zr s 2 (zP (zP Z0)) ?_; intro _ fw s; refine zi_ s ?_ ?_
  ·intro hc10
   refine zr s 3 (zP (zP (zP Z0))) ?_; intro _ fw s; refine wp_ret ?_; refine ao (ag ?_); refine ac (v := .tuple #[.int .i64 2, .int .i64 3, .int .i64 0]) rfl (.cons (rT s) (.cons (rT s) (.cons (rT s) .nil))) rfl s.q ?_; exact ⟨(congrArg (fun t : Int × Int × Int => Ending.returned (.tuple #[.int .i64 t.1, .int .i64 t.2.1, .int .i64 t.2.2])) (show (2, 3, 0) = eH fn by unfold eH; (repeat' split) <;> first | rfl | omega)), s.o.kept⟩
  intro hc10; refine zr s 2 (zP (zP Z0)) ?_; intro _ fw s; refine zi_ s ?_ ?_
  ·intro hc11
   refine zr s 3 (zP (zP (zP Z0))) ?_; intro _ fw s; refine wp_ret ?_; refine ao (ag ?_); refine ac (v := .tuple #[.int .i64 2, .int .i64 2, .int .i64 1]) rfl (.cons (rT s) (.cons (rT s) (.cons (rT s) .nil))) rfl s.q ?_; exact ⟨(congrArg (fun t : Int × Int × Int => Ending.returned (.tuple #[.int .i64 t.1, .int .i64 t.2.1, .int .i64 t.2.2])) (show (2, 2, 1) = eH fn by unfold eH; (repeat' split) <;> first | rfl | omega)), s.o.kept⟩
  intro hc11; refine wp_skip ?_; refine aB ?_; refine tn hK1 ?_; refine zr s 3 (zP (zP (zP Z0))) ?_; intro _ fw s; refine wp_ret ?_; refine ac (v := .tuple #[.int .i64 1, .int .i64 16, .int .i64 (-1)]) rfl (.cons (rT s) (.cons (rT s) (.cons (rT s) .nil))) rfl s.q ?_; exact ⟨(congrArg (fun t : Int × Int × Int => Ending.returned (.tuple #[.int .i64 t.1, .int .i64 t.2.1, .int .i64 t.2.2])) (show (1, 16, (-1)) = eH fn by unfold eH; (repeat' split) <;> first | rfl | omega)), s.o.kept⟩
