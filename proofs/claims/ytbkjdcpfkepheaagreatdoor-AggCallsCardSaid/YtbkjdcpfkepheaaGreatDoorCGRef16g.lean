/- Layer 16: the reference's other, Call (printed by wip/mkref16g.py). -/
import Derived.Test.YtbkjdcpfkepheaaGreatDoorCGRef16f
import Derived.Test.YtbkjdcpfkepheaaGreatDoorCGAr16
set_option maxHeartbeats 4000000
namespace Go.Proofs.YtbkjdcpfkepheaaGreatDoor
section
set_option linter.unusedVariables false
set_option linter.unusedSimpArgs false
open Go.RowKit Lv
set_option maxRecDepth 100000
theorem DV {l : List Ar} {L : List Int} {x : Vl} (hs : ∀ a ∈ l, aY a) (h : ∀ a ∈ l, Js a = true) (e : bR l = (L, x, true)) : ∀ n ∈ L, Lv.num64 n := by
  have e2 : bR l = cE l := by unfold bR; rw [if_pos (List.all_eq_true.2 h)]
  rw [e2] at e; rcases EY h (fun a ha => ⟨(hs a ha).1.1, fun c hc => ((hs a ha).2 c hc).1⟩) with ⟨_, _, k⟩ | ⟨k, _⟩
  · rw [e] at k; exact k
  · rw [e] at k; cases k
theorem AY {l : List Ar} (h : ∀ a ∈ l, Js a = true) : bR l = cE l := by unfold bR; rw [if_pos (List.all_eq_true.2 h)]
theorem HU {l : List Ar} {L : List Int} {x : Vl} (hn : (aH l).length ≤ 1000000) (h : ∀ a ∈ l, Js a = true) (e : bR l = (L, x, true)) : L.length ≤ 1000000 := by
  rw [AY h] at e; unfold cE at e
  split at e
  · cases e
  · cases e
    rw [List.length_map]; exact hn
theorem HW {fn : Nat} {l : List Ar} {x : Vl} (hf : cw fn = true) (h : ∀ a ∈ l, Js a = true) (e : bR l = ([], x, false)) : x = cU fn l := by
  rw [AY h] at e; unfold cU; rw [if_pos hf, e]
theorem HX {fn : Nat} {l : List Ar} {L : List Int} {x : Vl} (hf : cw fn = true) (h : ∀ a ∈ l, Js a = true) (e : bR l = (L, x, true)) : cR fn L = cU fn l := by
  rw [AY h] at e; unfold cU; rw [if_pos hf, e]
abbrev vq (fn k : Nat) (a : Ar) : Prop := ((¬ (Js a = true)) ∨ ((a.w = true) ∧ (¬ (dR fn k = true)))) ∨ ((¬ (a.w = true)) ∧ ((46 : Int) ≤ (fn : Int)))
theorem rG {fn k : Nat} {a : Ar} : kL fn k a = true ↔ ¬ vq fn k a := by
  unfold kL vq
  cases Js a <;> cases a.w <;> cases dR fn k <;> simp <;> omega
theorem AZ {fn k : Nat} {l : List Ar} {a : Ar} (ha : l[k]? = some a) (c : vq fn k a) : bc fn k (l.drop k) = false := by
  rw [dD ha, bc]
  cases e : kL fn k a with
  | true => exact absurd c (rG.1 e)
  | false => rfl
theorem Dd {fn k : Nat} {l : List Ar} {a : Ar} (ha : l[k]? = some a) (c : ¬ vq fn k a) : bc fn k (l.drop k) = bc fn (k + 1) (l.drop (k + 1)) := by
  rw [dD ha, bc, rG.2 c, Bool.true_and]
theorem FY {fn : Nat} {l : List Ar} (h : dw fn = false) : Jr fn l = (aj, 10) := by unfold Jr; rw [if_pos h]
theorem De {fn : Nat} {l : List Ar} (h : dw fn = true) (c : ¬ ((rM fn ≤ l.length) ∧ (l.length ≤ oE fn))) : Jr fn l = (aj, 11) := by
  unfold Jr; rw [if_neg (by rw [h]; decide), if_pos (by omega)]
theorem A4 {fn : Nat} {l : List Ar} (h : dw fn = true) (c : (rM fn ≤ l.length) ∧ (l.length ≤ oE fn)) : Jr fn l = if bc fn 0 l = false then (aj, 2) else (cU fn l, 0) := by
  unfold Jr; rw [if_neg (by rw [h]; decide), if_neg (by omega)]
theorem HY {fn : Nat} {l : List Ar} (h : dw fn = true) (c : (rM fn ≤ l.length) ∧ (l.length ≤ oE fn)) (f : bc fn 0 l = false) : Jr fn l = (aj, 2) := by rw [A4 h c, if_pos f]
theorem od {fn : Nat} {l : List Ar} {x : Vl} (h : dw fn = true) (c : (rM fn ≤ l.length) ∧ (l.length ≤ oE fn)) (f : bc fn 0 l = true) (e : cU fn l = x) : Jr fn l = (x, 0) := by rw [A4 h c, if_neg (by rw [f]; decide), e]
theorem pB {fn : Nat} {l : List Ar} (hF : fn = 11 ∨ fn = 47 ∨ fn = 12 ∨ fn = 13) : cU fn l = ay (bS fn l * 10000) := by rcases hF with rfl | rfl | rfl | rfl <;> rfl
theorem FZ {fn : Nat} {l : List Ar} {a b : Ar} (hF : fn = 45) (hab : l = [a, b]) : cU fn l = cM a b.v := by subst hF; subst hab; rfl
theorem pC {fn : Nat} : ∀ {l : List Ar} {k : Nat}, bc fn k l = true → ∀ a ∈ l, Js a = true
  | [], _, _, a, h => by cases h
  | b :: l, k, h, a, ha => by
    obtain ⟨h1, h2⟩ := kA h; rcases List.mem_cons.1 ha with rfl | ha
    · exact h1
    · exact pC h2 a ha
theorem A5 (A : Option Addr) (cap : Nat) (a b : Ar) (w : World) (hr : ArgsAt w A [a, b]) (ha : aY a) (hb : aY b) (hla : a.l.length ≤ 900000) (hlb : b.l.length ≤ 900000) (hc : 2 ≤ cap) (hok : Js a = true) (hob : Js b = true) :
    Calls Tryz.prog 39 #[.int .u8 44, .slice A 2 cap] w fun e w' => e = .returned (ae (cU 44 [a, b])) ∧ Kept w w' := by
  obtain ⟨bq0, o0, S0, z0, hA0, e0, q0, y0⟩ := hr.elem (i := 0) rfl; obtain ⟨bq1, o1, S1, z1, hA1, e1, q1, y1⟩ := hr.elem (i := 1) rfl; go_enter Tryz.func39, Tryz.ntmps39; refine z00 41 [(0, .int .u8 44), (1, .slice A 2 cap)] ?_; intro _ s; refine zr s 1 (zV Z0 oZ) ?_; intro gb1 _ _ s; refine sq fun hK1 => ?_; refine zr s 1 (zP Z0) ?_; intro _ _ s; refine wp_block ?_; refine zr s 2 (zP (zP Z0)) ?_; intro _ _ s; refine zy s ?_; refine zt_ s 8 (zC (zO (zO (zP (zO (zF (zO (zP Z0) fun cc => al 9 Tryz.underlying22 (by kernel_rfl) rfl hA0 cc.e rfl (Nat.le_of_ble_eq_true rfl)) (o0 + 0 * 9 + 1)) (v := ae a.v) fun cc => bf (n := 3) 1 rfl (by kernel_rfl) (by kernel_rfl) cc.e rfl (e0.kept cc.ow.kept))) fun cc => al 9 Tryz.underlying22 (by kernel_rfl) rfl hA1 cc.e rfl (Nat.le_of_ble_eq_true rfl)) (v := aA b (.slice S1 b.l.length z1)) fun cc => bf (n := 9) 0 rfl (by kernel_rfl) (by kernel_rfl) cc.e rfl (e1.kept cc.ow.kept)) fun cc => rE b S1 z1 a.v _ (q1.kept cc.ow.kept) y1 hlb hb ha.1 hob) ?_; intro _ _ s K2 hK2; refine zS s 0 ?_; intro _ s; refine wt hK2 ?_; refine wp_ret ?_; refine ao (ag ?_); refine ac (v := ae (dQ a.v b)) rfl (.cons (rC s 3 0) .nil) rfl s.q ?_; exact ⟨rfl, s.o.kept⟩
theorem xe (A : Option Addr) (cap : Nat) (a b : Ar) (w : World) (hr : ArgsAt w A [a, b]) (ha : aY a) (hb : aY b) (hla : a.l.length ≤ 900000) (hlb : b.l.length ≤ 900000) (hc : 2 ≤ cap) (hok : Js a = true) (hob : Js b = true) :
    Calls Tryz.prog 39 #[.int .u8 43, .slice A 2 cap] w fun e w' => e = .returned (ae (cU 43 [a, b])) ∧ Kept w w' := by
  go_enter Tryz.func39, Tryz.ntmps39; refine z00 41 [(0, .int .u8 43), (1, .slice A 2 cap)] ?_; intro _ s; refine zr s 1 (zV Z0 oZ) ?_; intro gb1 _ _ s; refine sq fun hK1 => ?_; refine zr s 1 (zP Z0) ?_; intro _ _ s; refine wp_block ?_; refine zr s 2 (zP (zP Z0)) ?_; intro _ _ s; refine zx s ?_; refine zr s 2 (zP (zP Z0)) ?_; intro _ _ s; refine zy s ?_; refine zt_ s 2 (zC (zP Z0) fun cc => tE A cap a b _ (hr.kept cc.ow.kept) hb.1 hla hok) ?_; intro _ _ s K2 hK2; refine zS s 0 ?_; intro _ s; refine wt hK2 ?_; refine wp_ret ?_; refine ao (ag ?_); refine ac (v := ae (aZ a [b.v])) rfl (.cons (rC s 3 0) .nil) rfl s.q ?_; exact ⟨rfl, s.o.kept⟩
theorem xf (A : Option Addr) (cap : Nat) (a b c : Ar) (w : World) (hr : ArgsAt w A [a, b, c]) (hb : aY b) (hc : aY c) (hla : a.l.length ≤ 900000) (hok : Js a = true) :
    Calls Tryz.prog 39 #[.int .u8 43, .slice A 3 cap] w fun e w' => e = .returned (ae (cU 43 [a, b, c])) ∧ Kept w w' := by
  go_enter Tryz.func39, Tryz.ntmps39; refine z00 41 [(0, .int .u8 43), (1, .slice A 3 cap)] ?_; intro _ s; refine zr s 1 (zV Z0 oZ) ?_; intro gb1 _ _ s; refine sq fun hK1 => ?_; refine zr s 1 (zP Z0) ?_; intro _ _ s; refine wp_block ?_; refine zr s 2 (zP (zP Z0)) ?_; intro _ _ s; refine zx s ?_; refine zr s 2 (zP (zP Z0)) ?_; intro _ _ s; refine zy s ?_; refine zt_ s 2 (zC (zP Z0) fun cc => tF A cap a b c _ (hr.kept cc.ow.kept) hb.1 hc.1 hla hok) ?_; intro _ _ s K2 hK2; refine zS s 0 ?_; intro _ s; refine wt hK2 ?_; refine wp_ret ?_; refine ao (ag ?_); refine ac (v := ae (aZ a [b.v, c.v])) rfl (.cons (rC s 3 0) .nil) rfl s.q ?_; exact ⟨rfl, s.o.kept⟩
theorem A6 (A : Option Addr) (cap : Nat) (a b : Ar) (w : World) (hr : ArgsAt w A [a, b]) (ha : aY a) (hb : aY b) (hla : a.l.length ≤ 900000) (hlb : b.l.length ≤ 900000) (hc : 2 ≤ cap) (hok : Js a = true) (hob : Js b = true) :
    Calls Tryz.prog 39 #[.int .u8 18, .slice A 2 cap] w fun e w' => e = .returned (ae (cU 18 [a, b])) ∧ Kept w w' := by
  go_enter Tryz.func39, Tryz.ntmps39; refine z00 41 [(0, .int .u8 18), (1, .slice A 2 cap)] ?_; intro _ s; refine zr s 1 (zV Z0 oZ) ?_; intro gb1 _ _ s; refine sq fun hK1 => ?_; refine zr s 1 (zP Z0) ?_; intro _ _ s; refine wp_block ?_; refine zr s 2 (zP (zP Z0)) ?_; intro _ _ s; refine zx s ?_; refine zr s 2 (zP (zP Z0)) ?_; intro _ _ s; refine zx s ?_; refine sq fun hK2 => ?_; refine zr s 2 (zP (zP Z0)) ?_; intro _ _ s; refine zy s ?_; refine wp_skip ?_; refine tn hK2 ?_; refine zy s ?_; refine zt_ s 3 (zC (zP (zP Z0)) fun cc => mQ 18 A cap a b _ (hr.kept cc.ow.kept) ha hb.1 hla hc hok) ?_; intro _ _ s K3 hK3; refine zS s 0 ?_; intro _ s; refine wt hK3 ?_; refine wp_ret ?_; refine ao (ag ?_); refine ac (v := ae (cH a b.v (decide (18 = 18)))) rfl (.cons (rC s 3 0) .nil) rfl s.q ?_; exact ⟨rfl, s.o.kept⟩
theorem A7 (A : Option Addr) (cap : Nat) (a b : Ar) (w : World) (hr : ArgsAt w A [a, b]) (ha : aY a) (hb : aY b) (hla : a.l.length ≤ 900000) (hlb : b.l.length ≤ 900000) (hc : 2 ≤ cap) (hok : Js a = true) (hob : Js b = true) :
    Calls Tryz.prog 39 #[.int .u8 19, .slice A 2 cap] w fun e w' => e = .returned (ae (cU 19 [a, b])) ∧ Kept w w' := by
  go_enter Tryz.func39, Tryz.ntmps39; refine z00 41 [(0, .int .u8 19), (1, .slice A 2 cap)] ?_; intro _ s; refine zr s 1 (zV Z0 oZ) ?_; intro gb1 _ _ s; refine sq fun hK1 => ?_; refine zr s 1 (zP Z0) ?_; intro _ _ s; refine wp_block ?_; refine zr s 2 (zP (zP Z0)) ?_; intro _ _ s; refine zx s ?_; refine zr s 2 (zP (zP Z0)) ?_; intro _ _ s; refine zx s ?_; refine sq fun hK2 => ?_; refine zr s 2 (zP (zP Z0)) ?_; intro _ _ s; refine zx s ?_; refine zq s 2 (by exact zP (zP Z0)) ?_; intro _ _ s; refine tn hK2 ?_; refine zy s ?_; refine zt_ s 3 (zC (zP (zP Z0)) fun cc => mQ 19 A cap a b _ (hr.kept cc.ow.kept) ha hb.1 hla hc hok) ?_; intro _ _ s K3 hK3; refine zS s 0 ?_; intro _ s; refine wt hK3 ?_; refine wp_ret ?_; refine ao (ag ?_); refine ac (v := ae (cH a b.v (decide (19 = 18)))) rfl (.cons (rC s 3 0) .nil) rfl s.q ?_; exact ⟨rfl, s.o.kept⟩
theorem tH (fn : Nat) (hf : cw fn = true) (A : Option Addr) (cap : Nat) (l : List Ar) (w : World) (hr : ArgsAt w A l) (hs : ∀ a ∈ l, aY a) (hl : l.length ≤ 1000) (hla : ∀ a ∈ l, a.l.length ≤ 900000) (hn : (aH l).length ≤ 1000000) (hall : ∀ a ∈ l, Js a = true) :
    Calls Tryz.prog 39 #[.int .u8 fn, .slice A l.length cap] w fun e w' => e = .returned (ae (cU fn l)) ∧ Kept w w' := by
  have hF : fn = 9 ∨ fn = 10 ∨ fn = 14 ∨ fn = 15 ∨ fn = 16 ∨ fn = 17 ∨ fn = 46 ∨ fn = 48 ∨ fn = 49 ∨ fn = 50 := by unfold cw at hf; exact of_decide_eq_true hf
  go_enter Tryz.func39, Tryz.ntmps39; refine z00 41 [(0, .int .u8 (fn : Int)), (1, .slice A l.length cap)] ?_; intro _ s; refine zr s 1 (zV Z0 oZ) ?_; intro gb1 _ _ s; refine sq fun hK1 => ?_; refine zr s 1 (zP Z0) ?_; intro _ _ s; refine wp_block ?_; refine zr s 2 (zP (zE (zP Z0) (y := .bool false) (congrArg Value.bool (decide_eq_false (by omega))))) ?_; intro _ _ s; refine zx s ?_; refine zr s 2 (zP (zE (zP Z0) (y := .bool false) (congrArg Value.bool (decide_eq_false (by omega))))) ?_; intro _ _ s; refine zx s ?_; refine sq fun hK2 => ?_; refine zr s 2 (zP (zE (zP Z0) (y := .bool false) (congrArg Value.bool (decide_eq_false (by omega))))) ?_; intro _ _ s; refine zx s ?_; refine zq s 2 (by exact zP (zE (zP Z0) (y := .bool false) (congrArg Value.bool (decide_eq_false (by omega))))) ?_; intro _ _ s; refine tn hK2 ?_; refine zx s ?_; refine wp_skip ?_; refine aB ?_; refine tn hK1 ?_; refine zt_ s 1 (zP Z0) ?_; intro _ _ s K3 hK3; refine aU (aC rfl) (bZ (u := .slice A l.length cap) rfl (s.g 30) (dZ _ _)) ((gV A cap l _ (hr.kept s.o.kept) hs hl hla hn).mono ?_); rintro _ _ ⟨v, x, b9, rfl, hk, hcv⟩; refine ⟨_, rfl, ?_⟩; rcases hcv with ⟨rfl, rfl, hnn⟩ | ⟨rfl, L, hnn, hO⟩
  ·skip
   have ow := s.o.keep hk; clear hk; refine zg (s.ow ow) ?_; intro _ _ s; refine zw s ?_; intro _ _ s; refine zw s ?_; intro _ _ s; refine zw s ?_; intro _ _ s; refine zw s ?_; intro _ _ s; refine ct s.o (aC rfl) (dv (b := oZ) rfl (by kernel_rfl)) fun gb2 _ ow => ?_; refine zg (s.ow ow) ?_; intro _ _ s; refine zw s ?_; intro _ _ s; refine zS s 0 ?_; intro _ s; refine zw s ?_; intro _ _ s; refine wt hK3 ?_; refine sq fun hK4 => ?_; refine zr s 2 (zP (zP Z0)) ?_; intro _ _ s; refine zy s ?_; refine zt_ s 1 (zA Z0 (ae x) 3 0) ?_; intro _ _ s K5 hK5; refine zS s 1 ?_; intro _ s; refine wt hK5 ?_; refine wp_ret ?_; refine ag ?_; refine ac (v := ae x) rfl (.cons (rC s 3 1) .nil) rfl s.q ?_; exact ⟨congrArg (fun v => Ending.returned (ae v)) (HW hf hall hnn), s.o.kept⟩
  have ow := s.o.add (t := Th.row _ 2 1 v L.length (L.map cj)) hO hk (fun g e => (World.ownsRow.lt hO g e).1); clear hk hO; obtain ⟨LA, lc, rfl⟩ := bV (ow.row 0 rfl); have hLn : L.length ≤ 1000000 := HU hn hall hnn; refine zg (s.ow ow) ?_; intro _ _ s; refine zw s ?_; intro _ _ s; refine zw s ?_; intro _ _ s; refine zw s ?_; intro _ _ s; refine zw s ?_; intro _ _ s; refine ct s.o (aC rfl) (dv (b := oZ) rfl (by kernel_rfl)) fun gb3 _ ow => ?_; refine zg (s.ow ow) ?_; intro _ _ s; refine zw s ?_; intro _ _ s; refine zS s 0 ?_; intro _ s; refine zw s ?_; intro _ _ s; refine wt hK3 ?_; refine sq fun hK6 => ?_; refine zr s 2 (zP (zP Z0)) ?_; intro _ _ s; refine zx s ?_; refine wp_skip ?_; refine tn hK6 ?_; refine zt_ s 3 (zC (zP (zP Z0)) fun cc => tB fn LA lc L _ (mD (cc.ow.row 1 rfl) rfl).1 (Hw (DV hs hall hnn)) hLn (DV hs hall hnn)) ?_; intro _ _ s K7 hK7; refine zS s 2 ?_; intro _ s; refine wt hK7 ?_; refine wp_ret ?_; refine ac (v := ae (cR fn L)) rfl (.cons (rC s 3 2) .nil) rfl s.q ?_; exact ⟨congrArg (fun v => Ending.returned (ae v)) ((HX hf hall hnn)), s.o.kept⟩
theorem xg (fn : Nat) (A : Option Addr) (cap : Nat) (l : List Ar) (w : World) (hr : ArgsAt w A l) (hs : ∀ a ∈ l, aY a) (hl : l.length ≤ 1000) (hla : ∀ a ∈ l, a.l.length ≤ 900000) (hn : (aH l).length ≤ 1000000) (hcap : l.length ≤ cap) (hown : dw fn = true) (hcn : (rM fn ≤ l.length) ∧ (l.length ≤ oE fn)) (hfit : bc fn 0 l = true) (hno : ¬ (fn = 11 ∨ fn = 47 ∨ fn = 12 ∨ fn = 13 ∨ fn = 45)) :
    Calls Tryz.prog 39 #[.int .u8 fn, .slice A l.length cap] w fun e w' => e = .returned (ae (cU fn l)) ∧ Kept w w' := by
  by_cases hf : cw fn = true
  · exact tH fn hf A cap l w hr hs hl hla hn (pC hfit)
  · have hn2 : ¬ (fn = 9 ∨ fn = 10 ∨ fn = 14 ∨ fn = 15 ∨ fn = 16 ∨ fn = 17 ∨ fn = 46 ∨ fn = 48 ∨ fn = 49 ∨ fn = 50) := fun c => hf (by unfold cw; exact decide_eq_true c)
    have ho := rm hown; have hc : fn = 18 ∨ fn = 19 ∨ fn = 44 ∨ fn = 43 := by omega
    have hk := pC hfit; rcases hc with rfl | rfl | rfl | rfl
    all_goals first
      | (have e2 : l.length = 2 := by (simp only [rM, oE] at hcn; simp at hcn; omega)
         obtain ⟨a, b, rfl⟩ := G4 e2; have sa := hs a (by simp); have sb := hs b (by simp); have la := hla a (by simp); have lb := hla b (by simp)
         first
           | exact A6 A cap a b w hr sa sb la lb hcap (hk a (by simp)) (hk b (by simp))
           | exact A7 A cap a b w hr sa sb la lb hcap (hk a (by simp)) (hk b (by simp))
           | exact A5 A cap a b w hr sa sb la lb hcap (hk a (by simp)) (hk b (by simp)))
      | skip
    have e23 : l.length = 2 ∨ l.length = 3 := by (simp only [rM, oE] at hcn; simp at hcn; omega)
    rcases e23 with e2 | e3
    · obtain ⟨a, b, rfl⟩ := G4 e2
      exact xe A cap a b w hr (hs a (by simp)) (hs b (by simp)) (hla a (by simp)) (hla b (by simp)) hcap (hk a (by simp)) (hk b (by simp))
    · obtain ⟨a, b, c, rfl⟩ := I0 e3
      exact xf A cap a b c w hr (hs b (by simp)) (hs c (by simp)) (hla a (by simp)) (hk a (by simp))
theorem tI (fn : Nat) (A : Option Addr) (cap : Nat) (l : List Ar) (w : World) (hr : ArgsAt w A l) (hs : ∀ a ∈ l, aY a) (hl : l.length ≤ 1000) (hla : ∀ a ∈ l, a.l.length ≤ 900000) (hn : (aH l).length ≤ 1000000) (hcap : l.length ≤ cap) :
    Calls Tryz.prog 12 #[.int .u8 fn, .slice A l.length cap] w fun e w' => e = .returned (.tuple #[ae (Jr fn l).1, .int .i64 (Jr fn l).2]) ∧ Kept w w' := by
  go_enter Tryz.func12, Tryz.ntmps12; refine z00 91 [(0, .int .u8 (fn : Int)), (1, .slice A l.length cap)] ?_; intro _ s; refine zr s 2 (zP (zV Z0 oZ)) ?_; intro gb1 _ _ s; refine zr s 15 (zP (zO (zI (zPi (zPi (zPi (zPi (zPi (zP (zO (zPi (zPi (zP (zP (zP Z0))))) fun cc => gm rfl cc.e (fun hb => cc.f hb) rfl))))))) (v := .bool ((decide ((43 : Int) ≤ (fn : Int))) && (decide ((fn : Int) ≤ (50 : Int))))) (run := by exact fun cc hz => gm rfl (cc.f hz) (fun hb => cc.f (And.intro hz hb)) rfl)) fun cc => gA rfl cc.e rfl (fun hb => cc.f hb))) ?_; intro _ _ s; refine sq fun hK1 => ?_; refine zr s 2 (zP (zP Z0)) ?_; intro _ _ s; refine zb s (jc (bor (pE (decide_eq_true_iff) (decide_eq_true_iff)) (pE (decide_eq_true_iff) (decide_eq_true_iff)))) ?_ ?_
  ·intro hc1
   have hown : dw fn = false := by unfold dw; exact decide_eq_false (by have := hc1; omega)
   refine zt_ s 1 (zO Z0 (v := ae (⟨0, 0, []⟩ : Vl)) fun cc => cG (us := #[]) rfl (by simp) (by kernel_rfl)) ?_; intro _ _ s K2 hK2; refine zS s 0 ?_; intro _ s; refine zw s ?_; intro _ _ s; refine wt hK2 ?_; refine wp_ret ?_; refine ag ?_; refine ac (v := .tuple #[ae (⟨0, 0, []⟩ : Vl), .int .i64 10]) rfl (.cons (rC s 3 0) (.cons (rT s) .nil)) rfl s.q ?_; exact ⟨ce (FY hown), s.o.kept⟩
  intro hc1; have hown : dw fn = true := by unfold dw; exact decide_eq_true (by have := hc1; omega)
  refine wp_skip ?_; refine tn hK1 ?_; refine sq fun hK3 => ?_; refine zr s 5 (zP (zC (zN (zP (zP Z0))) fun cc => tG fn hown l.length _)) ?_; intro _ _ s; refine zb s (jc (pE (decide_eq_true_iff) (decide_eq_true_iff))) ?_ ?_
  ·intro hc2
   have hcnt := hc2; refine zt_ s 1 (zO Z0 (v := ae (⟨0, 0, []⟩ : Vl)) fun cc => cG (us := #[]) rfl (by simp) (by kernel_rfl)) ?_; intro _ _ s K4 hK4; refine zS s 0 ?_; intro _ s; refine zw s ?_; intro _ _ s; refine wt hK4 ?_; refine wp_ret ?_; refine ag ?_; refine ac (v := .tuple #[ae (⟨0, 0, []⟩ : Vl), .int .i64 11]) rfl (.cons (rC s 3 0) (.cons (rT s) .nil)) rfl s.q ?_; exact ⟨ce (De hown hcnt), s.o.kept⟩
  intro hc2; have hcn := Classical.not_not.1 hc2; refine wp_skip ?_; refine tn hK3 ?_; refine sq fun hK5 => ?_; refine zr s 1 (zP Z0) ?_; intro _ _ s; refine wp_block ?_; refine aP (fun (k : Nat) fr u => (k ≤ l.length) ∧ (bc fn 0 l = bc fn k (l.drop k)) ∧ Sg 91 w [Th.obj gb1 oZ] [(0, .int .u8 (fn : Int)), (1, .slice A l.length cap), (4, .pointer (some ⟨gb1, 0, none⟩)), (5, .int .i64 0), (7, .int .i64 (k : Int))] fr u) (fun k => l.length - k) 0 ⟨(Nat.zero_le _), rfl, s.c⟩ (fun k b_ u_ hI => ?_)
  revert b_ u_; intro _ _ hI
  obtain ⟨hk0, hfa, s⟩ := hI; refine sq fun hK6 => ?_; refine zr s 4 (zP (zN (zP (zP Z0)))) ?_; intro _ _ s; refine zi_ s ?_ ?_
  ·intro hc3
   refine wp_skip ?_; refine tn hK6 ?_; refine sq fun hK7 => ?_; refine wp_block ?_; have hltk : k < l.length := by omega
   obtain ⟨a, ha⟩ := bI hltk; obtain ⟨ba, oa, A1, c1, Aa, ea, r1, l1⟩ := hr.elem ha; have hva := (hs a (List.mem_of_getElem? ha)).1; have hca := (hs a (List.mem_of_getElem? ha)).2; have hal := hla a (List.mem_of_getElem? ha); refine zr s 31 (vW (by exact zCI (zPi (zPi (zPi (zI (zFi (zI (zPi (zPi (zP (zP (zC (zO (zO (zP (zP Z0)) fun cc => al 9 Tryz.underlying22 (by kernel_rfl) rfl Aa cc.e cc.e hltk) (v := aA a (.slice A1 a.l.length c1)) fun cc => bf (n := 9) 0 rfl (by kernel_rfl) (by kernel_rfl) cc.e rfl (ea.kept cc.ow.kept)) fun cc => kZ a _ _ _ (r1.kept cc.ow.kept) hal hva hca))))) (v := .pointer (some ⟨ba, oa + k * 9, none⟩)) (run := by exact fun cc hz => al 9 Tryz.underlying22 (by kernel_rfl) rfl Aa (cc.f hz) (cc.f hz) hltk)) (oa + k * 9)) (v := .bool a.w) (run := by exact fun cc hz => dS 0 rfl (by kernel_rfl) (cc.f hz) rfl (ea.kept cc.ow.kept) rfl))))) fun cc => xd fn hown k (by omega) _) fun h => (by exact zO (zI (zPi (zPi (zPi (zPi (zI (zFi (zI (zPi (zPi (zP (zO (zI (zPi h) (v := .bool (a.w && (!(dR fn k)))) (run := by exact fun cc hz => gm rfl (cc.f hz) (fun hb => cc.f (And.intro hz hb)) rfl)) fun cc => gA rfl cc.e rfl (fun hb => cc.f hb))))) (v := .pointer (some ⟨ba, oa + k * 9, none⟩)) (run := by exact fun cc hz => al 9 Tryz.underlying22 (by kernel_rfl) rfl Aa (cc.f hz) (cc.f hz) hltk)) (oa + k * 9)) (v := .bool a.w) (run := by exact fun cc hz => dS 0 rfl (by kernel_rfl) (cc.f hz) rfl (ea.kept cc.ow.kept) rfl)))))) (v := .bool ((!a.w) && (decide ((46 : Int) ≤ (fn : Int))))) (run := by exact fun cc hz => gm rfl (cc.f hz) (fun hb => cc.f (And.intro hz hb)) rfl)) fun cc => gA rfl cc.e rfl (fun hb => cc.f hb))) ?_
   intro _ _ s; refine zb s (bor (bor (jc (Iff.rfl)) (pE (Iff.rfl) (jc (Iff.rfl)))) (pE (jc (Iff.rfl)) (decide_eq_true_iff))) ?_ ?_
   ·intro hc4
    have hft := hc4; refine zt_ s 1 (zO Z0 (v := ae (⟨0, 0, []⟩ : Vl)) fun cc => cG (us := #[]) rfl (by simp) (by kernel_rfl)) ?_; intro _ _ s K8 hK8; refine zS s 0 ?_; intro _ s; refine zw s ?_; intro _ _ s; refine wt hK8 ?_; refine wp_ret ?_; refine ao (ag (ag (ao (ag ?_)))); refine ac (v := .tuple #[ae (⟨0, 0, []⟩ : Vl), .int .i64 2]) rfl (.cons (rC s 3 0) (.cons (rT s) .nil)) rfl s.q ?_; exact ⟨ce (HY hown hcn (hfa.trans (AZ ha hft))), s.o.kept⟩
   intro hc4; have hfg := hc4; refine wp_skip ?_; refine aB ?_; refine tn hK7 ?_; refine zu s 2 (by exact zAn (zP Z0) k 1) ?_; intro _ _ s; refine zw s ?_; intro _ _ s; refine aN ?_; exact bg ⟨(k + 1), ⟨hltk, (hfa.trans (Dd ha hfg)), s.c⟩, (show l.length - (k + 1) < l.length - k by omega)⟩
  intro hc3; refine wp_exit ?_; refine aM ?_; refine aM ?_; refine aD ?_; refine tn hK5 ?_; refine sq fun hK9 => ?_; have hfit := hfa.trans (pj (by omega)); refine zr s 1 (zP Z0) ?_; intro _ _ s; refine wp_block ?_; refine sq fun hK10 => ?_; refine zr s 2 (zP (zP Z0)) ?_; intro _ _ s; refine zi_ s ?_ ?_
  ·intro hc5
   have hF : fn = 11 ∨ fn = 47 ∨ fn = 12 ∨ fn = 13 := by have := hc5; omega
   refine wp_skip ?_; refine tn hK10 ?_; refine zy s ?_ (hb := (decide_eq_true_iff).2 hc5); refine zt_ s 3 (zC (zP (zP Z0)) fun cc => fp fn A cap l _ (hr.kept cc.ow.kept) (fun a ha => Nat.le_trans (hla a ha) (by decide)) hl) ?_; intro _ _ s K11 hK11; refine zS s 0 ?_; intro _ s; refine zw s ?_; intro _ _ s; refine wt hK11 ?_; refine wp_ret ?_; refine ao (ag ?_); refine ac (v := .tuple #[ae (ay (bS fn l * 10000)), .int .i64 0]) rfl (.cons (rC s 3 0) (.cons (rT s) .nil)) rfl s.q ?_; exact ⟨ce (od hown hcn hfit (pB hF)), s.o.kept⟩
  intro hc5; refine zr s 2 (zP (zP Z0)) ?_; intro _ _ s; refine zi_ s ?_ ?_
  ·intro hc6
   have hF : fn = 11 ∨ fn = 47 ∨ fn = 12 ∨ fn = 13 := by have := hc6; omega
   refine wp_skip ?_; refine tn hK10 ?_; refine zy s ?_ (hb := (decide_eq_true_iff).2 hc6); refine zt_ s 3 (zC (zP (zP Z0)) fun cc => fp fn A cap l _ (hr.kept cc.ow.kept) (fun a ha => Nat.le_trans (hla a ha) (by decide)) hl) ?_; intro _ _ s K12 hK12; refine zS s 0 ?_; intro _ s; refine zw s ?_; intro _ _ s; refine wt hK12 ?_; refine wp_ret ?_; refine ao (ag ?_); refine ac (v := .tuple #[ae (ay (bS fn l * 10000)), .int .i64 0]) rfl (.cons (rC s 3 0) (.cons (rT s) .nil)) rfl s.q ?_; exact ⟨ce (od hown hcn hfit (pB hF)), s.o.kept⟩
  intro hc6; refine zr s 2 (zP (zP Z0)) ?_; intro _ _ s; refine zi_ s ?_ ?_
  ·intro hc7
   have hF : fn = 11 ∨ fn = 47 ∨ fn = 12 ∨ fn = 13 := by have := hc7; omega
   refine wp_skip ?_; refine tn hK10 ?_; refine zy s ?_ (hb := (decide_eq_true_iff).2 hc7); refine zt_ s 3 (zC (zP (zP Z0)) fun cc => fp fn A cap l _ (hr.kept cc.ow.kept) (fun a ha => Nat.le_trans (hla a ha) (by decide)) hl) ?_; intro _ _ s K13 hK13; refine zS s 0 ?_; intro _ s; refine zw s ?_; intro _ _ s; refine wt hK13 ?_; refine wp_ret ?_; refine ao (ag ?_); refine ac (v := .tuple #[ae (ay (bS fn l * 10000)), .int .i64 0]) rfl (.cons (rC s 3 0) (.cons (rT s) .nil)) rfl s.q ?_; exact ⟨ce (od hown hcn hfit (pB hF)), s.o.kept⟩
  intro hc7; refine zq s 2 (by exact zP (zP Z0)) ?_; intro _ _ s; refine tn hK10 ?_; refine zi_ s ?_ ?_
  ·intro hc8
   have hF : fn = 11 ∨ fn = 47 ∨ fn = 12 ∨ fn = 13 := by have := hc8; omega
   refine zt_ s 3 (zC (zP (zP Z0)) fun cc => fp fn A cap l _ (hr.kept cc.ow.kept) (fun a ha => Nat.le_trans (hla a ha) (by decide)) hl) ?_; intro _ _ s K14 hK14; refine zS s 0 ?_; intro _ s; refine zw s ?_; intro _ _ s; refine wt hK14 ?_; refine wp_ret ?_; refine ao (ag ?_); refine ac (v := .tuple #[ae (ay (bS fn l * 10000)), .int .i64 0]) rfl (.cons (rC s 3 0) (.cons (rT s) .nil)) rfl s.q ?_; exact ⟨ce (od hown hcn hfit (pB hF)), s.o.kept⟩
  intro hc8; refine zr s 2 (zP (zP Z0)) ?_; intro _ _ s; refine zi_ s ?_ ?_
  ·intro hc9
   have hF : fn = 45 := by have := hc9; omega
   obtain ⟨a, b, hab⟩ := G4 (l := l) (by rw [show rM fn = 2 by subst hF; rfl, show oE fn = 2 by subst hF; rfl] at hcn; omega); have h2l : l.length = 2 := by rw [hab]; rfl
   obtain ⟨bq0, o0, S0, z0, hA0, e0, q0, y0⟩ := hr.elem (i := 0) (x := a) (by rw [hab]; rfl); obtain ⟨bq1, o1, S1, z1, hA1, e1, q1, y1⟩ := hr.elem (i := 1) (x := b) (by rw [hab]; rfl); have sa := hs a (by rw [hab]; simp); have sb := hs b (by rw [hab]; simp); have la := hla a (by rw [hab]; simp); refine zt_ s 8 (zC (zO (zF (zO (zP (zO (zO (zP Z0) fun cc => al 9 Tryz.underlying22 (by kernel_rfl) rfl hA0 cc.e rfl (by rw [h2l]; decide)) (v := aA a (.slice S0 a.l.length z0)) fun cc => bf (n := 9) 0 rfl (by kernel_rfl) (by kernel_rfl) cc.e rfl (e0.kept cc.ow.kept))) fun cc => al 9 Tryz.underlying22 (by kernel_rfl) rfl hA1 cc.e rfl (by rw [h2l]; decide)) (o1 + 1 * 9 + 1)) (v := ae b.v) fun cc => bf (n := 3) 1 rfl (by kernel_rfl) (by kernel_rfl) cc.e rfl (e1.kept cc.ow.kept)) fun cc => na a S0 z0 b.v _ (q0.kept cc.ow.kept) y0 la sa sb.1) ?_; intro _ _ s K15 hK15; refine zS s 0 ?_; intro _ s; refine zw s ?_; intro _ _ s; refine wt hK15 ?_; refine wp_ret ?_; refine ao (ag ?_); refine ac (v := .tuple #[ae (cM a b.v), .int .i64 0]) rfl (.cons (rC s 3 0) (.cons (rT s) .nil)) rfl s.q ?_; exact ⟨ce (od hown hcn hfit (FZ hF hab)), s.o.kept⟩
  intro hc9; have hno : ¬ (fn = 11 ∨ fn = 47 ∨ fn = 12 ∨ fn = 13 ∨ fn = 45) := by omega
  refine wp_skip ?_; refine aB ?_; refine tn hK9 ?_; refine zt_ s 3 (zC (zP (zP Z0)) fun cc => xg fn A cap l _ (hr.kept cc.ow.kept) hs hl hla hn hcap hown hcn hfit hno) ?_; intro _ _ s K16 hK16; refine zS s 0 ?_; intro _ s; refine zw s ?_; intro _ _ s; refine wt hK16 ?_; refine wp_ret ?_; refine ac (v := .tuple #[ae (cU fn l), .int .i64 0]) rfl (.cons (rC s 3 0) (.cons (rT s) .nil)) rfl s.q ?_; exact ⟨ce (od hown hcn hfit rfl), s.o.kept⟩
