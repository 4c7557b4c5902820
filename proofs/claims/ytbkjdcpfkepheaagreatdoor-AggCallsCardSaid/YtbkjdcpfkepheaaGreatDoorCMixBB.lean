/- Small texts together: GAgg11, GObj16, MAgg9. -/
import Derived.Test.YtbkjdcpfkepheaaGreatDoorCGAgg10
import Derived.Test.YtbkjdcpfkepheaaGreatDoorCMixAP
import Derived.Test.YtbkjdcpfkepheaaGreatDoorCGRow16
import Derived.Test.YtbkjdcpfkepheaaGreatDoorCMixAX
import Derived.Test.YtbkjdcpfkepheaaGreatDoorCMixAN
import Derived.ProofKit
set_option linter.unusedVariables false
set_option linter.unusedSimpArgs false
set_option maxHeartbeats 4000000
namespace Go.Proofs.YtbkjdcpfkepheaaGreatDoor
section
open Go.RowKit Lv
set_option maxRecDepth 100000
theorem ce {v : Vl} {c : Int} {r : Vl × Int} (h : r = (v, c)) : Ending.returned (.tuple #[ae v, .int .i64 c]) = .returned (.tuple #[ae r.1, .int .i64 r.2]) := by rw [h]
theorem rm {fn : Nat} (h : dw fn = true) : (9 ≤ fn ∧ fn ≤ 19) ∨ (43 ≤ fn ∧ fn ≤ 50) := by
  unfold dw at h
  rwa [decide_eq_true_eq] at h
theorem tg {fn : Nat} (h : dw fn = true) : (eH fn).1 = (rM fn : Nat) ∧ (eH fn).2.1 = (oE fn : Nat) := by
  have := rm h; unfold eH rM oE
  (repeat' split) <;> constructor <;> first | rfl | omega
theorem AA {fn i : Nat} (h : dw fn = true) : dR fn i = true ↔ ¬ ((0 : Int) ≤ (eH fn).2.2 ∧ (i : Int) ≠ (eH fn).2.2) := by
  have := rm h; unfold dR eH
  (repeat' split) <;> (try simp only [decide_eq_true_eq]) <;> first | omega | exact ⟨fun _ h => by omega, fun _ => by trivial⟩
theorem CH {fn : Nat} {l : List Ar} (h : dw fn = false) : Jr fn l = (aj, 10) := by unfold Jr; rw [if_pos h]
theorem AB {fn : Nat} {l : List Ar} (h : dw fn = true) (c : (((l.length : Nat) : Int) < ((eH fn).1 : Int)) ∨ (((eH fn).2.1 : Int) < ((l.length : Nat) : Int))) : Jr fn l = (aj, 11) := by
  obtain ⟨e1, e2⟩ := tg h; unfold Jr; rw [if_neg (by rw [h]; decide), if_pos (by omega)]
theorem uV {fn : Nat} {l : List Ar} (h : dw fn = true) (c : ¬ ((((l.length : Nat) : Int) < ((eH fn).1 : Int)) ∨ (((eH fn).2.1 : Int) < ((l.length : Nat) : Int)))) : Jr fn l = if bc fn 0 l = false then (aj, 2) else (cU fn l, 0) := by
  obtain ⟨e1, e2⟩ := tg h; unfold Jr; rw [if_neg (by rw [h]; decide), if_neg (by omega)]
theorem Fe {fn : Nat} {l : List Ar} (h : dw fn = true) (c : ¬ ((((l.length : Nat) : Int) < ((eH fn).1 : Int)) ∨ (((eH fn).2.1 : Int) < ((l.length : Nat) : Int)))) (f : bc fn 0 l = false) : Jr fn l = (aj, 2) := by rw [uV h c, if_pos f]
theorem Ff {fn : Nat} {l : List Ar} (h : dw fn = true) (c : ¬ ((((l.length : Nat) : Int) < ((eH fn).1 : Int)) ∨ (((eH fn).2.1 : Int) < ((l.length : Nat) : Int)))) (f : bc fn 0 l = true) : Jr fn l = (cU fn l, 0) := by rw [uV h c, if_neg (by rw [f]; decide)]
abbrev CI (fn k : Nat) (a : Ar) : Prop := ((¬ ((Js a) = true)) ∨ (((a.w = true) ∧ ((0 : Int) ≤ ((eH fn).2.2 : Int))) ∧ ((k : Int) ≠ ((eH fn).2.2 : Int)))) ∨ (((46 : Int) ≤ (fn : Int)) ∧ (¬ (a.w = true)))
theorem uW {fn k : Nat} {a : Ar} (h : dw fn = true) : kL fn k a = true ↔ ¬ CI fn k a := by
  have e := AA (i := k) h; unfold kL CI
  cases Js a <;> cases a.w <;> cases hq : dR fn k <;> rw [hq] at e <;> simp at e ⊢ <;> omega
theorem CJ {fn k : Nat} {l : List Ar} {a : Ar} (h : dw fn = true) (ha : l[k]? = some a) (c : CI fn k a) : bc fn k (l.drop k) = false := by
  rw [dD ha, bc]
  cases e : kL fn k a with
  | true => exact absurd c ((uW h).1 e)
  | false => rfl
theorem Fg {fn k : Nat} {l : List Ar} {a : Ar} (h : dw fn = true) (ha : l[k]? = some a) (c : ¬ CI fn k a) : bc fn k (l.drop k) = bc fn (k + 1) (l.drop (k + 1)) := by
  rw [dD ha, bc, (uW h).2 c, Bool.true_and]
theorem pj {fn k : Nat} {l : List Ar} (h : l.length ≤ k) : bc fn k (l.drop k) = true := by
  rw [List.drop_eq_nil_of_le h]
  rfl
theorem kA {fn k : Nat} {a : Ar} {l : List Ar} (h : bc fn k (a :: l) = true) : Js a = true ∧ bc fn (k + 1) l = true := by
  rw [bc, Bool.and_eq_true] at h; refine ⟨?_, h.2⟩; have := h.1; unfold kL at this
  simp only [Bool.and_eq_true] at this
  exact this.1.1
theorem G4 {l : List Ar} (h : l.length = 2) : ∃ a b, l = [a, b] := by
  match l, h with
  | [a, b], _ => exact ⟨a, b, rfl⟩
theorem I0 {l : List Ar} (h : l.length = 3) : ∃ a b c, l = [a, b, c] := by
  match l, h with
  | [a, b, c], _ => exact ⟨a, b, c, rfl⟩
theorem wT (fn : Nat) (A : Option Addr) (cap : Nat) (l : List Ar) (w : World) (mx : Int) (HM : Mx w mx) (hr : ArgsAt w A l) (hs : ∀ a ∈ l, aY a) (hl : l.length ≤ 1000) (hla : ∀ a ∈ l, a.l.length ≤ 900000) (hn : (aH l).length ≤ 1000000) (hcap : l.length ≤ cap) (hown : dw fn = true) (hcn : ¬ ((((l.length : Nat) : Int) < ((eH fn).1 : Int)) ∨ (((eH fn).2.1 : Int) < ((l.length : Nat) : Int)))) (hfit : bc fn 0 l = true) :
    Calls Tryz.prog 33 #[.int .u8 fn, .slice A l.length cap] w fun e w' => e = .returned (ae (cU fn l)) ∧ Kept w w' := by
  obtain ⟨r1, r2⟩ := tg hown
  by_cases hf : cw fn = true
  · exact tf fn hf A cap l w mx HM hr hs hl hla hn
  · have hno : ¬ (fn = 9 ∨ fn = 10 ∨ fn = 14 ∨ fn = 15 ∨ fn = 16 ∨ fn = 17 ∨ fn = 46 ∨ fn = 48 ∨ fn = 49 ∨ fn = 50) := fun c => hf (by unfold cw; exact decide_eq_true c)
    have ho := rm hown; have hc : fn = 11 ∨ fn = 12 ∨ fn = 13 ∨ fn = 47 ∨ fn = 18 ∨ fn = 19 ∨ fn = 44 ∨ fn = 45 ∨ fn = 43 := by omega
    rcases hc with rfl | rfl | rfl | rfl | rfl | rfl | rfl | rfl | rfl
    · exact Ap A cap l w hr hl hla
    · exact Aq A cap l w hr hl hla
    · exact Au A cap l w hr hl hla
    · exact Aw A cap l w hr hl hla
    all_goals first
      | (have e2 : l.length = 2 := by (rw [r1, r2] at hcn; simp only [rM, oE] at hcn; simp at hcn; omega)
         obtain ⟨a, b, rfl⟩ := G4 e2; obtain ⟨oa, f1⟩ := kA hfit; obtain ⟨ob, _⟩ := kA f1; have sa := hs a (by simp); have sb := hs b (by simp); have la := hla a (by simp); have lb := hla b (by simp)
         first
           | exact Al A cap a b w mx HM hr sa sb la lb hcap oa ob
           | exact Am A cap a b w mx HM hr sa sb la lb hcap oa ob
           | exact Ao A cap a b w mx HM hr sa sb la lb hcap oa ob
           | exact An A cap a b w mx HM hr sa sb la lb hcap oa ob)
      | skip
    have e23 : l.length = 2 ∨ l.length = 3 := by (rw [r1, r2] at hcn; simp only [rM, oE] at hcn; simp at hcn; omega)
    rcases e23 with e2 | e3
    · obtain ⟨a, b, rfl⟩ := G4 e2
      obtain ⟨oa, f1⟩ := kA hfit; obtain ⟨ob, _⟩ := kA f1; exact wR A cap a b w mx HM hr (hs a (by simp)) (hs b (by simp)) (hla a (by simp)) (hla b (by simp)) hcap oa ob
    · obtain ⟨a, b, c, rfl⟩ := I0 e3
      obtain ⟨oa, f1⟩ := kA hfit; exact wS A cap a b c w mx HM hr (hs a (by simp)) (hs b (by simp)) (hs c (by simp)) (hla a (by simp)) oa
theorem AC (fn : Nat) (A : Option Addr) (cap : Nat) (l : List Ar) (w : World) (mx : Int) (HM : Mx w mx) (hr : ArgsAt w A l) (hs : ∀ a ∈ l, aY a) (hl : l.length ≤ 1000) (hla : ∀ a ∈ l, a.l.length ≤ 900000) (hn : (aH l).length ≤ 1000000) (hcap : l.length ≤ cap) :
    Calls Tryz.prog 11 #[.int .u8 fn, .slice A l.length cap] w fun e w' => e = .returned (.tuple #[ae (Jr fn l).1, .int .i64 (Jr fn l).2]) ∧ Kept w w' := by
  have hll : l.length ≤ 1000000 := by omega
  have hla1 : ∀ a ∈ l, a.l.length ≤ 1000000 := fun a ha => Nat.le_trans (hla a ha) (by decide); go_enter Tryz.func11, Tryz.ntmps11; refine z00 69 [(0, .int .u8 (fn : Int)), (1, .slice A l.length cap)] ?_; intro _ s; refine zr s 2 (zP (zV Z0 oZ)) ?_; intro gb1 _ fw s; refine sq fun hK1 => ?_; refine zr s 3 (zP (zC (zP Z0) fun cc => oT fn _)) ?_; intro _ fw s; refine zb s (jc (Iff.rfl)) ?_ ?_
  ·intro hc1
   have hown : dw fn = false := by simpa using hc1
   refine zt_ s 1 (zO Z0 (v := ae (⟨0, 0, []⟩ : Vl)) fun cc => cG (us := #[]) rfl (by simp) (by kernel_rfl)) ?_; intro _ fw s K2 hK2; refine zS s 0 ?_; intro fw s; refine zw s ?_; intro _ fw s; refine wt hK2 ?_; refine wp_ret ?_; refine ag ?_; refine ac (v := .tuple #[ae (⟨0, 0, []⟩ : Vl), .int .i64 10]) rfl (.cons (rC s 3 0) (.cons (rT s) .nil)) rfl s.q ?_; exact ⟨ce (CH hown), s.o.kept⟩
  intro hc1; have hown : dw fn = true := by simpa using hc1
  refine wp_skip ?_; refine tn hK1 ?_; refine zr s 9 (zP (zP (zP (zP (zP (zP (zP (zC (zP Z0) fun cc => wC fn _)))))))) ?_; intro _ fw s; refine sq fun hK3 => ?_; refine zr s 10 (zO (zPi (zPi (zNi (zPi (zP (zP (zP (zN (zP Z0))))))))) fun cc => gA rfl cc.e rfl (fun hb => cc.f hb)) ?_; intro _ fw s; refine zb s (bor (decide_eq_true_iff) (decide_eq_true_iff)) ?_ ?_
  ·intro hc2
   have hcnt := hc2; refine zt_ s 1 (zO Z0 (v := ae (⟨0, 0, []⟩ : Vl)) fun cc => cG (us := #[]) rfl (by simp) (by kernel_rfl)) ?_; intro _ fw s K4 hK4; refine zS s 0 ?_; intro fw s; refine zw s ?_; intro _ fw s; refine wt hK4 ?_; refine wp_ret ?_; refine ag ?_; refine ac (v := .tuple #[ae (⟨0, 0, []⟩ : Vl), .int .i64 11]) rfl (.cons (rC s 3 0) (.cons (rT s) .nil)) rfl s.q ?_; exact ⟨ce (AB hown hcnt), s.o.kept⟩
  intro hc2; have hcn := hc2; refine wp_skip ?_; refine tn hK3 ?_; refine sq fun hK5 => ?_; refine zr s 3 (zP (zN (zP Z0))) ?_; intro _ fw s; refine wp_block ?_; refine aP (fun (k : Nat) fr u => (k ≤ l.length) ∧ (bc fn 0 l = bc fn k (l.drop k)) ∧ Sg 69 w [Th.obj gb1 oZ] [(0, .int .u8 (fn : Int)), (1, .slice A l.length cap), (4, .pointer (some ⟨gb1, 0, none⟩)), (5, .int .i64 0), (8, .int .i64 ((eH fn).2.2)), (32, .slice A l.length cap), (33, .int .i64 ((l.length : Nat) : Int)), (34, .int .i64 (k : Int))] fr u) (fun k => l.length - k) 0 ⟨(Nat.zero_le _), rfl, s.c⟩ (fun k b_ u_ hI => ?_)
  revert b_ u_; intro fa fw hI
  obtain ⟨hk0, hfa, s⟩ := hI; refine zr s 1 (zP Z0) ?_; intro _ fw s; refine sq fun hK6 => ?_; refine zi_ s ?_ ?_
  ·intro hc3
   refine wp_skip ?_; refine tn hK6 ?_; refine sq fun hK7 => ?_; refine wp_block ?_; have hltk : k < l.length := by omega
   obtain ⟨a, ha⟩ := bI hltk; obtain ⟨ba, oa, A1, c1, Aa, ea, r1, l1⟩ := hr.elem ha; have hva := (hs a (List.mem_of_getElem? ha)).1; have hca := (hs a (List.mem_of_getElem? ha)).2; have hal := hla1 a (List.mem_of_getElem? ha); refine zt_ s 5 (zP (zV (zO (zO (zP Z0) fun cc => al 9 Tryz.underlying22 (by kernel_rfl) rfl Aa cc.e cc.e hltk) (v := aA a (.slice A1 a.l.length c1)) fun cc => bf (n := 9) 0 rfl (by kernel_rfl) (by kernel_rfl) cc.e rfl (ea.kept cc.ow.kept)) (.cells #[.bool false, .int .u8 0, .int .i64 0, .string ⟨[].toArray⟩, .int .i64 0, .int .i64 0, .int .i64 0, .int .i64 0, .slice none 0 0] 39 (0, 0)))) ?_; intro gb2 _ fw s K8 hK8; refine zS s 0 ?_; intro fw s; refine wt hK8 ?_; refine zr s 25 (zO (zI (zPi (zLi (zFi (zPi (zPi (zPi (zP (zO (zI (zPi (zPi (zPi (zPi (zI (zPi (zPi (zPi (zLi (zFi (zP (zP (zC (zA Z0 (aA a (.slice A1 a.l.length c1)) 9 0) fun cc => qE a _ _ _ (r1.kept cc.ow.kept) hal hva hca))) 0) 0)))) (v := .bool (a.w && (decide ((0 : Int) ≤ ((eH fn).2.2 : Int))))) (run := by exact fun cc hz => gm rfl (cc.f hz) (fun hb => cc.f (And.intro hz hb)) rfl)))))) (v := .bool ((a.w && (decide ((0 : Int) ≤ ((eH fn).2.2 : Int)))) && (decide ((k : Int) ≠ ((eH fn).2.2 : Int))))) (run := by exact fun cc hz => gm rfl (cc.f hz) (fun hb => cc.f (And.intro hz hb)) rfl)) fun cc => gA rfl cc.e rfl (fun hb => cc.f hb)))))) 0) 0)) (v := .bool ((decide ((46 : Int) ≤ (fn : Int))) && (!a.w))) (run := by exact fun cc hz => gm rfl (cc.f hz) (fun hb => cc.f (And.intro hz hb)) rfl)) fun cc => gA rfl cc.e rfl (fun hb => cc.f hb)) ?_
   intro _ fw s; refine zb s (bor (bor (jc (Iff.rfl)) (pE (pE (Iff.rfl) (decide_eq_true_iff)) (decide_eq_true_iff))) (pE (decide_eq_true_iff) (jc (Iff.rfl)))) ?_ ?_
   ·intro hc4
    have hft := hc4; refine zt_ s 1 (zO Z0 (v := ae (⟨0, 0, []⟩ : Vl)) fun cc => cG (us := #[]) rfl (by simp) (by kernel_rfl)) ?_; intro _ fw s K9 hK9; refine zS s 1 ?_; intro fw s; refine zw s ?_; intro _ fw s; refine wt hK9 ?_; refine wp_ret ?_; refine ao (ag (ag (ao (ag ?_)))); refine ac (v := .tuple #[ae (⟨0, 0, []⟩ : Vl), .int .i64 2]) rfl (.cons (rC s 3 1) (.cons (rT s) .nil)) rfl s.q ?_; exact ⟨ce (Fe hown hcn (hfa.trans (CJ hown ha hft))), s.o.kept⟩
   intro hc4; have hfg := hc4; refine wp_skip ?_; refine aB ?_; refine tn hK7 ?_; refine zu s 1 (by exact zAn Z0 k 1) ?_; intro _ fw s; refine zw s ?_; intro _ fw s; refine aN ?_; exact bg ⟨(k + 1), ⟨hltk, (hfa.trans (Fg hown ha hfg)), (s.ow s.o.tail).c⟩, (show l.length - (k + 1) < l.length - k by omega)⟩
  intro hc3; refine wp_exit ?_; refine aM ?_; refine aM ?_; refine aD ?_; refine tn hK5 ?_; have hfit := hfa.trans (pj (by omega)); refine zt_ s 3 (zC (zP (zP Z0)) fun cc => wT fn A cap l _ mx (HM.kept cc.ow.kept) (hr.kept cc.ow.kept) hs hl hla hn hcap hown hcn hfit) ?_; intro _ fw s K10 hK10; refine zS s 0 ?_; intro fw s; refine zw s ?_; intro _ fw s; refine wt hK10 ?_; refine wp_ret ?_; refine ac (v := .tuple #[ae (cU fn l), .int .i64 0]) rfl (.cons (rC s 3 0) (.cons (rT s) .nil)) rfl s.q ?_; exact ⟨ce (Ff hown hcn (hfa.trans (pj (by omega)))), s.o.kept⟩
end

section
open Go.RowKit Lv
set_option maxRecDepth 100000
def bn (L : List (Ar × Value)) : Obj := .cells (L.map GN).flatten.toArray 39 (0, 0)
theorem bt {w : World} {g : Nat} {L : List (Ar × Value)} (h : w.heap[g]? = some (bn L)) (hc : ∀ p ∈ L, CellsAt w p.2 p.1.l) : ArgsAt w (some ⟨g, 0, none⟩) (L.map Prod.fst) :=
  ⟨L, rfl, RowK.box (t := 39) (cs := (L.map GN).flatten.toArray) h gd (List.take_of_length_le (Nat.le_of_eq (jB gd L))), hc⟩
def mI (l : List Ar) : Prop := l.length ≤ 20 ∧ ∀ a ∈ l, aY a ∧ a.l.length ≤ 900
theorem AE {l : List Ar} (h : mI l) : (aH l).length ≤ 1000000 := by
  have h1 := qV (n := 900) (fun a ha => (h.2 a ha).2); have h2 : l.length * 901 ≤ 20 * 901 := Nat.mul_le_mul_right _ h.1
  omega
theorem mJ (fn : Nat) (A : Option Addr) (cap : Nat) (l : List Ar) (w : World) (mx : Int) (HM : Mx w mx) (hr : ArgsAt w A l) (h : mI l) (hcap : l.length ≤ cap) :
    Calls Tryz.prog 11 #[.int .u8 fn, .slice A l.length cap] w fun e w' => e = .returned (.tuple #[ae (Jr fn l).1, .int .i64 (Jr fn l).2]) ∧ Kept w w' :=
  AC fn A cap l w mx HM hr (fun a ha => (h.2 a ha).1) (Nat.le_trans h.1 (by decide)) (fun a ha => Nat.le_trans (h.2 a ha).2 (by decide)) (AE h) hcap
theorem CL (x : Vl) (c : Int) (fn : Nat) (A : Option Addr) (cap : Nat) (l : List Ar) (w : World) (mx : Int) (HM : Mx w mx) (hr : ArgsAt w A l) (h : mI l) (hcap : l.length ≤ cap) (hx : Jr fn l = (x, c)) :
    Calls Tryz.prog 11 #[.int .u8 fn, .slice A l.length cap] w fun e w' => e = .returned (.tuple #[ae x, .int .i64 c]) ∧ Kept w w' := by
  have h := mJ fn A cap l w mx HM hr h hcap; rw [hx] at h; exact h
def uX (v : Vl) : Bool := decide (-9223372036854775808 ≤ v.n ∧ v.n ≤ 9223372036854775807 ∧ v.t.length ≤ 2000)
theorem uY {v : Vl} (h : uX v = true) : Small v := by
  unfold uX at h; rw [decide_eq_true_eq] at h; exact ⟨⟨h.1, h.2.1⟩, h.2.2⟩
def G5 (l : List Ar) : Bool := decide (l.length ≤ 20) && l.all (fun a => uX a.v && a.l.all (fun c => uX c.v) && decide (a.l.length ≤ 900))
theorem cJ {l : List Ar} (h : G5 l = true) : mI l := by
  unfold G5 at h; rw [Bool.and_eq_true, decide_eq_true_eq] at h; refine ⟨h.1, fun a ha => ?_⟩; have h1 := List.all_eq_true.1 h.2 a ha; rw [Bool.and_eq_true, Bool.and_eq_true, decide_eq_true_eq] at h1; exact ⟨⟨uY h1.1.1, fun c hc => uY (List.all_eq_true.1 h1.1.2 c hc)⟩, h1.2⟩
theorem G6 {l : List Ar} (h1 : l.length ≤ 20) (h2 : ∀ a ∈ l, Js a = true) (hi : ∀ a ∈ l, Bc a) (h3 : ∀ a ∈ l, a.l.length ≤ 900) : mI l := ⟨h1, fun a ha => ⟨E4 (h2 a ha) (hi a ha), h3 a ha⟩⟩
end

namespace Lv
open Go
abbrev az : List Cl := [⟨1, 1, ⟨1, 30000, []⟩⟩, ⟨2, 1, ⟨3, 0, [120]⟩⟩, ⟨2, 2, ⟨1, 15000, []⟩⟩]
abbrev aEx : Ar := ⟨true, ⟨0, 0, []⟩, ⟨1, 1, 2, 2⟩, az⟩
abbrev uZ : Ar := ⟨true, ⟨0, 0, []⟩, ⟨1, 1, 1, 1⟩, []⟩
abbrev gU (v : Vl) : Ar := ⟨false, v, ⟨0, 0, 0, 0⟩, []⟩
theorem Fh : ar [30000, 15000, 90000] = [15000, 30000, 90000] := sN (List.Perm.swap _ _ _) (by unfold F6; decide)
theorem Fi : ar [30000, 15000] = [15000, 30000] := sN (List.Perm.swap _ _ _) (by unfold F6; decide)
theorem G7 : Jr 9 [aEx, gU ⟨3, 0, [50]⟩, gU ⟨2, 1, []⟩] = ((⟨1, 75000, []⟩ : Vl), 0) := by kernel_rfl
theorem G8 : Jr 11 [aEx, gU ⟨3, 0, [50]⟩, gU ⟨1, 70000, []⟩] = ((⟨1, 30000, []⟩ : Vl), 0) := by kernel_rfl
theorem G9 : Jr 12 [aEx] = ((⟨1, 30000, []⟩ : Vl), 0) := by kernel_rfl
theorem Ha : Jr 13 [aEx] = ((⟨1, 10000, []⟩ : Vl), 0) := by kernel_rfl
theorem Hb : Jr 14 [aEx] = ((⟨1, 22500, []⟩ : Vl), 0) := by kernel_rfl
theorem Hc : Jr 17 [aEx, gU ⟨1, 90000, []⟩] = ((⟨1, 30000, []⟩ : Vl), 0) := by
  have h : Jr 17 [aEx, gU ⟨1, 90000, []⟩] = (ay ((ar [30000, 15000, 90000]).getD 1 0), 0) := by kernel_rfl
  rw [h, Fh]
  rfl
theorem Hd : Jr 18 [aEx, gU ⟨1, 20000, []⟩] = ((⟨1, 15000, []⟩ : Vl), 0) := by
  have h : Jr 18 [aEx, gU ⟨1, 20000, []⟩] = (ay ((ar [30000, 15000]).reverse.getD 1 0), 0) := by kernel_rfl
  rw [h, Fi]
  rfl
theorem He : Jr 19 [aEx, gU ⟨1, 30000, []⟩] = ((⟨4, 3, []⟩ : Vl), 0) := by kernel_rfl
theorem Hf : Jr 15 [uZ] = ((⟨1, 0, []⟩ : Vl), 0) := by kernel_rfl
theorem Hh : Jr 48 [uZ] = ((⟨4, 1, []⟩ : Vl), 0) := by kernel_rfl
theorem Fj : Jr 17 [uZ] = ((⟨4, 3, []⟩ : Vl), 0) := by kernel_rfl
theorem Fk : Jr 10 [uZ] = ((⟨1, 0, []⟩ : Vl), 0) := by kernel_rfl
theorem Fl : Jr 43 [aEx, gU ⟨1, 20000, []⟩] = ((⟨3, 0, [120]⟩ : Vl), 0) := by kernel_rfl
theorem Fm : Jr 43 [aEx, gU ⟨1, 20000, []⟩, gU ⟨1, 10000, []⟩] = ((⟨0, 0, []⟩ : Vl), 0) := by kernel_rfl
theorem Fo : Jr 43 [aEx, gU ⟨1, 30000, []⟩, gU ⟨1, 10000, []⟩] = ((⟨4, 5, []⟩ : Vl), 0) := by kernel_rfl
theorem Fp : Jr 44 [gU ⟨3, 0, [88]⟩, aEx] = ((⟨1, 20000, []⟩ : Vl), 0) := by kernel_rfl
theorem Fq : Jr 44 [gU ⟨0, 0, []⟩, aEx] = ((⟨1, 30000, []⟩ : Vl), 0) := by kernel_rfl
theorem Fr : Jr 45 [aEx, gU ⟨1, 30000, []⟩] = ((⟨1, 10000, []⟩ : Vl), 0) := by kernel_rfl
theorem Ft : Jr 46 [aEx] = ((⟨1, 45000, []⟩ : Vl), 0) := by kernel_rfl
end Lv
