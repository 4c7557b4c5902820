/- Small texts together: GAgg11, SX12, GObj16, MAgg9. -/
import Derived.Test.YtbkjdcpfkepheaaGreatDoorVGAgg10
import Derived.Test.YtbkjdcpfkepheaaGreatDoorVMixAO
import Derived.Test.YtbkjdcpfkepheaaGreatDoorVGRow16
import Derived.Test.YtbkjdcpfkepheaaGreatDoorVMixAW
import Derived.ProofKit
set_option linter.unusedVariables false
set_option linter.unusedSimpArgs false
set_option maxHeartbeats 4000000
namespace Go.Proofs.YtbkjdcpfkepheaaGreatDoor
section
open Go.RowKit Lv
set_option maxRecDepth 100000
theorem gO {v : Vl} {c : Int} {r : Vl × Int} (h : r = (v, c)) : Ending.returned (.tuple #[al v, .int .i64 c]) = .returned (.tuple #[al r.1, .int .i64 r.2]) := by rw [h]
theorem wS {fn : Nat} (h : eR fn = true) : (9 ≤ fn ∧ fn ≤ 19) ∨ (43 ≤ fn ∧ fn ≤ 50) := by
  unfold eR at h
  rwa [decide_eq_true_eq] at h
theorem qD {fn : Nat} (h : eR fn = true) : (dU fn).1 = (Cb fn : Nat) ∧ (dU fn).2.1 = (Cc fn : Nat) := by
  have := wS h; unfold dU Cb Cc
  (repeat' split) <;> constructor <;> first | rfl | omega
theorem wT {fn i : Nat} (h : eR fn = true) : kc fn i = true ↔ ¬ ((0 : Int) ≤ (dU fn).2.2 ∧ (i : Int) ≠ (dU fn).2.2) := by
  have := wS h; unfold kc dU
  (repeat' split) <;> (try simp only [decide_eq_true_eq]) <;> first | omega | exact ⟨fun _ h => by omega, fun _ => by trivial⟩
theorem yS {fn : Nat} {l : List Ar} (h : eR fn = false) : bd fn l = (aG, 10) := by unfold bd; rw [if_pos h]
theorem wU {fn : Nat} {l : List Ar} (h : eR fn = true) (c : (((l.length : Nat) : Int) < ((dU fn).1 : Int)) ∨ (((dU fn).2.1 : Int) < ((l.length : Nat) : Int))) : bd fn l = (aG, 11) := by
  obtain ⟨e1, e2⟩ := qD h; unfold bd; rw [if_neg (by rw [h]; decide), if_pos (by omega)]
theorem rZ {fn : Nat} {l : List Ar} (h : eR fn = true) (c : ¬ ((((l.length : Nat) : Int) < ((dU fn).1 : Int)) ∨ (((dU fn).2.1 : Int) < ((l.length : Nat) : Int)))) : bd fn l = if bM fn 0 l = false then (aG, 2) else (eS fn l, 0) := by
  obtain ⟨e1, e2⟩ := qD h; unfold bd; rw [if_neg (by rw [h]; decide), if_neg (by omega)]
theorem Bc {fn : Nat} {l : List Ar} (h : eR fn = true) (c : ¬ ((((l.length : Nat) : Int) < ((dU fn).1 : Int)) ∨ (((dU fn).2.1 : Int) < ((l.length : Nat) : Int)))) (f : bM fn 0 l = false) : bd fn l = (aG, 2) := by rw [rZ h c, if_pos f]
theorem Bd {fn : Nat} {l : List Ar} (h : eR fn = true) (c : ¬ ((((l.length : Nat) : Int) < ((dU fn).1 : Int)) ∨ (((dU fn).2.1 : Int) < ((l.length : Nat) : Int)))) (f : bM fn 0 l = true) : bd fn l = (eS fn l, 0) := by rw [rZ h c, if_neg (by rw [f]; decide)]
abbrev yT (fn k : Nat) (a : Ar) : Prop := ((¬ ((br a) = true)) ∨ (((a.w = true) ∧ ((0 : Int) ≤ ((dU fn).2.2 : Int))) ∧ ((k : Int) ≠ ((dU fn).2.2 : Int)))) ∨ (((46 : Int) ≤ (fn : Int)) ∧ (¬ (a.w = true)))
theorem sc {fn k : Nat} {a : Ar} (h : eR fn = true) : ot fn k a = true ↔ ¬ yT fn k a := by
  have e := wT (i := k) h; unfold ot yT
  cases br a <;> cases a.w <;> cases hq : kc fn k <;> rw [hq] at e <;> simp at e ⊢ <;> omega
theorem yU {fn k : Nat} {l : List Ar} {a : Ar} (h : eR fn = true) (ha : l[k]? = some a) (c : yT fn k a) : bM fn k (l.drop k) = false := by
  rw [dJ ha, bM]
  cases e : ot fn k a with
  | true => exact absurd c ((sc h).1 e)
  | false => rfl
theorem Be {fn k : Nat} {l : List Ar} {a : Ar} (h : eR fn = true) (ha : l[k]? = some a) (c : ¬ yT fn k a) : bM fn k (l.drop k) = bM fn (k + 1) (l.drop (k + 1)) := by
  rw [dJ ha, bM, (sc h).2 c, Bool.true_and]
theorem sd {fn k : Nat} {l : List Ar} (h : l.length ≤ k) : bM fn k (l.drop k) = true := by
  rw [List.drop_eq_nil_of_le h]
  rfl
theorem lv {fn k : Nat} {a : Ar} {l : List Ar} (h : bM fn k (a :: l) = true) : br a = true ∧ bM fn (k + 1) l = true := by
  rw [bM, Bool.and_eq_true] at h; refine ⟨?_, h.2⟩; have := h.1; unfold ot at this
  simp only [Bool.and_eq_true] at this
  exact this.1.1
theorem DL {l : List Ar} (h : l.length = 2) : ∃ a b, l = [a, b] := by
  match l, h with
  | [a, b], _ => exact ⟨a, b, rfl⟩
theorem D7 {l : List Ar} (h : l.length = 3) : ∃ a b c, l = [a, b, c] := by
  match l, h with
  | [a, b, c], _ => exact ⟨a, b, c, rfl⟩
theorem tA (fn : Nat) (A : Option Addr) (cap : Nat) (l : List Ar) (w : World) (mx : Int) (HM : Mx w mx) (hr : ArgsAt w A l) (hs : ∀ a ∈ l, bI a) (hl : l.length ≤ 1000) (hla : ∀ a ∈ l, a.l.length ≤ 900000) (hn : (aF l).length ≤ 1000000) (hcap : l.length ≤ cap) (hown : eR fn = true) (hcn : ¬ ((((l.length : Nat) : Int) < ((dU fn).1 : Int)) ∨ (((dU fn).2.1 : Int) < ((l.length : Nat) : Int)))) (hfit : bM fn 0 l = true) :
    Calls Tryz.prog 33 #[.int .u8 fn, .slice A l.length cap] w fun e w' => e = .returned (al (eS fn l)) ∧ Kept w w' := by
  obtain ⟨r1, r2⟩ := qD hown
  by_cases hf : dM fn = true
  · exact qC fn hf A cap l w mx HM hr hs hl hla hn
  · have hno : ¬ (fn = 9 ∨ fn = 10 ∨ fn = 14 ∨ fn = 15 ∨ fn = 16 ∨ fn = 17 ∨ fn = 46 ∨ fn = 48 ∨ fn = 49 ∨ fn = 50) := fun c => hf (by unfold dM; exact decide_eq_true c)
    have ho := wS hown; have hc : fn = 11 ∨ fn = 12 ∨ fn = 13 ∨ fn = 47 ∨ fn = 18 ∨ fn = 19 ∨ fn = 44 ∨ fn = 45 ∨ fn = 43 := by omega
    rcases hc with rfl | rfl | rfl | rfl | rfl | rfl | rfl | rfl | rfl
    · exact wO A cap l w hr hl hla
    · exact wP A cap l w hr hl hla
    · exact wQ A cap l w hr hl hla
    · exact wR A cap l w hr hl hla
    all_goals first
      | (have e2 : l.length = 2 := by (rw [r1, r2] at hcn; simp only [Cb, Cc] at hcn; simp at hcn; omega)
         obtain ⟨a, b, rfl⟩ := DL e2; obtain ⟨oa, f1⟩ := lv hfit; obtain ⟨ob, _⟩ := lv f1; have sa := hs a (by simp); have sb := hs b (by simp); have la := hla a (by simp); have lb := hla b (by simp)
         first
           | exact wK A cap a b w mx HM hr sa sb la lb hcap oa ob
           | exact wL A cap a b w mx HM hr sa sb la lb hcap oa ob
           | exact wN A cap a b w mx HM hr sa sb la lb hcap oa ob
           | exact wM A cap a b w mx HM hr sa sb la lb hcap oa ob)
      | skip
    have e23 : l.length = 2 ∨ l.length = 3 := by (rw [r1, r2] at hcn; simp only [Cb, Cc] at hcn; simp at hcn; omega)
    rcases e23 with e2 | e3
    · obtain ⟨a, b, rfl⟩ := DL e2
      obtain ⟨oa, f1⟩ := lv hfit; obtain ⟨ob, _⟩ := lv f1; exact tx A cap a b w mx HM hr (hs a (by simp)) (hs b (by simp)) (hla a (by simp)) (hla b (by simp)) hcap oa ob
    · obtain ⟨a, b, c, rfl⟩ := D7 e3
      obtain ⟨oa, f1⟩ := lv hfit; exact tz A cap a b c w mx HM hr (hs a (by simp)) (hs b (by simp)) (hs c (by simp)) (hla a (by simp)) oa
theorem pq : En 31 := by intro args w; go_simp
theorem lx : En 30 := by intro args w; go_simp
theorem pt : En 33 := by intro args w; go_simp
theorem wV (fn : Nat) (A : Option Addr) (cap : Nat) (l : List Ar) (w : World) (mx : Int) (HM : Mx w mx) (hr : ArgsAt w A l) (hs : ∀ a ∈ l, bI a) (hl : l.length ≤ 1000) (hla : ∀ a ∈ l, a.l.length ≤ 900000) (hn : (aF l).length ≤ 1000000) (hcap : l.length ≤ cap) :
    Calls Tryz.prog 11 #[.int .u8 fn, .slice A l.length cap] w fun e w' => e = .returned (.tuple #[al (bd fn l).1, .int .i64 (bd fn l).2]) ∧ Kept w w' := by
  have hll : l.length ≤ 1000000 := by omega
  have hla1 : ∀ a ∈ l, a.l.length ≤ 1000000 := fun a ha => Nat.le_trans (hla a ha) (by decide); go_enter Tryz.func11, Tryz.ntmps11
  refine rgx [bJ w.heap.size (.cells #[.int .u8 0, .int .i64 0, .string ⟨[].toArray⟩] 25 (0, 0)), yV _] 2 69 rfl rfl (Own.start w) (
    uq4 <|
    uq1 rfl rfl rfl <|
    ah) fun fa fw bs hv ap z q ov => ?_
  have s0 := bs.get 0 rfl rfl; have s1 := bs.get 1 rfl rfl; obtain ⟨gb1, s4, bgb1, hgb1⟩ := zn hv 0; have ov := ov.hc (Own.start w) bgb1 hgb1; have s5 := zh hv 1; have ow := ov; refine sq fun hK2 => ?_
  refine rgx [yV _, yV (.bool (eR fn)), yV _] 3 69 z q ow (
    um s0 rfl <|
    uc (rc1 (zd 0) lx) (fun hk => mT fn _) rfl <|
    ua (rno (zd 1)) rfl <|
    ah) fun fa fw bs hv ap z q ow => ?_
  obtain ⟨s0, s1, s4, s5⟩ := b4 bs s0 s1 s4 s5; have s13 := zh hv 2
  by_cases hc1 : ¬ ((eR fn) = true)
  ·refine ct s13 ((dX (Iff.rfl)).2 hc1) ?_
   have hown : eR fn = false := by simpa using hc1
   refine sq fun hK4 => ?_
   refine ro [yV (al (⟨0, 0, []⟩ : Vl))] 1 69 z q ow (
     aS (fun hk bs hd => bP (us := #[]) rfl (by simp) (by kernel_rfl)) rfl <|
     ah) fun fa fw bs hv ap z q ow => ?_
   obtain ⟨s0, s1, s4, s5⟩ := b4 bs s0 s1 s4 s5; have s14 := zh hv 0; refine ws ow 0 0 s4 s14 fun fw ow => ?_; refine ae (v := .int .i64 10) (ag rfl) (aq rfl rfl) ?_; refine gp3 z q ow s0 s1 s4 fun fa fw z q ow s0 s1 s4 s5 => ?_; refine wt hK4 ?_; refine wp_ret ?_; refine ao ?_; refine aU (v := .tuple #[al (⟨0, 0, []⟩ : Vl), .int .i64 10]) rfl (.cons (bo (n := 3) _ s4 (by kernel_rfl) (by kernel_rfl) (ow.box 0 rfl) (Nat.le_of_ble_eq_true rfl) rfl) (.cons (ak s5) .nil)) rfl q ?_; exact ⟨gO (yS hown), ow.kept⟩
  refine cf s13 (dX (Iff.rfl)) hc1 ?_; have hown : eR fn = true := by simpa using hc1
  refine wp_skip ?_; refine tn hK2 ?_
  refine rgx [yV _, yV (.tuple #[.int .i64 ((dU fn).1), .int .i64 ((dU fn).2.1), .int .i64 ((dU fn).2.2)]), yV _, yV _, yV _, yV _, yV _, yV _, yV _] 9 69 z q ow (
    um s0 rfl <|
    uc (rc1 (zd 0) pq) (fun hk => tf fn _) rfl <|
    uq2 1 rfl rfl <|
    ua (rex (zd 2)) rfl <|
    ua (rex (zd 2)) rfl <|
    ua (rex (zd 2)) rfl <|
    uq3 3 rfl rfl <|
    uq3 4 rfl rfl <|
    uq3 5 rfl rfl <|
    ah) fun fa fw bs hv ap z q ow => ?_
  obtain ⟨s0, s1, s4, s5⟩ := b4 bs s0 s1 s4 s5; have s6 := zh hv 6; have s7 := zh hv 7; have s8 := zh hv 8; refine sq fun hK6 => ?_
  refine rgx [yV _, yV _, yV _, yV _, yV _, yIf _ (yV _), yIf _ (yV _), yIf _ (yV _), yIf _ (yV _), yV _] 10 69 z q ow (
    um s1 rfl <|
    ua (rle Tryz.underlying22 (zd 0)) rfl <|
    um s6 rfl <|
    ua (rlt (zd 1) (zd 2)) rfl <|
    uq2 3 rfl rfl <|
    ui (gd1 4) (rmo (zt s1)) rfl <|
    ui (gd1 4) (rle Tryz.underlying22 (zi 5)) rfl <|
    ui (gd1 4) (rmo (zt s7)) rfl <|
    ui (gd1 4) (rgt (zi 6) (zi 7)) rfl <|
    ua (ron (zd 4) (zi 8)) rfl <|
    ah) fun fa fw bs hv ap z q ow => ?_
  obtain ⟨s0, s1, s4, s5, s8⟩ := b5 bs s0 s1 s4 s5 s8; have s30 := zh hv 9
  by_cases hc2 : (((l.length : Nat) : Int) < ((dU fn).1 : Int)) ∨ (((dU fn).2.1 : Int) < ((l.length : Nat) : Int))
  ·refine ct s30 ((bor (decide_eq_true_iff) (decide_eq_true_iff)).2 hc2) ?_
   have hcnt := hc2; refine sq fun hK8 => ?_
   refine ro [yV (al (⟨0, 0, []⟩ : Vl))] 1 69 z q ow (
     aS (fun hk bs hd => bP (us := #[]) rfl (by simp) (by kernel_rfl)) rfl <|
     ah) fun fa fw bs hv ap z q ow => ?_
   obtain ⟨s0, s1, s4, s5, s8⟩ := b5 bs s0 s1 s4 s5 s8; have s31 := zh hv 0; refine ws ow 0 0 s4 s31 fun fw ow => ?_; refine ae (v := .int .i64 11) (ag rfl) (aq rfl rfl) ?_; refine gp4 z q ow s0 s1 s4 s8 fun fa fw z q ow s0 s1 s4 s8 s5 => ?_; refine wt hK8 ?_; refine wp_ret ?_; refine ao ?_; refine aU (v := .tuple #[al (⟨0, 0, []⟩ : Vl), .int .i64 11]) rfl (.cons (bo (n := 3) _ s4 (by kernel_rfl) (by kernel_rfl) (ow.box 0 rfl) (Nat.le_of_ble_eq_true rfl) rfl) (.cons (ak s5) .nil)) rfl q ?_; exact ⟨gO (wU hown hcnt), ow.kept⟩
  refine cf s30 (bor (decide_eq_true_iff) (decide_eq_true_iff)) hc2 ?_; have hcn := hc2; refine wp_skip ?_; refine tn hK6 ?_; refine sq fun hK9 => ?_
  refine rgx [yV _, yV _, yV _] 3 69 z q ow (
    um s1 rfl <|
    ua (rle Tryz.underlying22 (zd 0)) rfl <|
    ua (rmo zc) rfl <|
    ah) fun fa fw bs hv ap z q ow => ?_
  obtain ⟨s0, s1, s4, s5, s8⟩ := b5 bs s0 s1 s4 s5 s8; have s32 := zh hv 0; have s33 := zh hv 1; have s34 := zh hv 2; refine wp_block ?_; refine bc (fun (k : Nat) fr u => (k ≤ l.length) ∧ (bM fn 0 l = bM fn k (l.drop k)) ∧ fr.tmps.size = 69 ∧ fr.defers = [] ∧ Own w [Th.obj gb1 (.cells #[.int .u8 0, .int .i64 0, .string ⟨[].toArray⟩] 25 (0, 0))] u ∧ fr.eval (.tmp 0) = .int .u8 (fn : Int) ∧ fr.eval (.tmp 1) = .slice A l.length cap ∧ fr.eval (.tmp 4) = .pointer (some ⟨gb1, 0, none⟩) ∧ fr.eval (.tmp 5) = .int .i64 0 ∧ fr.eval (.tmp 8) = .int .i64 ((dU fn).2.2) ∧ fr.eval (.tmp 32) = .slice A l.length cap ∧ fr.eval (.tmp 33) = .int .i64 ((l.length : Nat) : Int) ∧ fr.eval (.tmp 34) = .int .i64 (k : Int)) (fun k => l.length - k) 0 ⟨(Nat.zero_le _), rfl, z, q, ow, s0, s1, s4, s5, s8, s32, s33, s34⟩ (fun k b_ u_ hI => ?_)
  revert b_ u_; intro fa fw hI
  obtain ⟨hk0, hfa, z, q, ow, s0, s1, s4, s5, s8, s32, s33, s34⟩ := hI
  refine rgx [yV _] 1 69 z q ow (
    ua (rlt (zt s34) (zt s33)) rfl <|
    ah) fun fa fw bs hv ap z q ow => ?_
  obtain ⟨s0, s1, s4, s5, s8, s32, s33, s34⟩ := b8 bs s0 s1 s4 s5 s8 s32 s33 s34; have s35 := zh hv 0; refine sq fun hK12 => ?_
  by_cases hc3 : (k : Int) < ((l.length : Nat) : Int)
  ·refine ct s35 ((decide_eq_true_iff).2 hc3) ?_
   refine wp_skip ?_; refine tn hK12 ?_; refine sq fun hK13 => ?_; refine wp_block ?_; refine sq fun hK14 => ?_; have hltk : k < l.length := by omega
   obtain ⟨a, ha⟩ := bQ hltk; obtain ⟨ba, oa, A1, c1, Aa, ea, r1, l1⟩ := hr.elem ha; have hva := (hs a (List.mem_of_getElem? ha)).1; have hca := (hs a (List.mem_of_getElem? ha)).2; have hal := hla1 a (List.mem_of_getElem? ha)
   refine ro [yV _, yV _, yV (.agg #[.bool a.w, .int .u8 a.v.k, .int .i64 a.v.n, .string ⟨a.v.t.toArray⟩, .int .i64 a.x.c1, .int .i64 a.x.r1, .int .i64 a.x.c2, .int .i64 a.x.r2, .slice A1 a.l.length c1]), bJ fw.heap.size (.cells #[.bool false, .int .u8 0, .int .i64 0, .string ⟨[].toArray⟩, .int .i64 0, .int .i64 0, .int .i64 0, .int .i64 0, .slice none 0 0] 39 (0, 0)), yV _] 5 69 z q ow (
     um s34 rfl <|
     ua (rpl 9 Tryz.underlying22 Aa (zt s32) (zt s34) hltk) rfl <|
     ua (rpk 9 0 ea ow (zd 1)) rfl <|
     uq4 <|
     uq3 0 rfl rfl <|
     ah) fun fa fw bs hv ap z q ov => ?_
   obtain ⟨s0, s1, s4, s5, s8, s32, s33, s34⟩ := b8 bs s0 s1 s4 s5 s8 s32 s33 s34; have s38 := zh hv 2; obtain ⟨gb2, s10, bgb2, hgb2⟩ := zn hv 3; have ov := ov.hc ow bgb2 hgb2; have s9 := zh hv 4; have ow := ov; refine ws ow 0 0 s10 s38 fun fw ow => ?_; refine wt hK14 ?_
   refine rgx [yV (.agg #[.bool a.w, .int .u8 a.v.k, .int .i64 a.v.n, .string ⟨a.v.t.toArray⟩, .int .i64 a.x.c1, .int .i64 a.x.r1, .int .i64 a.x.c2, .int .i64 a.x.r2, .slice A1 a.l.length c1]), yV (.bool (br a)), yV _, yV _, yIf _ (yV (.pointer (some ⟨gb2, 0, none⟩))), yIf _ (yV _), yIf _ (yV _), yIf _ (yV _), yIf _ (yV _), yIf _ (yV _), yIf _ (yV _), yIf _ (yV _), yIf _ (yV _), yIf _ (yV _), yIf _ (yV _), yV _, yV _, yIf _ (yV _), yIf _ (yV _), yIf _ (yV _), yIf _ (yV (.pointer (some ⟨gb2, 0, none⟩))), yIf _ (yV _), yIf _ (yV _), yIf _ (yV _), yV _] 25 69 z q ow (
     ua (rln 9 ow 0 (zt s10)) rfl <|
     uc (rc1 (zd 0) jS) (fun hk => jK a _ _ _ (r1.kept (ow.keep hk).kept) hal hva hca) rfl <|
     ua (rno (zd 1)) rfl <|
     uq2 2 rfl rfl <|
     ui (gd1 3) (rfa (zt s10)) rfl <|
     ui (gd1 3) (rlb ow 0 (zi 4)) rfl <|
     ui (gd1 3) (rmo (zi 5)) rfl <|
     ui (gd2 6) (rmo (zt s8)) rfl <|
     ui (gd2 6) (rgq (zi 7) zc) rfl <|
     ui (gd1 3) (rai (zi 6) (zi 8)) rfl <|
     ui (gd1 3) (rmo (zi 9)) rfl <|
     ui (gd2 10) (rmo (zt s9)) rfl <|
     ui (gd2 10) (rmo (zt s8)) rfl <|
     ui (gd2 10) (rne (zi 11) (zi 12)) rfl <|
     ui (gd1 3) (rai (zi 10) (zi 13)) rfl <|
     ua (ron (zd 3) (zi 14)) rfl <|
     uq2 15 rfl rfl <|
     ui (gd1 16) (rmo (zt s0)) rfl <|
     ui (gd1 16) (rgq (zi 17) zc) rfl <|
     ui (gd1 16) (rmo (zi 18)) rfl <|
     ui (gd2 19) (rfa (zt s10)) rfl <|
     ui (gd2 19) (rlb ow 0 (zi 20)) rfl <|
     ui (gd2 19) (rno (zi 21)) rfl <|
     ui (gd1 16) (rai (zi 19) (zi 22)) rfl <|
     ua (ron (zd 16) (zi 23)) rfl <|
     ah) fun fa fw bs hv ap z q ow => ?_
   obtain ⟨s0, s1, s4, s5, s8, s32, s33, s34⟩ := b8 bs s0 s1 s4 s5 s8 s32 s33 s34; have s63 := zh hv 24
   by_cases hc4 : ((¬ ((br a) = true)) ∨ (((a.w = true) ∧ ((0 : Int) ≤ ((dU fn).2.2 : Int))) ∧ ((k : Int) ≠ ((dU fn).2.2 : Int)))) ∨ (((46 : Int) ≤ (fn : Int)) ∧ (¬ (a.w = true)))
   ·refine ct s63 ((bor (bor (dX (Iff.rfl)) (lV (lV (Iff.rfl) (decide_eq_true_iff)) (decide_eq_true_iff))) (lV (decide_eq_true_iff) (dX (Iff.rfl)))).2 hc4) ?_
    have hft := hc4; refine sq fun hK16 => ?_
    refine ro [yV (al (⟨0, 0, []⟩ : Vl))] 1 69 z q ow (
      aS (fun hk bs hd => bP (us := #[]) rfl (by simp) (by kernel_rfl)) rfl <|
      ah) fun fa fw bs hv ap z q ow => ?_
    obtain ⟨s0, s1, s4, s5, s8, s32, s33, s34⟩ := b8 bs s0 s1 s4 s5 s8 s32 s33 s34; have s64 := zh hv 0; refine ws ow 1 0 s4 s64 fun fw ow => ?_; refine ae (v := .int .i64 2) (ag rfl) (aq rfl rfl) ?_; refine gp7 z q ow s0 s1 s4 s8 s32 s33 s34 fun fa fw z q ow s0 s1 s4 s8 s32 s33 s34 s5 => ?_; refine wt hK16 ?_; refine wp_ret ?_; refine aD ?_; refine ao ?_; refine ao ?_; refine aD ?_; refine ao ?_; refine aU (v := .tuple #[al (⟨0, 0, []⟩ : Vl), .int .i64 2]) rfl (.cons (bo (n := 3) _ s4 (by kernel_rfl) (by kernel_rfl) (ow.box 1 rfl) (Nat.le_of_ble_eq_true rfl) rfl) (.cons (ak s5) .nil)) rfl q ?_; exact ⟨gO (Bc hown hcn (hfa.trans (yU hown ha hft))), ow.kept⟩
   refine cf s63 (bor (bor (dX (Iff.rfl)) (lV (lV (Iff.rfl) (decide_eq_true_iff)) (decide_eq_true_iff))) (lV (decide_eq_true_iff) (dX (Iff.rfl)))) hc4 ?_; have hfg := hc4; refine wp_skip ?_; refine bn ?_; refine tn hK13 ?_
   refine ro [yV (.int .i64 ((k + 1 : Nat) : Int))] 1 69 z q ow (
     ua (rad (zt s34) zc) rfl <|
     ah) fun fa fw bs hv ap z q ow => ?_
   obtain ⟨s0, s1, s4, s5, s8, s32, s33, s34⟩ := b8 bs s0 s1 s4 s5 s8 s32 s33 s34; have s65 := zh hv 0; refine ae (v := .int .i64 ((k + 1 : Nat) : Int)) (ag rfl) (ce rfl s65) ?_; refine gp7 z q ow s0 s1 s4 s5 s8 s32 s33 fun fa fw z q ow s0 s1 s4 s5 s8 s32 s33 s34 => ?_; refine bp ?_; exact bK ⟨(k + 1), ⟨hltk, (hfa.trans (Be hown ha hfg)), z, q, ow.tail, s0, s1, s4, s5, s8, s32, s33, s34⟩, (show l.length - (k + 1) < l.length - k by omega)⟩
  refine cf s35 (decide_eq_true_iff) hc3 ?_; refine wp_exit ?_; refine aX ?_; refine aX ?_; refine aP ?_; refine tn hK9 ?_; refine sq fun hK17 => ?_; have hfit := hfa.trans (sd (by omega))
  refine ro [yV _, yV _, yV (al (eS fn l))] 3 69 z q ow (
    um s0 rfl <|
    um s1 rfl <|
    uc (rc2 (zd 0) (zd 1) pt) (fun hk => tA fn A cap l _ mx (HM.kept (ow.keep hk).kept) (hr.kept (ow.keep hk).kept) hs hl hla hn hcap hown hcn hfit) rfl <|
    ah) fun fa fw bs hv ap z q ow => ?_
  obtain ⟨s4, s5⟩ := b2 bs s4 s5; have s68 := zh hv 2; refine ws ow 0 0 s4 s68 fun fw ow => ?_; refine ae (v := .int .i64 0) (ag rfl) (aq rfl rfl) ?_; refine gp1 z q ow s4 fun fa fw z q ow s4 s5 => ?_; refine wt hK17 ?_; refine wp_ret ?_; refine aU (v := .tuple #[al (eS fn l), .int .i64 0]) rfl (.cons (bo (n := 3) _ s4 (by kernel_rfl) (by kernel_rfl) (ow.box 0 rfl) (Nat.le_of_ble_eq_true rfl) rfl) (.cons (ak s5) .nil)) rfl q ?_; exact ⟨gO (Bd hown hcn (hfa.trans (sd (by omega)))), ow.kept⟩
end

section
open Go.RowKit
section
variable {P : Program} {a : Act} {o : Oper} {w : World}
theorem xb1 {T : TypeId} {q0 : Nat} {x0 : Operand} {u0 r : Value} (ho : o.op = .build T #[(q0, x0)]) (h0 : a.eval x0 = u0) (h : (Instr.build T #[(q0, u0)]).run P w = .ok r w) : (execOp a.eval o).run P w = .ok (.value r) w := bP ho (by simp only [List.map_toArray, List.map_cons, List.map_nil, h0]) h
theorem zC {T : TypeId} {n : Nat} {q0 : Nat} {x0 : Operand} {u0 : Value} {b : Obj} (ho : o.op = .buildSlice T n #[(q0, x0)]) (h0 : a.eval x0 = u0) (h : (Instr.buildSlice T n #[(q0, u0)]).run P w = .ok (.slice (some ⟨w.heap.size, 0, none⟩) n n) (w.alloc b)) : (execOp a.eval o).run P w = .ok (.value (.slice (some ⟨w.heap.size, 0, none⟩) n n)) (w.alloc b) := bU ho (by simp only [List.map_toArray, List.map_cons, List.map_nil, h0]) h
theorem xb2 {T : TypeId} {q0 q1 : Nat} {x0 x1 : Operand} {u0 u1 r : Value} (ho : o.op = .build T #[(q0, x0), (q1, x1)]) (h0 : a.eval x0 = u0) (h1 : a.eval x1 = u1) (h : (Instr.build T #[(q0, u0), (q1, u1)]).run P w = .ok r w) : (execOp a.eval o).run P w = .ok (.value r) w := bP ho (by simp only [List.map_toArray, List.map_cons, List.map_nil, h0, h1]) h
theorem Bf {T : TypeId} {n : Nat} {q0 q1 : Nat} {x0 x1 : Operand} {u0 u1 : Value} {b : Obj} (ho : o.op = .buildSlice T n #[(q0, x0), (q1, x1)]) (h0 : a.eval x0 = u0) (h1 : a.eval x1 = u1) (h : (Instr.buildSlice T n #[(q0, u0), (q1, u1)]).run P w = .ok (.slice (some ⟨w.heap.size, 0, none⟩) n n) (w.alloc b)) : (execOp a.eval o).run P w = .ok (.value (.slice (some ⟨w.heap.size, 0, none⟩) n n)) (w.alloc b) := bU ho (by simp only [List.map_toArray, List.map_cons, List.map_nil, h0, h1]) h
theorem CH {T : TypeId} {n : Nat} {q0 q1 q2 : Nat} {x0 x1 x2 : Operand} {u0 u1 u2 : Value} {b : Obj} (ho : o.op = .buildSlice T n #[(q0, x0), (q1, x1), (q2, x2)]) (h0 : a.eval x0 = u0) (h1 : a.eval x1 = u1) (h2 : a.eval x2 = u2) (h : (Instr.buildSlice T n #[(q0, u0), (q1, u1), (q2, u2)]).run P w = .ok (.slice (some ⟨w.heap.size, 0, none⟩) n n) (w.alloc b)) : (execOp a.eval o).run P w = .ok (.value (.slice (some ⟨w.heap.size, 0, none⟩) n n)) (w.alloc b) := bU ho (by simp only [List.map_toArray, List.map_cons, List.map_nil, h0, h1, h2]) h
theorem xb4 {T : TypeId} {q0 q1 q2 q3 : Nat} {x0 x1 x2 x3 : Operand} {u0 u1 u2 u3 r : Value} (ho : o.op = .build T #[(q0, x0), (q1, x1), (q2, x2), (q3, x3)]) (h0 : a.eval x0 = u0) (h1 : a.eval x1 = u1) (h2 : a.eval x2 = u2) (h3 : a.eval x3 = u3) (h : (Instr.build T #[(q0, u0), (q1, u1), (q2, u2), (q3, u3)]).run P w = .ok r w) : (execOp a.eval o).run P w = .ok (.value r) w := bP ho (by simp only [List.map_toArray, List.map_cons, List.map_nil, h0, h1, h2, h3]) h
end
end

section
open Go.RowKit Lv
set_option maxRecDepth 100000
def cw (L : List (Ar × Value)) : Obj := .cells (L.map Cs).flatten.toArray 39 (0, 0)
theorem bh {w : World} {g : Nat} {L : List (Ar × Value)} (h : w.heap[g]? = some (cw L)) (hc : ∀ p ∈ L, CellsAt w p.2 p.1.l) : ArgsAt w (some ⟨g, 0, none⟩) (L.map Prod.fst) :=
  ⟨L, rfl, RowK.box (t := 39) (cs := (L.map Cs).flatten.toArray) h fM (List.take_of_length_le (Nat.le_of_eq (iY fM L))), hc⟩
def ji (l : List Ar) : Prop := l.length ≤ 20 ∧ ∀ a ∈ l, bI a ∧ a.l.length ≤ 900
theorem qE {l : List Ar} (h : ji l) : (aF l).length ≤ 1000000 := by
  have h1 := lf (n := 900) (fun a ha => (h.2 a ha).2); have h2 : l.length * 901 ≤ 20 * 901 := Nat.mul_le_mul_right _ h.1
  omega
theorem wW (fn : Nat) (A : Option Addr) (cap : Nat) (l : List Ar) (w : World) (mx : Int) (HM : Mx w mx) (hr : ArgsAt w A l) (h : ji l) (hcap : l.length ≤ cap) :
    Calls Tryz.prog 11 #[.int .u8 fn, .slice A l.length cap] w fun e w' => e = .returned (.tuple #[al (bd fn l).1, .int .i64 (bd fn l).2]) ∧ Kept w w' :=
  wV fn A cap l w mx HM hr (fun a ha => (h.2 a ha).1) (Nat.le_trans h.1 (by decide)) (fun a ha => Nat.le_trans (h.2 a ha).2 (by decide)) (qE h) hcap
theorem yW (x : Vl) (c : Int) (fn : Nat) (A : Option Addr) (cap : Nat) (l : List Ar) (w : World) (mx : Int) (HM : Mx w mx) (hr : ArgsAt w A l) (h : ji l) (hcap : l.length ≤ cap) (hx : bd fn l = (x, c)) :
    Calls Tryz.prog 11 #[.int .u8 fn, .slice A l.length cap] w fun e w' => e = .returned (.tuple #[al x, .int .i64 c]) ∧ Kept w w' := by
  have h := wW fn A cap l w mx HM hr h hcap; rw [hx] at h; exact h
theorem wX (A : Option Addr) (cap : Nat) (l : List Ar) (w : World) (mx : Int) (HM : Mx w mx) (hr : ArgsAt w A l) (h : ji l) :
    Calls Tryz.prog 21 #[.slice A l.length cap] w fun e w' => ko w l e w' :=
  nl A cap l w mx HM hr (fun a ha => (h.2 a ha).1) (Nat.le_trans h.1 (by decide)) (fun a ha => Nat.le_trans (h.2 a ha).2 (by decide)) (qE h)
def se (v : Vl) : Bool := decide (-9223372036854775808 ≤ v.n ∧ v.n ≤ 9223372036854775807 ∧ v.t.length ≤ 2000)
theorem sf {v : Vl} (h : se v = true) : Small v := by
  unfold se at h; rw [decide_eq_true_eq] at h; exact ⟨⟨h.1, h.2.1⟩, h.2.2⟩
def CI (l : List Ar) : Bool := decide (l.length ≤ 20) && l.all (fun a => se a.v && a.l.all (fun c => se c.v) && decide (a.l.length ≤ 900))
theorem cE {l : List Ar} (h : CI l = true) : ji l := by
  unfold CI at h; rw [Bool.and_eq_true, decide_eq_true_eq] at h; refine ⟨h.1, fun a ha => ?_⟩; have h1 := List.all_eq_true.1 h.2 a ha; rw [Bool.and_eq_true, Bool.and_eq_true, decide_eq_true_eq] at h1; exact ⟨⟨sf h1.1.1, fun c hc => sf (List.all_eq_true.1 h1.1.2 c hc)⟩, h1.2⟩
theorem CJ {l : List Ar} (h1 : l.length ≤ 20) (h2 : ∀ a ∈ l, br a = true) (hi : ∀ a ∈ l, AL a) (h3 : ∀ a ∈ l, a.l.length ≤ 900) : ji l := ⟨h1, fun a ha => ⟨AN (h2 a ha) (hi a ha), h3 a ha⟩⟩
end

namespace Lv
open Go
abbrev aI : List Cl := [⟨1, 1, ⟨1, 30000, []⟩⟩, ⟨2, 1, ⟨3, 0, [120]⟩⟩, ⟨2, 2, ⟨1, 15000, []⟩⟩]
abbrev aEx : Ar := ⟨true, ⟨0, 0, []⟩, ⟨1, 1, 2, 2⟩, aI⟩
abbrev sh : Ar := ⟨true, ⟨0, 0, []⟩, ⟨1, 1, 1, 1⟩, []⟩
abbrev gC (v : Vl) : Ar := ⟨false, v, ⟨0, 0, 0, 0⟩, []⟩
theorem Bg : aV [30000, 15000, 90000] = [15000, 30000, 90000] := vP (List.Perm.swap _ _ _) (by unfold BK; decide)
theorem Bh : aV [30000, 15000] = [15000, 30000] := vP (List.Perm.swap _ _ _) (by unfold BK; decide)
theorem CL : bd 9 [aEx, gC ⟨3, 0, [50]⟩, gC ⟨2, 1, []⟩] = ((⟨1, 75000, []⟩ : Vl), 0) := by kernel_rfl
theorem CN : bd 11 [aEx, gC ⟨3, 0, [50]⟩, gC ⟨1, 70000, []⟩] = ((⟨1, 30000, []⟩ : Vl), 0) := by kernel_rfl
theorem CO : bd 12 [aEx] = ((⟨1, 30000, []⟩ : Vl), 0) := by kernel_rfl
theorem CP : bd 13 [aEx] = ((⟨1, 10000, []⟩ : Vl), 0) := by kernel_rfl
theorem CQ : bd 14 [aEx] = ((⟨1, 22500, []⟩ : Vl), 0) := by kernel_rfl
theorem CR : bd 17 [aEx, gC ⟨1, 90000, []⟩] = ((⟨1, 30000, []⟩ : Vl), 0) := by
  have h : bd 17 [aEx, gC ⟨1, 90000, []⟩] = (aK ((aV [30000, 15000, 90000]).getD 1 0), 0) := by kernel_rfl
  rw [h, Bg]
  rfl
theorem CS : bd 18 [aEx, gC ⟨1, 20000, []⟩] = ((⟨1, 15000, []⟩ : Vl), 0) := by
  have h : bd 18 [aEx, gC ⟨1, 20000, []⟩] = (aK ((aV [30000, 15000]).reverse.getD 1 0), 0) := by kernel_rfl
  rw [h, Bh]
  rfl
theorem CT : bd 19 [aEx, gC ⟨1, 30000, []⟩] = ((⟨4, 3, []⟩ : Vl), 0) := by kernel_rfl
theorem CU : bd 15 [sh] = ((⟨1, 0, []⟩ : Vl), 0) := by kernel_rfl
theorem CW : bd 48 [sh] = ((⟨4, 1, []⟩ : Vl), 0) := by kernel_rfl
theorem Bi : bd 17 [sh] = ((⟨4, 3, []⟩ : Vl), 0) := by kernel_rfl
theorem Bj : bd 10 [sh] = ((⟨1, 0, []⟩ : Vl), 0) := by kernel_rfl
theorem Bk : bd 43 [aEx, gC ⟨1, 20000, []⟩] = ((⟨3, 0, [120]⟩ : Vl), 0) := by kernel_rfl
theorem Bl : bd 43 [aEx, gC ⟨1, 20000, []⟩, gC ⟨1, 10000, []⟩] = ((⟨0, 0, []⟩ : Vl), 0) := by kernel_rfl
theorem Bm : bd 43 [aEx, gC ⟨1, 30000, []⟩, gC ⟨1, 10000, []⟩] = ((⟨4, 5, []⟩ : Vl), 0) := by kernel_rfl
theorem Bn : bd 44 [gC ⟨3, 0, [88]⟩, aEx] = ((⟨1, 20000, []⟩ : Vl), 0) := by kernel_rfl
theorem Bo : bd 44 [gC ⟨0, 0, []⟩, aEx] = ((⟨1, 30000, []⟩ : Vl), 0) := by kernel_rfl
theorem Bp : bd 45 [aEx, gC ⟨1, 30000, []⟩] = ((⟨1, 10000, []⟩ : Vl), 0) := by kernel_rfl
theorem Bq : bd 46 [aEx] = ((⟨1, 45000, []⟩ : Vl), 0) := by kernel_rfl
end Lv
