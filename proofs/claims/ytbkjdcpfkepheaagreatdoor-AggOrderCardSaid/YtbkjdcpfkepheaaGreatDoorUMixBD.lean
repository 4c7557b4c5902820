/- Small texts together: GAgg11, GObj16, MAgg9. -/
import Derived.Test.YtbkjdcpfkepheaaGreatDoorUGAgg10
import Derived.Test.YtbkjdcpfkepheaaGreatDoorUGRow16
import Derived.Test.YtbkjdcpfkepheaaGreatDoorUMixAV
import Derived.ProofKit
set_option linter.unusedVariables false
set_option linter.unusedSimpArgs false
namespace Go.Proofs.YtbkjdcpfkepheaaGreatDoor
open Go.RowKit Lv
set_option maxRecDepth 100000
theorem ret_pair16 {v : Vl} {c : Int} {r : Vl × Int} (h : r = (v, c)) : Ending.returned (.tuple #[aggV v, .int .i64 c]) = .returned (.tuple #[aggV r.1, .int .i64 r.2]) := by rw [h]
theorem own_le {fn : Nat} (h : own16 fn = true) : (9 ≤ fn ∧ fn ≤ 19) ∨ (43 ≤ fn ∧ fn ≤ 50) := by
  unfold own16 at h
  rwa [decide_eq_true_eq] at h
theorem ar16_lo {fn : Nat} (h : own16 fn = true) : (ar16 fn).1 = (lo16 fn : Nat) ∧ (ar16 fn).2.1 = (hi16 fn : Nat) := by
  have := own_le h; unfold ar16 lo16 hi16
  (repeat' split) <;> constructor <;> first | rfl | omega
theorem ar16_wide {fn i : Nat} (h : own16 fn = true) : area16At fn i = true ↔ ¬ ((0 : Int) ≤ (ar16 fn).2.2 ∧ (i : Int) ≠ (ar16 fn).2.2) := by
  have := own_le h; unfold area16At ar16
  (repeat' split) <;> (try simp only [decide_eq_true_eq]) <;> first | omega | exact ⟨fun _ h => by omega, fun _ => by trivial⟩
theorem c16_name {fn : Nat} {l : List Ar} (h : own16 fn = false) : vCall16 fn l = (blankV, 10) := by unfold vCall16; rw [if_pos h]
theorem c16_count {fn : Nat} {l : List Ar} (h : own16 fn = true) (c : (((l.length : Nat) : Int) < ((ar16 fn).1 : Int)) ∨ (((ar16 fn).2.1 : Int) < ((l.length : Nat) : Int))) : vCall16 fn l = (blankV, 11) := by
  obtain ⟨e1, e2⟩ := ar16_lo h; unfold vCall16; rw [if_neg (by rw [h]; decide), if_pos (by omega)]
theorem c16_fits {fn : Nat} {l : List Ar} (h : own16 fn = true) (c : ¬ ((((l.length : Nat) : Int) < ((ar16 fn).1 : Int)) ∨ (((ar16 fn).2.1 : Int) < ((l.length : Nat) : Int)))) : vCall16 fn l = if fits16All fn 0 l = false then (blankV, 2) else (val16 fn l, 0) := by
  obtain ⟨e1, e2⟩ := ar16_lo h; unfold vCall16; rw [if_neg (by rw [h]; decide), if_neg (by omega)]
theorem c16_arg {fn : Nat} {l : List Ar} (h : own16 fn = true) (c : ¬ ((((l.length : Nat) : Int) < ((ar16 fn).1 : Int)) ∨ (((ar16 fn).2.1 : Int) < ((l.length : Nat) : Int)))) (f : fits16All fn 0 l = false) : vCall16 fn l = (blankV, 2) := by rw [c16_fits h c, if_pos f]
theorem c16_val {fn : Nat} {l : List Ar} (h : own16 fn = true) (c : ¬ ((((l.length : Nat) : Int) < ((ar16 fn).1 : Int)) ∨ (((ar16 fn).2.1 : Int) < ((l.length : Nat) : Int)))) (f : fits16All fn 0 l = true) : vCall16 fn l = (val16 fn l, 0) := by rw [c16_fits h c, if_neg (by rw [f]; decide)]
abbrev NoFit (fn k : Nat) (a : Ar) : Prop := ((¬ ((okArg a) = true)) ∨ (((a.w = true) ∧ ((0 : Int) ≤ ((ar16 fn).2.2 : Int))) ∧ ((k : Int) ≠ ((ar16 fn).2.2 : Int)))) ∨ (((46 : Int) ≤ (fn : Int)) ∧ (¬ (a.w = true)))
theorem fits_iff {fn k : Nat} {a : Ar} (h : own16 fn = true) : fits16 fn k a = true ↔ ¬ NoFit fn k a := by
  have e := ar16_wide (i := k) h; unfold fits16 NoFit
  cases okArg a <;> cases a.w <;> cases hq : area16At fn k <;> rw [hq] at e <;> simp at e ⊢ <;> omega
theorem fits_bad {fn k : Nat} {l : List Ar} {a : Ar} (h : own16 fn = true) (ha : l[k]? = some a) (c : NoFit fn k a) : fits16All fn k (l.drop k) = false := by
  rw [drop_at ha, fits16All]
  cases e : fits16 fn k a with
  | true => exact absurd c ((fits_iff h).1 e)
  | false => rfl
theorem fits_on {fn k : Nat} {l : List Ar} {a : Ar} (h : own16 fn = true) (ha : l[k]? = some a) (c : ¬ NoFit fn k a) : fits16All fn k (l.drop k) = fits16All fn (k + 1) (l.drop (k + 1)) := by
  rw [drop_at ha, fits16All, (fits_iff h).2 c, Bool.true_and]
theorem fits_end {fn k : Nat} {l : List Ar} (h : l.length ≤ k) : fits16All fn k (l.drop k) = true := by
  rw [List.drop_eq_nil_of_le h]
  rfl
theorem fits_ok {fn k : Nat} {a : Ar} {l : List Ar} (h : fits16All fn k (a :: l) = true) : okArg a = true ∧ fits16All fn (k + 1) l = true := by
  rw [fits16All, Bool.and_eq_true] at h; refine ⟨?_, h.2⟩; have := h.1; unfold fits16 at this
  simp only [Bool.and_eq_true] at this
  exact this.1.1
theorem len2 {l : List Ar} (h : l.length = 2) : ∃ a b, l = [a, b] := by
  match l, h with
  | [a, b], _ => exact ⟨a, b, rfl⟩
theorem len3 {l : List Ar} (h : l.length = 3) : ∃ a b c, l = [a, b, c] := by
  match l, h with
  | [a, b, c], _ => exact ⟨a, b, c, rfl⟩
theorem avalue_any (fn : Nat) (A : Option Addr) (cap : Nat) (l : List Ar) (w : World) (mx : Int) (HM : Mx w mx) (hr : ArgsAt w A l) (hs : ∀ a ∈ l, SmallAr a) (hl : l.length ≤ 1000) (hla : ∀ a ∈ l, a.l.length ≤ 900000) (hn : (seq16 l).length ≤ 1000000) (hcap : l.length ≤ cap) (hown : own16 fn = true) (hcn : ¬ ((((l.length : Nat) : Int) < ((ar16 fn).1 : Int)) ∨ (((ar16 fn).2.1 : Int) < ((l.length : Nat) : Int)))) (hfit : fits16All fn 0 l = true) :
    Calls Tryz.prog 33 #[.int .u8 fn, .slice A l.length cap] w fun e w' => e = .returned (aggV (val16 fn l)) ∧ Kept w w' := by
  obtain ⟨r1, r2⟩ := ar16_lo hown
  by_cases hf : isFold16 fn = true
  · exact avalue_fold fn hf A cap l w mx HM hr hs hl hla hn
  · have hno : ¬ (fn = 9 ∨ fn = 10 ∨ fn = 14 ∨ fn = 15 ∨ fn = 16 ∨ fn = 17 ∨ fn = 46 ∨ fn = 48 ∨ fn = 49 ∨ fn = 50) := fun c => hf (by unfold isFold16; exact decide_eq_true c)
    have ho := own_le hown; have hc : fn = 11 ∨ fn = 12 ∨ fn = 13 ∨ fn = 47 ∨ fn = 18 ∨ fn = 19 ∨ fn = 44 ∨ fn = 45 ∨ fn = 43 := by omega
    rcases hc with rfl | rfl | rfl | rfl | rfl | rfl | rfl | rfl | rfl
    · exact avalue_11 A cap l w hr hl hla
    · exact avalue_12 A cap l w hr hl hla
    · exact avalue_13 A cap l w hr hl hla
    · exact avalue_47 A cap l w hr hl hla
    all_goals first
      | (have e2 : l.length = 2 := by (rw [r1, r2] at hcn; simp only [lo16, hi16] at hcn; simp at hcn; omega)
         obtain ⟨a, b, rfl⟩ := len2 e2; obtain ⟨oa, f1⟩ := fits_ok hfit; obtain ⟨ob, _⟩ := fits_ok f1; have sa := hs a (by simp); have sb := hs b (by simp); have la := hla a (by simp); have lb := hla b (by simp)
         first
           | exact avalue_18 A cap a b w mx HM hr sa sb la lb hcap oa ob
           | exact avalue_19 A cap a b w mx HM hr sa sb la lb hcap oa ob
           | exact avalue_44 A cap a b w mx HM hr sa sb la lb hcap oa ob
           | exact avalue_45 A cap a b w mx HM hr sa sb la lb hcap oa ob)
      | skip
    have e23 : l.length = 2 ∨ l.length = 3 := by (rw [r1, r2] at hcn; simp only [lo16, hi16] at hcn; simp at hcn; omega)
    rcases e23 with e2 | e3
    · obtain ⟨a, b, rfl⟩ := len2 e2
      obtain ⟨oa, f1⟩ := fits_ok hfit; obtain ⟨ob, _⟩ := fits_ok f1; exact avalue_43a A cap a b w mx HM hr (hs a (by simp)) (hs b (by simp)) (hla a (by simp)) (hla b (by simp)) hcap oa ob
    · obtain ⟨a, b, c, rfl⟩ := len3 e3
      obtain ⟨oa, f1⟩ := fits_ok hfit; exact avalue_43b A cap a b c w mx HM hr (hs a (by simp)) (hs b (by simp)) (hs c (by simp)) (hla a (by simp)) oa
theorem en_agg_arity : En 31 := by intro args w; go_simp
theorem en_agg_function : En 30 := by intro args w; go_simp
theorem en_agg_value : En 33 := by intro args w; go_simp
set_option maxHeartbeats 4000000 in
theorem acall_any (fn : Nat) (A : Option Addr) (cap : Nat) (l : List Ar) (w : World) (mx : Int) (HM : Mx w mx) (hr : ArgsAt w A l) (hs : ∀ a ∈ l, SmallAr a) (hl : l.length ≤ 1000) (hla : ∀ a ∈ l, a.l.length ≤ 900000) (hn : (seq16 l).length ≤ 1000000) (hcap : l.length ≤ cap) :
    Calls Tryz.prog 11 #[.int .u8 fn, .slice A l.length cap] w fun e w' => e = .returned (.tuple #[aggV (vCall16 fn l).1, .int .i64 (vCall16 fn l).2]) ∧ Kept w w' := by
  have hll : l.length ≤ 1000000 := by omega
  have hla1 : ∀ a ∈ l, a.l.length ≤ 1000000 := fun a ha => Nat.le_trans (hla a ha) (by decide); go_enter Tryz.func11, Tryz.ntmps11; refine sq fun hK1 => ?_
  refine ro [yNew w.heap.size (.cells #[.int .u8 0, .int .i64 0, .string ⟨[].toArray⟩] 25 (0, 0)), yV _] 2 69 rfl rfl (Own.start w) (
    aP (fun hk bs hd => xalloc rfl (by kernel_rfl)) rfl <|
    aS (fun hk bs hd => xassign rfl rfl) rfl <|
    arm0) fun fa fw bs hv ap z q ov => ?_
  have s0 := bs.get 0 rfl rfl; have s1 := bs.get 1 rfl rfl; obtain ⟨gb1, s4, bgb1, hgb1⟩ := gotP hv 0 rfl rfl rfl; have ov := ov.cons hgb1 (Nat.le_trans (Own.start w).kept.size bgb1) ((Own.start w).below bgb1); have s5 := gv hv 1 rfl rfl; have ow := ov; refine wt hK1 ?_; refine sq fun hK2 => ?_; refine sq fun hK3 => ?_
  refine ro [yV _, yV (.bool (own16 fn)), yV _] 3 69 z q ow (
    mvS s0 rfl rfl rfl rfl <|
    aC (fun hk bs hd => xcall1 rfl (dp hd 0 rfl) (en_agg_function _ _)) (fun hk bs hd => afunction_any fn _) rfl <|
    aS (fun hk bs hd => xnot rfl (dp hd 1 rfl)) rfl <|
    arm0) fun fa fw bs hv ap z q ow => ?_
  obtain ⟨s0, s1, s4, s5⟩ := b4 bs s0 s1 s4 s5; have s13 := gv hv 2 rfl rfl; refine wt hK3 ?_
  by_cases hc1 : ¬ ((own16 fn) = true)
  ·refine ct s13 ((bnot (Iff.rfl)).2 hc1) ?_
   have hown : own16 fn = false := by simpa using hc1
   refine sq fun hK4 => ?_
   refine ro [yV (aggV (⟨0, 0, []⟩ : Vl))] 1 69 z q ow (
     aS (fun hk bs hd => xbuild (us := #[]) rfl (by simp) (by kernel_rfl)) rfl <|
     arm0) fun fa fw bs hv ap z q ow => ?_
   obtain ⟨s0, s1, s4, s5⟩ := b4 bs s0 s1 s4 s5; have s14 := gv hv 0 rfl rfl; refine ws ow 0 0 s4 s14 fun fw ow => ?_; refine wl_value (v := .int .i64 10) (want0 rfl) (xassign rfl rfl) ?_; refine gp3 z q ow s0 s1 s4 fun fa fw z q ow s0 s1 s4 s5 => ?_; refine wt hK4 ?_; refine wp_ret ?_; refine then_r ?_; refine resultsL (v := .tuple #[aggV (⟨0, 0, []⟩ : Vl), .int .i64 10]) rfl (.cons (res_cell (n := 3) _ s4 (by kernel_rfl) (by kernel_rfl) (ow.box 0 rfl) (Nat.le_of_ble_eq_true rfl) rfl) (.cons (res_tmp s5) .nil)) rfl q ?_; exact ⟨ret_pair16 (c16_name hown), ow.kept⟩
  refine cf s13 (bnot (Iff.rfl)) hc1 ?_; have hown : own16 fn = true := by simpa using hc1
  refine wp_skip ?_; refine tn hK2 ?_; refine sq fun hK5 => ?_
  refine ro [yV _, yV (.tuple #[.int .i64 ((ar16 fn).1), .int .i64 ((ar16 fn).2.1), .int .i64 ((ar16 fn).2.2)]), yV _, yV _, yV _, yV _, yV _, yV _, yV _] 9 69 z q ow (
    mvS s0 rfl rfl rfl rfl <|
    aC (fun hk bs hd => xcall1 rfl (dp hd 0 rfl) (en_agg_arity _ _)) (fun hk bs hd => aarity_any fn _) rfl <|
    mvD 1 rfl rfl rfl rfl rfl rfl <|
    aS (fun hk bs hd => xextract rfl (dp hd 2 rfl) rfl) rfl <|
    aS (fun hk bs hd => xextract rfl (dp hd 2 rfl) rfl) rfl <|
    aS (fun hk bs hd => xextract rfl (dp hd 2 rfl) rfl) rfl <|
    asD 3 rfl rfl rfl rfl rfl rfl <|
    asD 4 rfl rfl rfl rfl rfl rfl <|
    asD 5 rfl rfl rfl rfl rfl rfl <|
    arm0) fun fa fw bs hv ap z q ow => ?_
  obtain ⟨s0, s1, s4, s5⟩ := b4 bs s0 s1 s4 s5; have s6 := gv hv 6 rfl rfl; have s7 := gv hv 7 rfl rfl; have s8 := gv hv 8 rfl rfl; refine wt hK5 ?_; refine sq fun hK6 => ?_; refine sq fun hK7 => ?_
  refine ro [yV _, yV _, yV _, yV _, yV _, yIf _ (yV _), yIf _ (yV _), yIf _ (yV _), yIf _ (yV _), yV _] 10 69 z q ow (
    mvS s1 rfl rfl rfl rfl <|
    aS (fun hk bs hd => xlen Tryz.underlying22 rfl (dp hd 0 rfl)) rfl <|
    mvS s6 rfl rfl rfl rfl <|
    aS (fun hk bs hd => xlss rfl (dp hd 1 rfl) (dp hd 2 rfl)) rfl <|
    mvD 3 rfl rfl rfl rfl rfl rfl <|
    ai (g1 4 rfl rfl) (fun hk bs hd hz => xmove rfl (bg bs s1)) rfl <|
    ai (g1 4 rfl rfl) (fun hk bs hd hz => xlen Tryz.underlying22 rfl (di hd 5 rfl hz)) rfl <|
    ai (g1 4 rfl rfl) (fun hk bs hd hz => xmove rfl (bg bs s7)) rfl <|
    ai (g1 4 rfl rfl) (fun hk bs hd hz => xgtr rfl (di hd 6 rfl hz) (di hd 7 rfl hz)) rfl <|
    aS (fun hk bs hd => xor_ rfl (dp hd 4 rfl) rfl (fun hb => di hd 8 rfl hb)) rfl <|
    arm0) fun fa fw bs hv ap z q ow => ?_
  obtain ⟨s0, s1, s4, s5, s8⟩ := b5 bs s0 s1 s4 s5 s8; have s30 := gv hv 9 rfl rfl; refine wt hK7 ?_
  by_cases hc2 : (((l.length : Nat) : Int) < ((ar16 fn).1 : Int)) ∨ (((ar16 fn).2.1 : Int) < ((l.length : Nat) : Int))
  ·refine ct s30 ((bor (decide_eq_true_iff) (decide_eq_true_iff)).2 hc2) ?_
   have hcnt := hc2; refine sq fun hK8 => ?_
   refine ro [yV (aggV (⟨0, 0, []⟩ : Vl))] 1 69 z q ow (
     aS (fun hk bs hd => xbuild (us := #[]) rfl (by simp) (by kernel_rfl)) rfl <|
     arm0) fun fa fw bs hv ap z q ow => ?_
   obtain ⟨s0, s1, s4, s5, s8⟩ := b5 bs s0 s1 s4 s5 s8; have s31 := gv hv 0 rfl rfl; refine ws ow 0 0 s4 s31 fun fw ow => ?_; refine wl_value (v := .int .i64 11) (want0 rfl) (xassign rfl rfl) ?_; refine gp4 z q ow s0 s1 s4 s8 fun fa fw z q ow s0 s1 s4 s8 s5 => ?_; refine wt hK8 ?_; refine wp_ret ?_; refine then_r ?_; refine resultsL (v := .tuple #[aggV (⟨0, 0, []⟩ : Vl), .int .i64 11]) rfl (.cons (res_cell (n := 3) _ s4 (by kernel_rfl) (by kernel_rfl) (ow.box 0 rfl) (Nat.le_of_ble_eq_true rfl) rfl) (.cons (res_tmp s5) .nil)) rfl q ?_; exact ⟨ret_pair16 (c16_count hown hcnt), ow.kept⟩
  refine cf s30 (bor (decide_eq_true_iff) (decide_eq_true_iff)) hc2 ?_; have hcn := hc2; refine wp_skip ?_; refine tn hK6 ?_; refine sq fun hK9 => ?_; refine sq fun hK10 => ?_
  refine ro [yV _, yV _, yV _] 3 69 z q ow (
    mvS s1 rfl rfl rfl rfl <|
    aS (fun hk bs hd => xlen Tryz.underlying22 rfl (dp hd 0 rfl)) rfl <|
    aS (fun hk bs hd => xmove rfl rfl) rfl <|
    arm0) fun fa fw bs hv ap z q ow => ?_
  obtain ⟨s0, s1, s4, s5, s8⟩ := b5 bs s0 s1 s4 s5 s8; have s32 := gv hv 0 rfl rfl; have s33 := gv hv 1 rfl rfl; have s34 := gv hv 2 rfl rfl; refine wt hK10 ?_; refine wp_block ?_; refine wp_loop_g (fun (k : Nat) fr u => (k ≤ l.length) ∧ (fits16All fn 0 l = fits16All fn k (l.drop k)) ∧ fr.tmps.size = 69 ∧ fr.defers = [] ∧ Own w [Th.obj gb1 (.cells #[.int .u8 0, .int .i64 0, .string ⟨[].toArray⟩] 25 (0, 0))] u ∧ fr.eval (.tmp 0) = .int .u8 (fn : Int) ∧ fr.eval (.tmp 1) = .slice A l.length cap ∧ fr.eval (.tmp 4) = .pointer (some ⟨gb1, 0, none⟩) ∧ fr.eval (.tmp 5) = .int .i64 0 ∧ fr.eval (.tmp 8) = .int .i64 ((ar16 fn).2.2) ∧ fr.eval (.tmp 32) = .slice A l.length cap ∧ fr.eval (.tmp 33) = .int .i64 ((l.length : Nat) : Int) ∧ fr.eval (.tmp 34) = .int .i64 (k : Int)) (fun k => l.length - k) 0 ⟨(Nat.zero_le _), rfl, z, q, ow, s0, s1, s4, s5, s8, s32, s33, s34⟩ (fun k b_ u_ hI => ?_)
  revert b_ u_; intro fa fw hI
  obtain ⟨hk0, hfa, z, q, ow, s0, s1, s4, s5, s8, s32, s33, s34⟩ := hI; refine sq fun hK11 => ?_
  refine ro [yV _] 1 69 z q ow (
    aS (fun hk bs hd => xlss rfl (bg bs s34) (bg bs s33)) rfl <|
    arm0) fun fa fw bs hv ap z q ow => ?_
  obtain ⟨s0, s1, s4, s5, s8, s32, s33, s34⟩ := b8 bs s0 s1 s4 s5 s8 s32 s33 s34; have s35 := gv hv 0 rfl rfl; refine wt hK11 ?_; refine sq fun hK12 => ?_
  by_cases hc3 : (k : Int) < ((l.length : Nat) : Int)
  ·refine ct s35 ((decide_eq_true_iff).2 hc3) ?_
   refine wp_skip ?_; refine tn hK12 ?_; refine sq fun hK13 => ?_; refine wp_block ?_; refine sq fun hK14 => ?_; have hltk : k < l.length := by omega
   obtain ⟨a, ha⟩ := at_some hltk; obtain ⟨ba, oa, A1, c1, Aa, ea, r1, l1⟩ := hr.elem ha; have hva := (hs a (List.mem_of_getElem? ha)).1; have hca := (hs a (List.mem_of_getElem? ha)).2; have hal := hla1 a (List.mem_of_getElem? ha)
   refine ro [yV _, yV _, yV (.agg #[.bool a.w, .int .u8 a.v.k, .int .i64 a.v.n, .string ⟨a.v.t.toArray⟩, .int .i64 a.x.c1, .int .i64 a.x.r1, .int .i64 a.x.c2, .int .i64 a.x.r2, .slice A1 a.l.length c1]), yNew fw.heap.size (.cells #[.bool false, .int .u8 0, .int .i64 0, .string ⟨[].toArray⟩, .int .i64 0, .int .i64 0, .int .i64 0, .int .i64 0, .slice none 0 0] 39 (0, 0)), yV _] 5 69 z q ow (
     mvS s34 rfl rfl rfl rfl <|
     aS (fun hk bs hd => xplaceK 9 Tryz.underlying22 (by kernel_rfl) rfl Aa (bg bs s32) (bg bs s34) hltk) rfl <|
     aS (fun hk bs hd => xpartK (n := 9) 0 rfl (by kernel_rfl) (by kernel_rfl) (dp hd 1 rfl) rfl (ea.kept (ow.keep hk).kept)) rfl <|
     aP (fun hk bs hd => xalloc rfl (by kernel_rfl)) rfl <|
     asD 0 rfl rfl rfl rfl rfl rfl <|
     arm0) fun fa fw bs hv ap z q ov => ?_
   obtain ⟨s0, s1, s4, s5, s8, s32, s33, s34⟩ := b8 bs s0 s1 s4 s5 s8 s32 s33 s34; have s38 := gv hv 2 rfl rfl; obtain ⟨gb2, s10, bgb2, hgb2⟩ := gotP hv 3 rfl rfl rfl; have ov := ov.cons hgb2 (Nat.le_trans ow.kept.size bgb2) (ow.below bgb2); have s9 := gv hv 4 rfl rfl; have ow := ov; refine ws ow 0 0 s10 s38 fun fw ow => ?_; refine wt hK14 ?_; refine sq fun hK15 => ?_
   refine ro [yV (.agg #[.bool a.w, .int .u8 a.v.k, .int .i64 a.v.n, .string ⟨a.v.t.toArray⟩, .int .i64 a.x.c1, .int .i64 a.x.r1, .int .i64 a.x.c2, .int .i64 a.x.r2, .slice A1 a.l.length c1]), yV (.bool (okArg a)), yV _, yV _, yIf _ (yV (.pointer (some ⟨gb2, 0, none⟩))), yIf _ (yV _), yIf _ (yV _), yIf _ (yV _), yIf _ (yV _), yIf _ (yV _), yIf _ (yV _), yIf _ (yV _), yIf _ (yV _), yIf _ (yV _), yIf _ (yV _), yV _, yV _, yIf _ (yV _), yIf _ (yV _), yIf _ (yV _), yIf _ (yV (.pointer (some ⟨gb2, 0, none⟩))), yIf _ (yV _), yIf _ (yV _), yIf _ (yV _), yV _] 25 69 z q ow (
     aS (fun hk bs hd => xloadN 9 rfl (by kernel_rfl) (by kernel_rfl) (bg bs s10) ((ow.keep hk).box 0 rfl) (Nat.le_of_ble_eq_true rfl) rfl) rfl <|
     aC (fun hk bs hd => xcall1 rfl (dp hd 0 rfl) (en_agg_valid _ _)) (fun hk bs hd => avalid16_any a _ _ _ (r1.kept (ow.keep hk).kept) hal hva hca) rfl <|
     aS (fun hk bs hd => xnot rfl (dp hd 1 rfl)) rfl <|
     mvD 2 rfl rfl rfl rfl rfl rfl <|
     ai (g1 3 rfl rfl) (fun hk bs hd hz => xfieldAddr rfl (bg bs s10) (by kernel_rfl)) rfl <|
     ai (g1 3 rfl rfl) (fun hk bs hd hz => xloadB rfl (by kernel_rfl) (di hd 4 rfl hz) ((ow.keep hk).box 0 rfl) rfl) rfl <|
     ai (g1 3 rfl rfl) (fun hk bs hd hz => xmove rfl (di hd 5 rfl hz)) rfl <|
     ai (g2 6 rfl rfl) (fun hk bs hd hz => xmove rfl (bg bs s8)) rfl <|
     ai (g2 6 rfl rfl) (fun hk bs hd hz => xgeq rfl (di hd 7 rfl hz) rfl) rfl <|
     ai (g1 3 rfl rfl) (fun hk bs hd hz => xand rfl (di hd 6 rfl hz) (fun hb => di hd 8 rfl ⟨hz, hb⟩) rfl) rfl <|
     ai (g1 3 rfl rfl) (fun hk bs hd hz => xmove rfl (di hd 9 rfl hz)) rfl <|
     ai (g2 10 rfl rfl) (fun hk bs hd hz => xmove rfl (bg bs s9)) rfl <|
     ai (g2 10 rfl rfl) (fun hk bs hd hz => xmove rfl (bg bs s8)) rfl <|
     ai (g2 10 rfl rfl) (fun hk bs hd hz => xnei rfl (di hd 11 rfl hz) (di hd 12 rfl hz)) rfl <|
     ai (g1 3 rfl rfl) (fun hk bs hd hz => xand rfl (di hd 10 rfl hz) (fun hb => di hd 13 rfl ⟨hz, hb⟩) rfl) rfl <|
     aS (fun hk bs hd => xor_ rfl (dp hd 3 rfl) rfl (fun hb => di hd 14 rfl hb)) rfl <|
     mvD 15 rfl rfl rfl rfl rfl rfl <|
     ai (g1 16 rfl rfl) (fun hk bs hd hz => xmove rfl (bg bs s0)) rfl <|
     ai (g1 16 rfl rfl) (fun hk bs hd hz => xgeq rfl (di hd 17 rfl hz) rfl) rfl <|
     ai (g1 16 rfl rfl) (fun hk bs hd hz => xmove rfl (di hd 18 rfl hz)) rfl <|
     ai (g2 19 rfl rfl) (fun hk bs hd hz => xfieldAddr rfl (bg bs s10) (by kernel_rfl)) rfl <|
     ai (g2 19 rfl rfl) (fun hk bs hd hz => xloadB rfl (by kernel_rfl) (di hd 20 rfl hz) ((ow.keep hk).box 0 rfl) rfl) rfl <|
     ai (g2 19 rfl rfl) (fun hk bs hd hz => xnot rfl (di hd 21 rfl hz)) rfl <|
     ai (g1 16 rfl rfl) (fun hk bs hd hz => xand rfl (di hd 19 rfl hz) (fun hb => di hd 22 rfl ⟨hz, hb⟩) rfl) rfl <|
     aS (fun hk bs hd => xor_ rfl (dp hd 16 rfl) rfl (fun hb => di hd 23 rfl hb)) rfl <|
     arm0) fun fa fw bs hv ap z q ow => ?_
   obtain ⟨s0, s1, s4, s5, s8, s32, s33, s34⟩ := b8 bs s0 s1 s4 s5 s8 s32 s33 s34; have s63 := gv hv 24 rfl rfl; refine wt hK15 ?_
   by_cases hc4 : ((¬ ((okArg a) = true)) ∨ (((a.w = true) ∧ ((0 : Int) ≤ ((ar16 fn).2.2 : Int))) ∧ ((k : Int) ≠ ((ar16 fn).2.2 : Int)))) ∨ (((46 : Int) ≤ (fn : Int)) ∧ (¬ (a.w = true)))
   ·refine ct s63 ((bor (bor (bnot (Iff.rfl)) (band (band (Iff.rfl) (decide_eq_true_iff)) (decide_eq_true_iff))) (band (decide_eq_true_iff) (bnot (Iff.rfl)))).2 hc4) ?_
    have hft := hc4; refine sq fun hK16 => ?_
    refine ro [yV (aggV (⟨0, 0, []⟩ : Vl))] 1 69 z q ow (
      aS (fun hk bs hd => xbuild (us := #[]) rfl (by simp) (by kernel_rfl)) rfl <|
      arm0) fun fa fw bs hv ap z q ow => ?_
    obtain ⟨s0, s1, s4, s5, s8, s32, s33, s34⟩ := b8 bs s0 s1 s4 s5 s8 s32 s33 s34; have s64 := gv hv 0 rfl rfl; refine ws ow 1 0 s4 s64 fun fw ow => ?_; refine wl_value (v := .int .i64 2) (want0 rfl) (xassign rfl rfl) ?_; refine gp7 z q ow s0 s1 s4 s8 s32 s33 s34 fun fa fw z q ow s0 s1 s4 s8 s32 s33 s34 s5 => ?_; refine wt hK16 ?_; refine wp_ret ?_; refine block_r ?_; refine then_r ?_; refine then_r ?_; refine block_r ?_; refine then_r ?_; refine resultsL (v := .tuple #[aggV (⟨0, 0, []⟩ : Vl), .int .i64 2]) rfl (.cons (res_cell (n := 3) _ s4 (by kernel_rfl) (by kernel_rfl) (ow.box 1 rfl) (Nat.le_of_ble_eq_true rfl) rfl) (.cons (res_tmp s5) .nil)) rfl q ?_; exact ⟨ret_pair16 (c16_arg hown hcn (hfa.trans (fits_bad hown ha hft))), ow.kept⟩
   refine cf s63 (bor (bor (bnot (Iff.rfl)) (band (band (Iff.rfl) (decide_eq_true_iff)) (decide_eq_true_iff))) (band (decide_eq_true_iff) (bnot (Iff.rfl)))) hc4 ?_; have hfg := hc4; refine wp_skip ?_; refine block_n ?_; refine tn hK13 ?_
   refine ro [yV (.int .i64 ((k + 1 : Nat) : Int))] 1 69 z q ow (
     aS (fun hk bs hd => xadd (Or.inl rfl) rfl (bg bs s34) rfl (by omega) (by omega)) rfl <|
     arm0) fun fa fw bs hv ap z q ow => ?_
   obtain ⟨s0, s1, s4, s5, s8, s32, s33, s34⟩ := b8 bs s0 s1 s4 s5 s8 s32 s33 s34; have s65 := gv hv 0 rfl rfl; refine wl_value (v := .int .i64 ((k + 1 : Nat) : Int)) (want0 rfl) (xmove rfl s65) ?_; refine gp7 z q ow s0 s1 s4 s5 s8 s32 s33 fun fa fw z q ow s0 s1 s4 s5 s8 s32 s33 s34 => ?_; refine wl_end ?_; exact then_n ⟨(k + 1), ⟨hltk, (hfa.trans (fits_on hown ha hfg)), z, q, ow.tail, s0, s1, s4, s5, s8, s32, s33, s34⟩, (show l.length - (k + 1) < l.length - k by omega)⟩
  refine cf s35 (decide_eq_true_iff) hc3 ?_; refine wp_exit ?_; refine then_e ?_; refine then_e ?_; refine block_hit ?_; refine tn hK9 ?_; refine sq fun hK17 => ?_; have hfit := hfa.trans (fits_end (by omega))
  refine ro [yV _, yV _, yV (aggV (val16 fn l))] 3 69 z q ow (
    mvS s0 rfl rfl rfl rfl <|
    mvS s1 rfl rfl rfl rfl <|
    aC (fun hk bs hd => xcall2 rfl (dp hd 0 rfl) (dp hd 1 rfl) (en_agg_value _ _)) (fun hk bs hd => avalue_any fn A cap l _ mx (HM.kept (ow.keep hk).kept) (hr.kept (ow.keep hk).kept) hs hl hla hn hcap hown hcn hfit) rfl <|
    arm0) fun fa fw bs hv ap z q ow => ?_
  obtain ⟨s4, s5⟩ := b2 bs s4 s5; have s68 := gv hv 2 rfl rfl; refine ws ow 0 0 s4 s68 fun fw ow => ?_; refine wl_value (v := .int .i64 0) (want0 rfl) (xassign rfl rfl) ?_; refine gp1 z q ow s4 fun fa fw z q ow s4 s5 => ?_; refine wt hK17 ?_; refine wp_ret ?_; refine resultsL (v := .tuple #[aggV (val16 fn l), .int .i64 0]) rfl (.cons (res_cell (n := 3) _ s4 (by kernel_rfl) (by kernel_rfl) (ow.box 0 rfl) (Nat.le_of_ble_eq_true rfl) rfl) (.cons (res_tmp s5) .nil)) rfl q ?_; exact ⟨ret_pair16 (c16_val hown hcn (hfa.trans (fits_end (by omega)))), ow.kept⟩
end Go.Proofs.YtbkjdcpfkepheaaGreatDoor

namespace Go.Proofs.YtbkjdcpfkepheaaGreatDoor
open Go.RowKit Lv
set_option maxRecDepth 100000
def argsObj (L : List (Ar × Value)) : Obj := .cells (L.map argE).flatten.toArray 39 (0, 0)
theorem argsObj_at {w : World} {g : Nat} {L : List (Ar × Value)} (h : w.heap[g]? = some (argsObj L)) (hc : ∀ p ∈ L, CellsAt w p.2 p.1.l) : ArgsAt w (some ⟨g, 0, none⟩) (L.map Prod.fst) :=
  ⟨L, rfl, RowK.box (t := 39) (cs := (L.map argE).flatten.toArray) h argE_len (List.take_of_length_le (Nat.le_of_eq (flat_len argE_len L))), hc⟩
def Fit16 (l : List Ar) : Prop := l.length ≤ 20 ∧ ∀ a ∈ l, SmallAr a ∧ a.l.length ≤ 900
theorem fit_seq {l : List Ar} (h : Fit16 l) : (seq16 l).length ≤ 1000000 := by
  have h1 := seq16_len (n := 900) (fun a ha => (h.2 a ha).2); have h2 : l.length * 901 ≤ 20 * 901 := Nat.mul_le_mul_right _ h.1
  omega
theorem acall_fit (fn : Nat) (A : Option Addr) (cap : Nat) (l : List Ar) (w : World) (mx : Int) (HM : Mx w mx) (hr : ArgsAt w A l) (h : Fit16 l) (hcap : l.length ≤ cap) :
    Calls Tryz.prog 11 #[.int .u8 fn, .slice A l.length cap] w fun e w' => e = .returned (.tuple #[aggV (vCall16 fn l).1, .int .i64 (vCall16 fn l).2]) ∧ Kept w w' :=
  acall_any fn A cap l w mx HM hr (fun a ha => (h.2 a ha).1) (Nat.le_trans h.1 (by decide)) (fun a ha => Nat.le_trans (h.2 a ha).2 (by decide)) (fit_seq h) hcap
theorem acall_eq (x : Vl) (c : Int) (fn : Nat) (A : Option Addr) (cap : Nat) (l : List Ar) (w : World) (mx : Int) (HM : Mx w mx) (hr : ArgsAt w A l) (h : Fit16 l) (hcap : l.length ≤ cap) (hx : vCall16 fn l = (x, c)) :
    Calls Tryz.prog 11 #[.int .u8 fn, .slice A l.length cap] w fun e w' => e = .returned (.tuple #[aggV x, .int .i64 c]) ∧ Kept w w' := by
  have h := acall_fit fn A cap l w mx HM hr h hcap; rw [hx] at h; exact h
theorem anums_fit (A : Option Addr) (cap : Nat) (l : List Ar) (w : World) (mx : Int) (HM : Mx w mx) (hr : ArgsAt w A l) (h : Fit16 l) :
    Calls Tryz.prog 21 #[.slice A l.length cap] w fun e w' => NumOut16 w l e w' :=
  anumbersx_any A cap l w mx HM hr (fun a ha => (h.2 a ha).1) (Nat.le_trans h.1 (by decide)) (fun a ha => Nat.le_trans (h.2 a ha).2 (by decide)) (fit_seq h)
def smallB (v : Vl) : Bool := decide (-9223372036854775808 ≤ v.n ∧ v.n ≤ 9223372036854775807 ∧ v.t.length ≤ 2000)
theorem small_of {v : Vl} (h : smallB v = true) : Small v := by
  unfold smallB at h; rw [decide_eq_true_eq] at h; exact ⟨⟨h.1, h.2.1⟩, h.2.2⟩
def lit16 (l : List Ar) : Bool := decide (l.length ≤ 20) && l.all (fun a => smallB a.v && a.l.all (fun c => smallB c.v) && decide (a.l.length ≤ 900))
theorem lit_fit {l : List Ar} (h : lit16 l = true) : Fit16 l := by
  unfold lit16 at h; rw [Bool.and_eq_true, decide_eq_true_eq] at h; refine ⟨h.1, fun a ha => ?_⟩; have h1 := List.all_eq_true.1 h.2 a ha; rw [Bool.and_eq_true, Bool.and_eq_true, decide_eq_true_eq] at h1; exact ⟨⟨small_of h1.1.1, fun c hc => small_of (List.all_eq_true.1 h1.1.2 c hc)⟩, h1.2⟩
theorem ok_fit {l : List Ar} (h1 : l.length ≤ 20) (h2 : ∀ a ∈ l, okArg a = true) (hi : ∀ a ∈ l, In16 a) (h3 : ∀ a ∈ l, a.l.length ≤ 900) : Fit16 l := ⟨h1, fun a ha => ⟨ok_in16 (h2 a ha) (hi a ha), h3 a ha⟩⟩
theorem fit_cons {a : Ar} {l : List Ar} (h : SmallAr a) (h3 : a.l.length ≤ 900) (hl : l.length ≤ 19) (f : Fit16 l) : Fit16 (a :: l) := ⟨by rw [List.length_cons]; omega, fun b hb => by
  rcases List.mem_cons.1 hb with rfl | hb
  · exact ⟨h, h3⟩
  · exact f.2 b hb⟩
end Go.Proofs.YtbkjdcpfkepheaaGreatDoor

namespace Go.Proofs.YtbkjdcpfkepheaaGreatDoor.Lv
open Go
abbrev cellsEx : List Cl := [⟨1, 1, ⟨1, 30000, []⟩⟩, ⟨2, 1, ⟨3, 0, [120]⟩⟩, ⟨2, 2, ⟨1, 15000, []⟩⟩]
abbrev aEx : Ar := ⟨true, ⟨0, 0, []⟩, ⟨1, 1, 2, 2⟩, cellsEx⟩
abbrev noneEx : Ar := ⟨true, ⟨0, 0, []⟩, ⟨1, 1, 1, 1⟩, []⟩
abbrev valEx (v : Vl) : Ar := ⟨false, v, ⟨0, 0, 0, 0⟩, []⟩
theorem sortEx3 : sort16 [30000, 15000, 90000] = [15000, 30000, 90000] := sort_is (List.Perm.swap _ _ _) (by unfold Up16; decide)
theorem sortEx2 : sort16 [30000, 15000] = [15000, 30000] := sort_is (List.Perm.swap _ _ _) (by unfold Up16; decide)
theorem ex16_0 : vCall16 9 [aEx, valEx ⟨3, 0, [50]⟩, valEx ⟨2, 1, []⟩] = ((⟨1, 75000, []⟩ : Vl), 0) := by kernel_rfl
theorem ex16_1 : vCall16 11 [aEx, valEx ⟨3, 0, [50]⟩, valEx ⟨1, 70000, []⟩] = ((⟨1, 30000, []⟩ : Vl), 0) := by kernel_rfl
theorem ex16_2 : vCall16 12 [aEx] = ((⟨1, 30000, []⟩ : Vl), 0) := by kernel_rfl
theorem ex16_3 : vCall16 13 [aEx] = ((⟨1, 10000, []⟩ : Vl), 0) := by kernel_rfl
theorem ex16_4 : vCall16 14 [aEx] = ((⟨1, 22500, []⟩ : Vl), 0) := by kernel_rfl
theorem ex16_5 : vCall16 17 [aEx, valEx ⟨1, 90000, []⟩] = ((⟨1, 30000, []⟩ : Vl), 0) := by
  have h : vCall16 17 [aEx, valEx ⟨1, 90000, []⟩] = (vMake ((sort16 [30000, 15000, 90000]).getD 1 0), 0) := by kernel_rfl
  rw [h, sortEx3]
  rfl
theorem ex16_6 : vCall16 18 [aEx, valEx ⟨1, 20000, []⟩] = ((⟨1, 15000, []⟩ : Vl), 0) := by
  have h : vCall16 18 [aEx, valEx ⟨1, 20000, []⟩] = (vMake ((sort16 [30000, 15000]).reverse.getD 1 0), 0) := by kernel_rfl
  rw [h, sortEx2]
  rfl
theorem ex16_7 : vCall16 19 [aEx, valEx ⟨1, 30000, []⟩] = ((⟨4, 3, []⟩ : Vl), 0) := by kernel_rfl
theorem ex16_8 : vCall16 15 [noneEx] = ((⟨1, 0, []⟩ : Vl), 0) := by kernel_rfl
theorem ex16_9 : vCall16 48 [noneEx] = ((⟨4, 1, []⟩ : Vl), 0) := by kernel_rfl
theorem ex16_10 : vCall16 17 [noneEx] = ((⟨4, 3, []⟩ : Vl), 0) := by kernel_rfl
theorem ex16_11 : vCall16 10 [noneEx] = ((⟨1, 0, []⟩ : Vl), 0) := by kernel_rfl
theorem ex16_12 : vCall16 43 [aEx, valEx ⟨1, 20000, []⟩] = ((⟨3, 0, [120]⟩ : Vl), 0) := by kernel_rfl
theorem ex16_13 : vCall16 43 [aEx, valEx ⟨1, 20000, []⟩, valEx ⟨1, 10000, []⟩] = ((⟨0, 0, []⟩ : Vl), 0) := by kernel_rfl
theorem ex16_14 : vCall16 43 [aEx, valEx ⟨1, 30000, []⟩, valEx ⟨1, 10000, []⟩] = ((⟨4, 5, []⟩ : Vl), 0) := by kernel_rfl
theorem ex16_15 : vCall16 44 [valEx ⟨3, 0, [88]⟩, aEx] = ((⟨1, 20000, []⟩ : Vl), 0) := by kernel_rfl
theorem ex16_16 : vCall16 44 [valEx ⟨0, 0, []⟩, aEx] = ((⟨1, 30000, []⟩ : Vl), 0) := by kernel_rfl
theorem ex16_17 : vCall16 45 [aEx, valEx ⟨1, 30000, []⟩] = ((⟨1, 10000, []⟩ : Vl), 0) := by kernel_rfl
theorem ex16_18 : vCall16 46 [aEx] = ((⟨1, 45000, []⟩ : Vl), 0) := by kernel_rfl
end Go.Proofs.YtbkjdcpfkepheaaGreatDoor.Lv
