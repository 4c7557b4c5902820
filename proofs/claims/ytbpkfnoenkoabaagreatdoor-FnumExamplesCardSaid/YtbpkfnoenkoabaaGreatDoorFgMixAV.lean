/- Small texts together: WRef4, WRef5, WRef6. -/
import Derived.Test.YtbpkfnoenkoabaaGreatDoorFgWRef3
import Derived.Test.YtbpkfnoenkoabaaGreatDoorFgMixAP
import Derived.Deep.RegionHeld3
import Derived.Test.YtbpkfnoenkoabaaGreatDoorFgMixAO
set_option linter.unusedVariables false
set_option linter.unusedSimpArgs false
namespace Go.Proofs.YtbpkfnoenkoabaaGreatDoor
open Go.RowKit Lv
def upCells (l : List Int) : Array Value := #[.int .u64 (hi64 (up l)), .int .u64 (lo64 (up l))]
def downCells (l : List Int) : Array Value := #[.int .u64 (hi64 (down l)), .int .u64 (lo64 (down l))]
theorem up_step {l : List Int} {a : Int} (h : All64 (l ++ [a])) (hl : l.length ≤ 9223372036854775807) (c : 0 ≤ a) :
    hi64 (wd (hi64 (up l)) (lo64 (up l)) + wd 0 (Lv.abs a)) = hi64 (up (l ++ [a])) ∧ lo64 (wd (hi64 (up l)) (lo64 (up l)) + wd 0 (Lv.abs a)) = lo64 (up (l ++ [a])) ∧ down (l ++ [a]) = down l := by
  have b := up_bounds l (fun x hx => h x (by simp [hx])); rw [wd_in b.1 (by omega), up_snoc, down_snoc, if_neg (by omega), if_neg (by omega)]; rw [show Lv.abs a = a by unfold Lv.abs; rw [if_neg (by omega)]]; rw [show wd 0 a = a by unfold wd; omega]; exact ⟨rfl, rfl, by omega⟩
theorem down_step {l : List Int} {a : Int} (h : All64 (l ++ [a])) (hl : l.length ≤ 9223372036854775807) (c : a < 0) :
    hi64 (wd (hi64 (down l)) (lo64 (down l)) + wd 0 (Lv.abs a)) = hi64 (down (l ++ [a])) ∧ lo64 (wd (hi64 (down l)) (lo64 (down l)) + wd 0 (Lv.abs a)) = lo64 (down (l ++ [a])) ∧ up (l ++ [a]) = up l := by
  have b := up_bounds l (fun x hx => h x (by simp [hx])); rw [wd_in b.2.2.1 (by omega), up_snoc, down_snoc, if_pos c, if_pos c]; rw [show Lv.abs a = -a by unfold Lv.abs; rw [if_pos c]]; rw [show wd 0 (-a) = -a by unfold wd; omega]; exact ⟨rfl, rfl, by omega⟩
set_option maxHeartbeats 800000 in
set_option maxRecDepth 100000 in
theorem rtotal_any (A : Option Addr) (cap : Nat) (zs : List Int) (w : World) (hr : Row w A zs) (h64 : All64 zs) (hlen : zs.length ≤ 9223372036854775807) :
    Calls Tryz.prog 241 #[.slice A zs.length cap] w fun e w' => e = .returned (.tuple #[.agg #[.int .u64 (hi64 (Lv.abs (total zs))), .int .u64 (lo64 (Lv.abs (total zs)))], .bool (Lv.neg (total zs))]) ∧ Kept w w' := by
  go_enter Tryz.func241, Tryz.ntmps241; go_wp2_with fail
  go_loopw [6] (fun i wr => ∃ k : Nat, k ≤ zs.length ∧ i = .int .i64 k ∧ Kept w wr ∧ Box wr (w.heap.size + 1) 160 (upCells (zs.take k)) ∧ Box wr (w.heap.size + 1 + 1) 160 (downCells (zs.take k)) ∧ Box wr w.heap.size 160 #[.int .u64 0, .int .u64 0]) (fun i _ => zs.length - (intOf i).toNat)
  case atStart => exact ⟨0, by omega, rfl, kpt, by rw [show upCells (zs.take 0) = #[.int .u64 0, .int .u64 0] from rfl]; exact bxd, by rw [show downCells (zs.take 0) = #[.int .u64 0, .int .u64 0] from rfl]; exact bxd, bxd⟩
  case round =>
    obtain ⟨k, hk, rfl, hkept, bu, bd, bo⟩ := hrel
    by_cases hlt : k < zs.length
    · obtain ⟨b, off, rfl, hb, hc⟩ := hr k hlt
      have hc' : wr.cell? ⟨b, off + k, none⟩ = some (.int .i64 (zs.getD k 0)) := (hkept.cell (p := ⟨b, off + k, none⟩) hb).trans hc; have ts := take_snoc zs k hlt; have HA : All64 (zs.take k ++ [zs.getD k 0]) := by rw [← ts]; exact h64.take _
      have ha := HA (zs.getD k 0) (by simp); have HL : (zs.take k).length ≤ 9223372036854775807 := by have := List.length_take_le k zs; omega
      have TS := Lib.hid ts; have H64 := Lib.hid h64; have HR := Lib.hid hr; have US := fun c => up_step HA HL c; have DS := fun c => down_step HA HL c; have Z := Lib.hid (fun w => rsize_any (zs.getD k 0) w ha); have PU := fun w => plus_any (hi64 (up (zs.take k))) (lo64 (up (zs.take k))) 0 (Lv.abs (zs.getD k 0)) w (hi64_u _) (lo64_u _) ⟨by omega, by omega⟩ (abs_u64 ha); have PD := fun w => plus_any (hi64 (down (zs.take k))) (lo64 (down (zs.take k))) 0 (Lv.abs (zs.getD k 0)) w (hi64_u _) (lo64_u _) ⟨by omega, by omega⟩ (abs_u64 ha); clear ts HA HL hc h64 hr ha; generalize zs.getD k 0 = a at *; generalize zs.take k = l at *
      by_cases ca : 0 ≤ a
      · have US' := US ca
        obtain ⟨e1, e2, e3⟩ := US'; rw [e1, e2] at PU; have HP := Lib.hid PU; have E3 := Lib.hid e3; clear US DS PU PD e1 e2 e3; have cb : ¬ a < 0 := by omega
        have bx : Box wr (w.heap.size + 1) 160 #[.int .u64 (hi64 (up l)), .int .u64 (lo64 (up l))] := bu; have bz : Box wr (w.heap.size + 1 + 1) 160 #[.int .u64 (hi64 (down l)), .int .u64 (lo64 (down l))] := bd; clear bu bd; have kb : b ≠ w.heap.size + 1 := by omega
        have kc : b ≠ w.heap.size + 1 + 1 := by omega
        have bx_0 := Box.c0 bx; have bx_1 := Box.c1 bx; have bx_f := Box.loose bx 0; have bx_g := Box.loose bx 1; have bz_0 := Box.c0 bz; have bz_1 := Box.c1 bz; have bz_f := Box.loose bz 0; have bz_g := Box.loose bz 1; go_wp2_with fail; refine wp_region_still_tail 7 (by kernel_rfl) (by kernel_rfl) ?_
        simp only [List.take_succ_cons, List.take_zero, List.drop_succ_cons, List.drop_zero]
        change wpStill _ _ (World.drew _) _ _ _
        repeat still_step
        still_call (still_same (Z.out _))
        repeat still_step
        refine wpStill_nil ?_
        change wpList _ _ _ _ _ (World.drew _)
        go_wp2_with fail; refine (HP.out _).mono ?_; rintro e w1 ⟨rfl, k1⟩; have bu1 : Box w1 (w.heap.size + 1) 160 #[.int .u64 (hi64 (up l)), .int .u64 (lo64 (up l))] := Box.kept k1 bxd; have bd1 : Box w1 (w.heap.size + 1 + 1) 160 #[.int .u64 (hi64 (down l)), .int .u64 (lo64 (down l))] := Box.kept k1 bxd; have bo1 : Box w1 w.heap.size 160 #[.int .u64 0, .int .u64 0] := Box.kept k1 bxd; clear bx_0 bx_1 bx_f bx_g bz_0 bz_1 bz_f bz_g; have bu1_0 := Box.c0 bu1; have bu1_1 := Box.c1 bu1; have bu1_f := Box.loose bu1 0; have bu1_g := Box.loose bu1 1; go_wp2_with fail
        go_roundw
        case rel => exact ⟨k + 1, by omega, by go_num, kpt, by rw [TS.out]; show Box _ (w.heap.size + 1) 160 #[.int .u64 (hi64 (up (l ++ [a]))), .int .u64 (lo64 (up (l ++ [a])))]; exact bxd, by rw [TS.out]; unfold downCells; rw [E3.out]; exact bxd, bxd⟩
        case measure => simp [intOf]; omega
      · have DS' := DS (by omega)
        obtain ⟨e1, e2, e3⟩ := DS'; rw [e1, e2] at PD; have HP := Lib.hid PD; have E3 := Lib.hid e3; clear US DS PU PD e1 e2 e3; have cb : a < 0 := by omega
        have bx : Box wr (w.heap.size + 1) 160 #[.int .u64 (hi64 (up l)), .int .u64 (lo64 (up l))] := bu; have bz : Box wr (w.heap.size + 1 + 1) 160 #[.int .u64 (hi64 (down l)), .int .u64 (lo64 (down l))] := bd; clear bu bd; have kb : b ≠ w.heap.size + 1 := by omega
        have kc : b ≠ w.heap.size + 1 + 1 := by omega
        have bx_0 := Box.c0 bx; have bx_1 := Box.c1 bx; have bx_f := Box.loose bx 0; have bx_g := Box.loose bx 1; have bz_0 := Box.c0 bz; have bz_1 := Box.c1 bz; have bz_f := Box.loose bz 0; have bz_g := Box.loose bz 1; go_wp2_with fail; refine wp_region_still_tail 7 (by kernel_rfl) (by kernel_rfl) ?_
        simp only [List.take_succ_cons, List.take_zero, List.drop_succ_cons, List.drop_zero]
        change wpStill _ _ (World.drew _) _ _ _
        repeat still_step
        still_call (still_same (Z.out _))
        repeat still_step
        refine wpStill_nil ?_
        change wpList _ _ _ _ _ (World.drew _)
        go_wp2_with fail; refine (HP.out _).mono ?_; rintro e w1 ⟨rfl, k1⟩; have bu1 : Box w1 (w.heap.size + 1) 160 #[.int .u64 (hi64 (up l)), .int .u64 (lo64 (up l))] := Box.kept k1 bxd; have bd1 : Box w1 (w.heap.size + 1 + 1) 160 #[.int .u64 (hi64 (down l)), .int .u64 (lo64 (down l))] := Box.kept k1 bxd; have bo1 : Box w1 w.heap.size 160 #[.int .u64 0, .int .u64 0] := Box.kept k1 bxd; clear bx_0 bx_1 bx_f bx_g bz_0 bz_1 bz_f bz_g; have bd1_0 := Box.c0 bd1; have bd1_1 := Box.c1 bd1; have bd1_f := Box.loose bd1 0; have bd1_g := Box.loose bd1 1; go_wp2_with fail
        go_roundw
        case rel => exact ⟨k + 1, by omega, by go_num, kpt, by rw [TS.out]; unfold upCells; rw [E3.out]; exact bxd, by rw [TS.out]; show Box _ (w.heap.size + 1 + 1) 160 #[.int .u64 (hi64 (down (l ++ [a]))), .int .u64 (lo64 (down (l ++ [a])))]; exact bxd, bxd⟩
        case measure => simp [intOf]; omega
    · obtain rfl : k = zs.length := by omega
      rw [List.take_length] at bu bd; have bx : Box wr (w.heap.size + 1) 160 #[.int .u64 (hi64 (up zs)), .int .u64 (lo64 (up zs))] := bu; have bz : Box wr (w.heap.size + 1 + 1) 160 #[.int .u64 (hi64 (down zs)), .int .u64 (lo64 (down zs))] := bd; have B := up_bounds zs h64; have Ls := fun w => less_any (hi64 (up zs)) (lo64 (up zs)) (hi64 (down zs)) (lo64 (down zs)) w (hi64_u _) (lo64_u _) (hi64_u _) (lo64_u _); have Mi1 := fun w => minus_any (hi64 (down zs)) (lo64 (down zs)) (hi64 (up zs)) (lo64 (up zs)) w (hi64_u _) (lo64_u _) (hi64_u _) (lo64_u _); have Mi2 := fun w => minus_any (hi64 (up zs)) (lo64 (up zs)) (hi64 (down zs)) (lo64 (down zs)) w (hi64_u _) (lo64_u _) (hi64_u _) (lo64_u _); rw [wd_in B.1 (by omega), wd_in B.2.2.1 (by omega)] at Ls Mi1 Mi2; have ud := up_down zs; clear bu bd hr h64
      by_cases lt : up zs < down zs
      · have e1 : down zs - up zs = Lv.abs (total zs) := by unfold Lv.abs; rw [if_pos (by omega)]; omega
        have e2 : Lv.neg (total zs) = true := decide_eq_true (by omega); rw [decide_eq_true lt] at Ls; rw [e1] at Mi1; have E2 := Lib.hid e2; have HL := Lib.hid Ls; have HM := Lib.hid Mi1; clear Ls Mi1 Mi2 ud e1 e2 lt B; have bx_0 := Box.c0 bx; have bx_1 := Box.c1 bx; have bx_f := Box.loose bx 0; have bx_g := Box.loose bx 1; have bz_0 := Box.c0 bz; have bz_1 := Box.c1 bz; have bz_f := Box.loose bz 0; have bz_g := Box.loose bz 1; go_wp2_with fail; refine (HL.out _).mono ?_; rintro e w1 ⟨rfl, k1⟩; have bu1 : Box w1 (w.heap.size + 1) 160 #[.int .u64 (hi64 (up zs)), .int .u64 (lo64 (up zs))] := Box.kept k1 bxd; have bd1 : Box w1 (w.heap.size + 1 + 1) 160 #[.int .u64 (hi64 (down zs)), .int .u64 (lo64 (down zs))] := Box.kept k1 bxd; have bo1 : Box w1 w.heap.size 160 #[.int .u64 0, .int .u64 0] := Box.kept k1 bxd; clear bx_0 bx_1 bx_f bx_g bz_0 bz_1 bz_f bz_g; have bu1_0 := Box.c0 bu1; have bu1_1 := Box.c1 bu1; have bu1_f := Box.loose bu1 0; have bu1_g := Box.loose bu1 1; have bd1_0 := Box.c0 bd1; have bd1_1 := Box.c1 bd1; have bd1_f := Box.loose bd1 0; have bd1_g := Box.loose bd1 1; go_wp2_with fail; refine (HM.out _).mono ?_; rintro e w2 ⟨rfl, k2⟩; have bo2 : Box w2 w.heap.size 160 #[.int .u64 0, .int .u64 0] := Box.kept k2 bxd; have bo2_0 := Box.c0 bo2; have bo2_1 := Box.c1 bo2; have bo2_f := Box.loose bo2 0; have bo2_g := Box.loose bo2 1; go_wp2_with fail; exact bodyPost_ret (v := .tuple #[.agg #[.int .u64 (hi64 (Lv.abs (total zs))), .int .u64 (lo64 (Lv.abs (total zs)))], .bool true]) (by simp [results, Tryz.results241, go_sem, bo2_0, bo2_1]) rfl ⟨by rw [E2.out], kpt⟩
      · have e1 : up zs - down zs = Lv.abs (total zs) := by unfold Lv.abs; rw [if_neg (by omega)]; omega
        have e2 : Lv.neg (total zs) = false := decide_eq_false (by omega); rw [decide_eq_false lt] at Ls; rw [e1] at Mi2; have E2 := Lib.hid e2; have HL := Lib.hid Ls; have HM := Lib.hid Mi2; clear Ls Mi1 Mi2 ud e1 e2 lt B; have bx_0 := Box.c0 bx; have bx_1 := Box.c1 bx; have bx_f := Box.loose bx 0; have bx_g := Box.loose bx 1; have bz_0 := Box.c0 bz; have bz_1 := Box.c1 bz; have bz_f := Box.loose bz 0; have bz_g := Box.loose bz 1; go_wp2_with fail; refine (HL.out _).mono ?_; rintro e w1 ⟨rfl, k1⟩; have bu1 : Box w1 (w.heap.size + 1) 160 #[.int .u64 (hi64 (up zs)), .int .u64 (lo64 (up zs))] := Box.kept k1 bxd; have bd1 : Box w1 (w.heap.size + 1 + 1) 160 #[.int .u64 (hi64 (down zs)), .int .u64 (lo64 (down zs))] := Box.kept k1 bxd; have bo1 : Box w1 w.heap.size 160 #[.int .u64 0, .int .u64 0] := Box.kept k1 bxd; clear bx_0 bx_1 bx_f bx_g bz_0 bz_1 bz_f bz_g; have bu1_0 := Box.c0 bu1; have bu1_1 := Box.c1 bu1; have bu1_f := Box.loose bu1 0; have bu1_g := Box.loose bu1 1; have bd1_0 := Box.c0 bd1; have bd1_1 := Box.c1 bd1; have bd1_f := Box.loose bd1 0; have bd1_g := Box.loose bd1 1; go_wp2_with fail; refine (HM.out _).mono ?_; rintro e w2 ⟨rfl, k2⟩; have bo2 : Box w2 w.heap.size 160 #[.int .u64 0, .int .u64 0] := Box.kept k2 bxd; have bo2_0 := Box.c0 bo2; have bo2_1 := Box.c1 bo2; have bo2_f := Box.loose bo2 0; have bo2_g := Box.loose bo2 1; go_wp2_with fail; exact bodyPost_ret (v := .tuple #[.agg #[.int .u64 (hi64 (Lv.abs (total zs))), .int .u64 (lo64 (Lv.abs (total zs)))], .bool false]) (by simp [results, Tryz.results241, go_sem, bo2_0, bo2_1]) rfl ⟨by rw [E2.out], kpt⟩
theorem wd_total (zs : List Int) (h64 : All64 zs) (hlen : zs.length ≤ 9223372036854775807) : wd (hi64 (Lv.abs (total zs))) (lo64 (Lv.abs (total zs))) = Lv.abs (total zs) := by
  have b := total_small zs h64 hlen; exact wd_in b.1 (by omega)
theorem rsum_any (A : Option Addr) (cap : Nat) (zs : List Int) (w : World) (hr : Row w A zs) (h64 : All64 zs) (hlen : zs.length ≤ 9223372036854775807) :
    Calls Tryz.prog 175 #[.slice A zs.length cap] w fun e w' => e = .returned (.tuple #[.int .i64 (dSum zs).1, .bool (dSum zs).2]) ∧ Kept w w' := by
  have T := Lib.hid (rtotal_any A cap zs w hr h64 hlen); have S := fun w => rsigned_any (hi64 (Lv.abs (total zs))) (lo64 (Lv.abs (total zs))) (Lv.neg (total zs)) w (hi64_u _) (lo64_u _); rw [wd_total zs h64 hlen, sg_neg_abs] at S; have HS := Lib.hid S; clear S hr h64; go_enter Tryz.func175, Tryz.ntmps175; go_wp2_with fail; refine T.out.mono ?_; rintro e w1 ⟨rfl, k1⟩; go_wp2_with fail; refine (HS.out _).mono ?_; rintro e w2 ⟨rfl, k2⟩; go_wp2_with fail; go_ret2; exact ⟨rfl, kpt⟩
theorem radd2_any (a b : Int) (w : World) (ha : i64 a) (hb : i64 b) :
    Calls Tryz.prog 83 #[.int .i64 a, .int .i64 b] w fun e w' => e = .returned (.tuple #[.int .i64 (dSum [a, b]).1, .bool (dSum [a, b]).2]) ∧ Kept w w' := by
  have h64 : All64 [a, b] := by
    intro x hx
    simp at hx
    rcases hx with rfl | rfl
    · exact ha
    · exact hb
  have S := Lib.hid (fun A cap w hr => rsum_any A cap [a, b] w hr h64 (by simp)); clear ha hb h64; go_enter Tryz.func83, Tryz.ntmps83; go_wp2_with fail; refine (S.out _ _ _ ?hr).mono ?_
  case hr =>
    refine Row.box (g := w.heap.size) (t := 2) (cs := #[.int .i64 a, .int .i64 b]) bxd ?_; intro i hi
    match i, hi with
    | 0, _ => rfl
    | 1, _ => rfl
  rintro e w1 ⟨rfl, hk⟩; go_wp2_with fail; go_ret2; exact ⟨rfl, kpt⟩
end Go.Proofs.YtbpkfnoenkoabaaGreatDoor

namespace Go.Proofs.YtbpkfnoenkoabaaGreatDoor
open Go.RowKit Lv
theorem rtrunc_any (a : Int) (w : World) (h : i64 a) : Calls Tryz.prog 162 #[.int .i64 a] w fun e w' => e = .returned (.int .i64 (dTrunc a)) ∧ w = w' := by
  obtain ⟨h1, h2⟩ := h; have tb := tmod_bounds a; have b1 : -9223372036854775808 ≤ a - a.tmod 10000 := by omega
  have b2 : a - a.tmod 10000 ≤ 9223372036854775807 := by omega
  by_cases c : 0 ≤ a
  · have e : a.tmod 10000 = a % 10000 := Int.tmod_eq_emod_of_nonneg c
    have E : Hid (a - a % 10000 = dTrunc a) := by unfold dTrunc; rw [e]; rfl
    clear e; go_enter Tryz.func162, Tryz.ntmps162; go_wp2_with fail; go_ret; exact ⟨ret_int E.out, rfl⟩
  · go_enter Tryz.func162, Tryz.ntmps162
    go_wp2_with fail; go_ret; exact ⟨ret_int rfl, rfl⟩
theorem dTrunc_near (a : Int) : (0 ≤ a → dTrunc a ≤ a) ∧ (a < 0 → a ≤ dTrunc a) ∧ (dTrunc a - a < 10000) ∧ (a - dTrunc a < 10000) := by have tb := tmod_bounds a; unfold dTrunc; omega
theorem dTrunc_fit {a : Int} (h : i64 a) : fit (dTrunc a) = (dTrunc a, true) := by
  obtain ⟨h1, h2⟩ := h; have tb := tmod_bounds a
  have e : dTrunc a % 10000 = 0 := by
    unfold dTrunc
    by_cases c : 0 ≤ a
    · rw [tmod_nonneg c]; omega
    · rw [tmod_neg (by omega)]; omega
  have e2 : dTrunc a = a - a.tmod 10000 := rfl; exact fit_in (by omega) (by omega)
theorem rfloor_any (a : Int) (w : World) (h : i64 a) : Calls Tryz.prog 161 #[.int .i64 a] w fun e w' => e = .returned (.tuple #[.int .i64 (dFloor a).1, .bool (dFloor a).2]) ∧ Kept w w' := by
  have T := Lib.hid (fun w => rtrunc_any a w h); have tn := dTrunc_near a; obtain ⟨t1, t2, _, _⟩ := tn; have ti := dTrunc_i64 h
  by_cases c : a < dTrunc a
  · have a0 : a < 0 := by
      by_cases c2 : a < 0
      · exact c2
      · have := t1 (by omega); omega
    have S := Lib.hid (fun w => rsub_any (dTrunc a) 10000 w ti ⟨by omega, by omega⟩); have E : Hid (dFloor a = fit (dTrunc a - 10000)) := if_pos c; have ne : (dTrunc a != a) = true := by rw [bne_iff_ne]; omega
    obtain ⟨h1, h2⟩ := h; clear t1 t2 ti; generalize fit (dTrunc a - 10000) = r at *; generalize dTrunc a = t at *; go_enter Tryz.func161, Tryz.ntmps161; go_wp2_with fail; refine (T.out _).mono ?_; rintro e w' ⟨rfl, rfl⟩; go_wp2_with fail; refine (S.out _).mono ?_; rintro e w' ⟨rfl, k1⟩; go_wp2_with fail; go_ret2; exact ⟨ret_p E.out, kpt⟩
  · have Z := Lib.hid (fun w => rsize_any (dTrunc a) w ti)
    have S := fun w => rsigned_any 0 (Lv.abs (dTrunc a)) (decide (dTrunc a < 0)) w ⟨by omega, by omega⟩ (abs_u64 ti); rw [show wd 0 (Lv.abs (dTrunc a)) = Lv.abs (dTrunc a) by unfold wd; omega, show sg (decide (dTrunc a < 0)) (Lv.abs (dTrunc a)) = dTrunc a from sg_neg_abs _, dTrunc_fit h] at S; have HS := Lib.hid S; have E : Hid (dFloor a = (dTrunc a, true)) := if_neg c
    by_cases a0 : a < 0
    · have ne : (dTrunc a != a) = false := by
        have := t2 a0; have : dTrunc a = a := by omega
        rw [this]; simp
      obtain ⟨h1, h2⟩ := h; clear t1 t2 S; have ti1 := ti.1; have ti2 := ti.2; generalize Lv.abs (dTrunc a) = s at *; generalize dTrunc a = t at *; go_enter Tryz.func161, Tryz.ntmps161; go_wp2_with fail; refine (T.out _).mono ?_; rintro e w' ⟨rfl, rfl⟩; go_wp2_with fail; refine (Z.out _).mono ?_; rintro e w' ⟨rfl, rfl⟩; go_wp2_with fail; refine (HS.out _).mono ?_; rintro e w' ⟨rfl, k1⟩; go_wp2_with fail; go_ret2; exact ⟨ret_p E.out, kpt⟩
    · obtain ⟨h1, h2⟩ := h
      clear t1 t2 S; have ti1 := ti.1; have ti2 := ti.2; generalize Lv.abs (dTrunc a) = s at *; generalize dTrunc a = t at *; go_enter Tryz.func161, Tryz.ntmps161; go_wp2_with fail; refine (T.out _).mono ?_; rintro e w' ⟨rfl, rfl⟩; go_wp2_with fail; refine (Z.out _).mono ?_; rintro e w' ⟨rfl, rfl⟩; go_wp2_with fail; refine (HS.out _).mono ?_; rintro e w' ⟨rfl, k1⟩; go_wp2_with fail; go_ret2; exact ⟨ret_p E.out, kpt⟩
set_option maxHeartbeats 400000 in
theorem rpower_any (a n : Int) (w : World) (h : i64 a) (hn : i64 n) : Calls Tryz.prog 183 #[.int .i64 a, .int .i64 n] w fun e w' => e = .returned (.tuple #[.int .i64 (dPow a n).1, .bool (dPow a n).2]) ∧ Kept w w' := by
  obtain ⟨n1, n2⟩ := hn
  by_cases c1 : n < -1000 ∨ 1000 < n
  · have E : Hid (dPow a n = (0, false)) := if_pos c1
    by_cases c2 : n < -1000
    · go_enter Tryz.func183, Tryz.ntmps183
      go_wp2_with fail; go_ret2; exact ⟨ret_p E.out, kpt⟩
    · have c3 : 1000 < n := by omega
      clear c1; go_enter Tryz.func183, Tryz.ntmps183; go_wp2_with fail; go_ret2; exact ⟨ret_p E.out, kpt⟩
  · have n3 : -1000 ≤ n := by omega
    have n4 : n ≤ 1000 := by omega
    by_cases c2 : n < 0
    · have E : Hid (dPow a n = if (pw a (-n).toNat).2 = true then dQuo 10000 (pw a (-n).toNat).1 else (0, false)) := by unfold dPow; rw [if_neg c1, if_pos c2]; rfl
      obtain ⟨m, hm⟩ : ∃ m : Nat, m = (-n).toNat := ⟨_, rfl⟩; rw [← hm] at E; have hn : n = -(m : Int) := by omega
      have hm1 : 1 ≤ m := by omega
      subst hn; clear c1 hm c2 n1 n2; go_enter Tryz.func183, Tryz.ntmps183; go_wp2_with fail
      go_loopw [6, 7, 8] (fun x y i wr => ∃ k : Nat, k ≤ m ∧ i = .int .i64 k ∧ x = .int .i64 (pw a k).1 ∧ y = .bool (pw a k).2 ∧ Kept w wr) (fun _ _ i _ => m - (intOf i).toNat)
      case atStart => exact ⟨0, by omega, rfl, rfl, rfl, Kept.refl w⟩
      case round =>
        obtain ⟨k, hk, rfl, rfl, rfl, hkept⟩ := hrel
        by_cases d : (pw a k).2 = true
        · have D := Lib.hid d
          by_cases c : k < m
          · have M := Lib.hid (fun w => rmul_any (pw a k).1 a w (pw_i64 a k) h)
            have E1 : Hid (pw a (k + 1) = dMul (pw a k).1 a) := by show (if (pw a k).2 = true then _ else _) = _; rw [if_pos d]
            rw [d]; clear d; generalize (pw a k).1 = x at *; go_wp2_with fail; refine (M.out _).mono ?_; rintro e w' ⟨rfl, k1⟩; go_wp2_with fail
            go_roundw
            case rel => exact ⟨k + 1, by omega, by go_num, by rw [E1.out], by rw [E1.out], kpt⟩
            case measure => simp [intOf]; omega
          · obtain rfl : k = m := by omega
            rw [d]; clear d; have Q := Lib.hid (fun w => rquo_any 10000 (pw a k).1 w ⟨by omega, by omega⟩ (pw_i64 a k)); have E2 : Hid (dPow a (-(k : Int)) = dQuo 10000 (pw a k).1) := by rw [E.out, if_pos D.out]; rfl
            generalize (pw a k).1 = x at *; generalize dQuo 10000 x = y at *; go_wp2_with fail; refine (Q.out _).mono ?_; rintro e w' ⟨rfl, k1⟩; go_wp2_with fail; go_ret2; exact ⟨ret_p E2.out, kpt⟩
        · have d' : (pw a k).2 = false := by simpa using d
          have P0 := pw_stays d' 0; have PM := pw_stays d' (m - k); rw [Nat.add_zero] at P0; rw [show k + (m - k) = m by omega] at PM; have E2 : Hid (dPow a (-(m : Int)) = (0, false)) := by rw [E.out, PM]; rfl
          rw [P0]; clear d d' P0 PM; go_wp2_with fail; go_ret2; exact ⟨ret_p E2.out, kpt⟩
    · obtain ⟨m, rfl⟩ := Int.eq_ofNat_of_zero_le (show 0 ≤ n by omega)
      have E : Hid (dPow a m = pw a m) := by unfold dPow; rw [if_neg c1, if_neg c2, Int.toNat_natCast]; rfl
      clear c1 n1 n2; go_enter Tryz.func183, Tryz.ntmps183; go_wp2_with fail
      go_loopw [6, 7, 8] (fun x y i wr => ∃ k : Nat, k ≤ m ∧ i = .int .i64 k ∧ x = .int .i64 (pw a k).1 ∧ y = .bool (pw a k).2 ∧ Kept w wr) (fun _ _ i _ => m - (intOf i).toNat)
      case atStart => exact ⟨0, by omega, rfl, rfl, rfl, Kept.refl w⟩
      case round =>
        obtain ⟨k, hk, rfl, rfl, rfl, hkept⟩ := hrel
        by_cases d : (pw a k).2 = true
        · have D := Lib.hid d
          by_cases c : k < m
          · have M := Lib.hid (fun w => rmul_any (pw a k).1 a w (pw_i64 a k) h)
            have E1 : Hid (pw a (k + 1) = dMul (pw a k).1 a) := by show (if (pw a k).2 = true then _ else _) = _; rw [if_pos d]
            rw [d]; clear d; generalize (pw a k).1 = x at *; go_wp2_with fail; refine (M.out _).mono ?_; rintro e w' ⟨rfl, k1⟩; go_wp2_with fail
            go_roundw
            case rel => exact ⟨k + 1, by omega, by go_num, by rw [E1.out], by rw [E1.out], kpt⟩
            case measure => simp [intOf]; omega
          · obtain rfl : k = m := by omega
            rw [d]; clear d; have E2 : Hid (dPow a k = ((pw a k).1, true)) := by rw [E.out]; exact Prod.ext rfl D.out
            generalize (pw a k).1 = x at *; go_wp2_with fail; go_ret2; exact ⟨ret_p E2.out, kpt⟩
        · have d' : (pw a k).2 = false := by simpa using d
          have P0 := pw_stays d' 0; have PM := pw_stays d' (m - k); rw [Nat.add_zero] at P0; rw [show k + (m - k) = m by omega] at PM; have E2 : Hid (dPow a (m : Int) = (0, false)) := by rw [E.out, PM]; rfl
          rw [P0]; clear d d' P0 PM; go_wp2_with fail; go_ret2; exact ⟨ret_p E2.out, kpt⟩
end Go.Proofs.YtbpkfnoenkoabaaGreatDoor

namespace Go.Proofs.YtbpkfnoenkoabaaGreatDoor
open Go.RowKit Lv
theorem rnd_le {X d : Int} (x0 : 0 ≤ X) (d0 : 10 ≤ d) : 0 ≤ rnd X d ∧ rnd X d * d ≤ X + d := by
  have q0 : 0 ≤ X / d := Int.ediv_nonneg x0 (by omega); have e := Int.mul_ediv_add_emod X d; have r0 := Int.emod_nonneg X (b := d) (by omega); have e2 : d * (X / d) = X / d * d := Int.mul_comm ..; unfold rnd
  split
  · refine ⟨by omega, ?_⟩
    rw [Int.add_mul]; omega
  · refine ⟨by omega, ?_⟩
    rw [Int.add_mul]; omega
set_option maxHeartbeats 1000000 in
theorem rround_any (a p : Int) (w : World) (h : i64 a) (hp : i64 p) : Calls Tryz.prog 163 #[.int .i64 a, .int .i64 p] w fun e w' => e = .returned (.tuple #[.int .i64 (dRound a p).1, .bool (dRound a p).2]) ∧ Kept w w' := by
  obtain ⟨p1, p2⟩ := hp; have Z := Lib.hid (fun w => rsize_any a w h)
  by_cases c1 : 4 ≤ p
  · have E : Hid (dRound a p = fit a) := if_pos c1
    have S := fun w => rsigned_any 0 (Lv.abs a) (decide (a < 0)) w ⟨by omega, by omega⟩ (abs_u64 h); rw [show wd 0 (Lv.abs a) = Lv.abs a by unfold wd; omega, show sg (decide (a < 0)) (Lv.abs a) = a from sg_neg_abs a] at S; have HS := Lib.hid S; obtain ⟨h1, h2⟩ := h; clear S; generalize fit a = r at *; generalize Lv.abs a = s at *; go_enter Tryz.func163, Tryz.ntmps163; go_wp2_with fail; refine (Z.out _).mono ?_; rintro e w' ⟨rfl, rfl⟩; go_wp2_with fail; refine (HS.out _).mono ?_; rintro e w' ⟨rfl, k1⟩; go_wp2_with fail; go_ret2; exact ⟨ret_p E.out, kpt⟩
  · by_cases c2 : p < -15
    · have E : Hid (dRound a p = (0, true)) := by unfold dRound; rw [if_neg c1, if_pos c2]; rfl
      go_enter Tryz.func163, Tryz.ntmps163; go_wp2_with fail; go_ret2; exact ⟨ret_p E.out, kpt⟩
    · have E : Hid (dRound a p = fit (sg (decide (a < 0)) (rnd (Lv.abs a) (unitOf p) * unitOf p))) := by unfold dRound; rw [if_neg c1, if_neg c2]; rfl
      obtain ⟨m, hm⟩ : ∃ m : Nat, m = (4 - p).toNat := ⟨_, rfl⟩; have hm1 : (m : Int) = 4 - p := by omega
      have U : unitOf p = 10 ^ m := by unfold unitOf; rw [hm]
      have u1 := pow10_bounds (k := m) (by omega); have au := abs_u64 h; have al := abs_le h
      have u10 : (10 : Int) ≤ 10 ^ m := by
        have := pow10_bounds (k := m - 1) (by omega); have e : (10 : Int) ^ m = 10 ^ (m - 1) * 10 := by rw [← Int.pow_succ]; congr 1; omega
        omega
      have N := fun w => rnearest_any 0 (Lv.abs a) (10 ^ m) w ⟨by omega, by omega⟩ au (by omega) (by omega); rw [show wd 0 (Lv.abs a) = Lv.abs a by unfold wd; omega] at N; have rb := rnd_bounds (Lv.abs a) (10 ^ m); have q1 : Lv.abs a / 10 ^ m ≤ Lv.abs a := Int.ediv_le_self _ au.1; have q2 := rnd_le au.1 u10; have el : lo64 (rnd (Lv.abs a) (10 ^ m)) = rnd (Lv.abs a) (10 ^ m) := by unfold lo64; omega
      have eh : hi64 (rnd (Lv.abs a) (10 ^ m)) = 0 := by unfold hi64; omega
      rw [el, eh] at N; rw [U] at E; have Mu := fun w => times_any (rnd (Lv.abs a) (10 ^ m)) (10 ^ m) w ⟨by omega, by omega⟩ ⟨by omega, by omega⟩; have x0 : 0 ≤ rnd (Lv.abs a) (10 ^ m) * 10 ^ m := Int.mul_nonneg (by omega) (by omega); have x1 : rnd (Lv.abs a) (10 ^ m) * 10 ^ m < 340282366920938463463374607431768211456 := by omega
      have S := fun w => rsigned_any (hi64 (rnd (Lv.abs a) (10 ^ m) * 10 ^ m)) (lo64 (rnd (Lv.abs a) (10 ^ m) * 10 ^ m)) (decide (a < 0)) w (hi64_u _) (lo64_u _); rw [wd_in x0 x1] at S; have HN := Lib.hid N; have HM := Lib.hid Mu; have HS := Lib.hid S; have ub : ∀ k : Nat, k ≤ m → 1 ≤ (10 : Int) ^ k ∧ (10 : Int) ^ k ≤ 10000000000000000000 := fun k hk => pow10_bounds (by omega); have UB := Lib.hid ub; have hm19 : m ≤ 19 := by omega
      clear N Mu S x0 x1 rb q1 q2 U u10 u1 au al hm ub el eh; obtain rfl : p = 4 - (m : Int) := by omega
      have hm4 : 1 ≤ m := by omega
      clear c1 c2 p1 p2 hm1; generalize fit (sg (decide (a < 0)) (rnd (Lv.abs a) (10 ^ m) * 10 ^ m)) = res at *; obtain ⟨h1, h2⟩ := h; go_enter Tryz.func163, Tryz.ntmps163; go_wp2_with fail
      go_loop [6, 7] (fun x i => ∃ k : Nat, k ≤ m ∧ i = .int .i64 (4 - (k : Int)) ∧ x = .int .u64 (10 ^ k)) (fun _ i => (intOf i - (4 - (m : Int))).toNat)
      case atStart => exact ⟨0, by omega, by simp, by simp⟩
      case round =>
        obtain ⟨k, hk, rfl, rfl⟩ := hrel
        by_cases c : k < m
        · have u2 := (UB.out (k + 1) (by omega)).2
          have u3 := (UB.out k (by omega)).1; have u4 : (10 : Int) ^ (k + 1) = 10 ^ k * 10 := Int.pow_succ ..; have U4 := Lib.hid u4; have u5 : (10 : Int) ^ k * 10 ≤ 18446744073709551615 := by omega
          clear u4 u2; go_wp2_with fail
          go_round
          case rel => exact ⟨k + 1, by omega, by congr 1; omega, by rw [U4.out]⟩
          case measure => simp [intOf]; omega
        · obtain rfl : k = m := by omega
          go_wp2_with fail; refine (Z.out _).mono ?_; rintro e w' ⟨rfl, rfl⟩; go_wp2_with fail; refine (HN.out _).mono ?_; rintro e w1 ⟨rfl, hk1⟩; obtain ⟨hk1c, hk1f⟩ := bcell hk1; have hk1z := Below.size hk1
          try simp only [World.size_alloc, World.size_setCell] at hk1z hk1c hk1f
          try have hk1x : w.heap.size ≤ w1.heap.size := by omega
          try have hk1y := Nat.lt_of_succ_le hk1z
          try have hk1x2 : w.heap.size < w1.heap.size := by omega
          try have hk1w : w.heap.size + 1 < w1.heap.size := by omega
          go_wp2_with fail; refine (HM.out _).mono ?_; rintro e w2 ⟨rfl, hk2⟩; obtain ⟨hk2c, hk2f⟩ := bcell hk2; have hk2z := Below.size hk2
          try simp only [World.size_alloc, World.size_setCell] at hk2z hk2c hk2f
          try have hk2x : w.heap.size ≤ w2.heap.size := by omega
          try have hk2y := Nat.lt_of_succ_le hk2z
          try have hk2x2 : w.heap.size < w2.heap.size := by omega
          try have hk2w : w.heap.size + 1 < w2.heap.size := by omega
          go_wp2_with fail; refine (HS.out _).mono ?_; rintro e w3 ⟨rfl, hk3⟩; obtain ⟨hk3c, hk3f⟩ := bcell hk3; have hk3z := Below.size hk3
          try simp only [World.size_alloc, World.size_setCell] at hk3z hk3c hk3f
          try have hk3x : w.heap.size ≤ w3.heap.size := by omega
          try have hk3y := Nat.lt_of_succ_le hk3z
          try have hk3x2 : w.heap.size < w3.heap.size := by omega
          try have hk3w : w.heap.size + 1 < w3.heap.size := by omega
          go_wp2_with fail; go_ret2; exact ⟨ret_p E.out, kpt⟩
theorem held2_start {W : World} {g : Nat} {u v : Value} (h0 : W.cell? ⟨g, 0, none⟩ = some u) (h1 : W.cell? ⟨g, 1, none⟩ = some v) : Kept W W.drew ∧ W.drew.cell? ⟨g, 0, none⟩ = some u ∧ W.drew.cell? ⟨g, 1, none⟩ = some v := ⟨(Kept.refl W).drew, h0, h1⟩
theorem held2_next {W a b : World} {g : Nat} {u v : Value} (h : Kept W a ∧ a.cell? ⟨g, 0, none⟩ = some u ∧ a.cell? ⟨g, 1, none⟩ = some v) (k : Kept a b) : Kept W b ∧ b.cell? ⟨g, 0, none⟩ = some u ∧ b.cell? ⟨g, 1, none⟩ = some v := by
  obtain ⟨h, h0, h1⟩ := h; have hb := bcell k; exact ⟨h.trans k, by rw [hb.1 _ _ (World.block_lt_of_cell? a _ h0)]; exact h0, by rw [hb.1 _ _ (World.block_lt_of_cell? a _ h0)]; exact h1⟩
set_option maxHeartbeats 1000000 in
theorem rsqrt_any (a : Int) (w : World) (h : i64 a) : Calls Tryz.prog 165 #[.int .i64 a] w fun e w' => e = .returned (.tuple #[.int .i64 (dSqrt a).1, .bool (dSqrt a).2]) ∧ Kept w w' := by
  obtain ⟨h1, h2⟩ := h
  by_cases c : a < 0
  · have E : Hid (dSqrt a = (0, false)) := if_pos c
    go_enter Tryz.func165, Tryz.ntmps165; go_wp2_with fail; go_ret2; exact ⟨ret_p E.out, kpt⟩
  · have E : Hid (dSqrt a = ((root a : Int), true)) := if_neg c
    have T0 := Lib.hid (fun w => times_any a 10000 w ⟨by omega, by omega⟩ ⟨by omega, by omega⟩); have X0 : 0 ≤ a * 10000 := by omega
    have X1 : a * 10000 < 1208925819614629174706176 := by omega
    have U : Hid (∀ r : Int, 0 ≤ r → r * r ≤ a * 10000 → a * 10000 < (r + 1) * (r + 1) → r = root a) := fun r r0 r1 r2 => root_unique (by omega) r0 r1 r2; generalize root a = ro at *; generalize a * 10000 = X at *; go_enter Tryz.func165, Tryz.ntmps165; go_wp2_with fail; refine (T0.out _).mono ?_; rintro e w1 ⟨rfl, hk1⟩; obtain ⟨hk1c, hk1f⟩ := bcell hk1; have hk1z := Below.size hk1
    try simp only [World.size_alloc, World.size_setCell] at hk1z hk1c hk1f
    try have hk1x : w.heap.size ≤ w1.heap.size := by omega
    try have hk1y := Nat.lt_of_succ_le hk1z
    try have hk1x2 : w.heap.size < w1.heap.size := by omega
    try have hk1w : w.heap.size + 1 < w1.heap.size := by omega
    go_wp2_with fail
    go_loopw [5, 6] (fun x y wr => ∃ lo hi : Int, 0 ≤ lo ∧ lo < hi ∧ hi ≤ 1099511627776 ∧ lo * lo ≤ X ∧ X < hi * hi ∧ x = .int .u64 lo ∧ y = .int .u64 hi ∧ Box wr w1.heap.size 160 #[.int .u64 (hi64 X), .int .u64 (lo64 X)] ∧ Kept w wr) (fun x y _ => (intOf y - intOf x).toNat)
    case atStart =>
      refine ⟨0, 1099511627776, by omega, by omega, by omega, by omega, by omega, rfl, rfl, ?_, kpt⟩; exact bxd
    case round =>
      obtain ⟨lo, hi, l0, l1, l2, q1, q2, rfl, rfl, bx, hk⟩ := hrel
      by_cases d : 1 < hi - lo
      · obtain ⟨m, hm⟩ : ∃ m, m = (lo + hi) / 2 := ⟨_, rfl⟩
        have m1 : lo < m := by omega
        have m2 : m < hi := by omega
        have T := Lib.hid (fun w => times_any m m w ⟨by omega, by omega⟩ ⟨by omega, by omega⟩); have p0 : 0 ≤ m * m := Int.mul_nonneg (by omega) (by omega)
        have p1 : m * m < 340282366920938463463374607431768211456 := by
          have := Int.mul_le_mul (show m ≤ 1099511627776 by omega) (show m ≤ 1099511627776 by omega) (by omega) (by omega)
          omega
        have L := fun w => less_any (hi64 X) (lo64 X) (hi64 (m * m)) (lo64 (m * m)) w (hi64_u _) (lo64_u _) (hi64_u _) (lo64_u _); rw [wd_in X0 (by omega), wd_in p0 p1] at L; have HM := Lib.hid hm; have bx_0 := Box.c0 bx; have bx_1 := Box.c1 bx; have bx_f := Box.loose bx 0; have bx_g := Box.loose bx 1; have Q1 := Lib.hid q1; have Q2 := Lib.hid q2
        by_cases t : X < m * m
        · rw [decide_eq_true t] at L
          have HL := Lib.hid L; have Tt := Lib.hid t; clear L t q1 q2 p0 p1 hm; go_wp2_with fail; rw [← HM.out]
          go_region_held3 (fun w' => Kept wr w' ∧ w'.cell? ⟨w1.heap.size, 0, none⟩ = some (.int .u64 (hi64 X)) ∧ w'.cell? ⟨w1.heap.size, 1, none⟩ = some (.int .u64 (lo64 X)))
            (first | (with_reducible exact held2_start (by assumption) (by assumption)) | (with_reducible exact held2_next (by assumption) (by assumption)))
            (first | (go_at_call 182; refine (T.out _).mono ?_; rintro e w' ⟨rfl, hk'⟩) | (go_at_call 178; refine (HL.out _).mono ?_; rintro e w' ⟨rfl, hk'⟩))
          go_wp2_with fail
          go_roundw
          case rel => exact ⟨lo, m, by omega, by omega, by omega, Q1.out, Tt.out, rfl, rfl, Box.kept (by rename_i hh; exact hh.1) bx, hk.trans (by rename_i hh; exact hh.1)⟩
          case measure => simp [intOf]; omega
        · have t' : m * m ≤ X := by omega
          rw [decide_eq_false t] at L; have HL := Lib.hid L; have Tt := Lib.hid t'; clear L t t' q1 q2 p0 p1 hm; go_wp2_with fail; rw [← HM.out]
          go_region_held3 (fun w' => Kept wr w' ∧ w'.cell? ⟨w1.heap.size, 0, none⟩ = some (.int .u64 (hi64 X)) ∧ w'.cell? ⟨w1.heap.size, 1, none⟩ = some (.int .u64 (lo64 X)))
            (first | (with_reducible exact held2_start (by assumption) (by assumption)) | (with_reducible exact held2_next (by assumption) (by assumption)))
            (first | (go_at_call 182; refine (T.out _).mono ?_; rintro e w' ⟨rfl, hk'⟩) | (go_at_call 178; refine (HL.out _).mono ?_; rintro e w' ⟨rfl, hk'⟩))
          go_wp2_with fail
          go_roundw
          case rel => exact ⟨m, hi, by omega, by omega, by omega, Tt.out, Q2.out, rfl, rfl, Box.kept (by rename_i hh; exact hh.1) bx, hk.trans (by rename_i hh; exact hh.1)⟩
          case measure => simp [intOf]; omega
      · obtain rfl : hi = lo + 1 := by omega
        have e := U.out lo l0 q1 q2; have E2 : Hid ((lo : Int) = ro) := e; have E1 : Hid (lo ≤ 9223372036854775807) := by show _ ≤ _; omega
        have e1 : lo ≤ 9223372036854775807 := E1.out; clear e q1 q2 U; go_wp2_with fail; go_ret2; exact ⟨ret_p (by rw [E2.out]; exact E.out), kpt⟩
end Go.Proofs.YtbpkfnoenkoabaaGreatDoor
