/- Small texts together: WRef4, WRef5, WRef6. -/
import Derived.Test.YtbpkfnoenkoabaaGreatDoorFeWRef3
import Derived.Test.YtbpkfnoenkoabaaGreatDoorFeMixAP
import Derived.Deep.RegionHeld3
import Derived.Test.YtbpkfnoenkoabaaGreatDoorFeMixAO
set_option linter.unusedVariables false
set_option linter.unusedSimpArgs false
namespace Go.Proofs.YtbpkfnoenkoabaaGreatDoor
open Go.RowKit Lv
def upCells (l : List Int) : Array Value := #[.int .u64 (hi64 (up l)), .int .u64 (lo64 (up l))]
def downCells (l : List Int) : Array Value := #[.int .u64 (hi64 (down l)), .int .u64 (lo64 (down l))]
theorem up_step {l : List Int} {a : Int} (h : All64 (l ++ [a])) (hl : l.length ≤ 9223372036854775807) (c : 0 ≤ a) :
    hi64 (wd (hi64 (up l)) (lo64 (up l)) + wd 0 (Lv.abs a)) = hi64 (up (l ++ [a])) ∧ lo64 (wd (hi64 (up l)) (lo64 (up l)) + wd 0 (Lv.abs a)) = lo64 (up (l ++ [a])) ∧ down (l ++ [a]) = down l := by
  have b := up_bounds l (fun x hx => h x (by simp [hx])); rw [wd_in b.1 (by omega), up_snoc, down_snoc, if_neg (by omega), if_neg (by omega)]; rw [show Lv.abs a = a by unfold Lv.abs; rw [if_neg (by omega)]]; rw [show wd 0 a = a by unfold wd; omega]; exact ⟨rfl, rfl, by omega⟩
theorem down_step {l : List Int} {a : Int} (h : All64 (l ++ [a])) (hl : l.length ≤ 9223372036854775807) (c : a < 0) :
    hi64 (wd (hi64 (down l)) (lo64 (down l)) + wd 0 (Lv.abs a)) = hi64 (down (l ++ [a])) ∧ lo64 (wd (hi64 (down l)) (lo64 (down l)) + wd 0 (Lv.abs a)) = lo64 (down (l ++ [a])) ∧ up (l ++ [a]) = up l := by
  have b := up_bounds l (fun x hx => h x (by simp [hx])); rw [wd_in b.2.2.1 (by omega), up_snoc, down_snoc, if_pos c, if_pos c]; rw [show Lv.abs a = -a by unfold Lv.abs; rw [if_pos c]]; rw [show wd 0 (-a) = -a by unfold wd; omega]; exact ⟨rfl, rfl, by omega⟩
set_option maxHeartbeats 800000 in
set_option maxRecDepth 100000 in
theorem rtotal_any (A : Option Addr) (cap : Nat) (zs : List Int) (w : World) (hr : Row w A zs) (h64 : All64 zs) (hlen : zs.length ≤ 9223372036854775807) :
    Calls Tryz.prog 241 #[.slice A zs.length cap] w fun e w' => e = .returned (.tuple #[.agg #[.int .u64 (hi64 (Lv.abs (total zs))), .int .u64 (lo64 (Lv.abs (total zs)))], .bool (Lv.neg (total zs))]) ∧ Kept w w' := by
  go_enter Tryz.func241, Tryz.ntmps241; go_wp2_with fail
  go_loopw [6] (fun i wr => ∃ k : Nat, k ≤ zs.length ∧ i = .int .i64 k ∧ Kept w wr ∧ Box wr (w.heap.size + 1) 160 (upCells (zs.take k)) ∧ Box wr (w.heap.size + 1 + 1) 160 (downCells (zs.take k)) ∧ Box wr w.heap.size 160 #[.int .u64 0, .int .u64 0]) (fun i _ => zs.length - (intOf i).toNat)
  case atStart => exact ⟨0, by omega, rfl, kpt, by rw [show upCells (zs.take 0) = #[.int .u64 0, .int .u64 0] from rfl]; exact bxd, by rw [show downCells (zs.take 0) = #[.int .u64 0, .int .u64 0] from rfl]; exact bxd, bxd⟩
  case round =>
    obtain ⟨k, hk, rfl, hkept, bu, bd, bo⟩ := hrel
    by_cases hlt : k < zs.length
    · obtain ⟨b, off, rfl, hb, hc⟩ := hr k hlt
      have hc' : wr.cell? ⟨b, off + k, none⟩ = some (.int .i64 (zs.getD k 0)) := (hkept.cell (p := ⟨b, off + k, none⟩) hb).trans hc; have ts := take_snoc zs k hlt; have HA : All64 (zs.take k ++ [zs.getD k 0]) := by rw [← ts]; exact h64.take _
      have ha := HA (zs.getD k 0) (by simp); have HL : (zs.take k).length ≤ 9223372036854775807 := by have := List.length_take_le k zs; omega
      have TS := Lib.hid ts; have H64 := Lib.hid h64; have HR := Lib.hid hr; have US := fun c => up_step HA HL c; have DS := fun c => down_step HA HL c; have Z := Lib.hid (fun w => rsize_any (zs.getD k 0) w ha); have PU := fun w => plus_any (hi64 (up (zs.take k))) (lo64 (up (zs.take k))) 0 (Lv.abs (zs.getD k 0)) w (hi64_u _) (lo64_u _) ⟨by omega, by omega⟩ (abs_u64 ha); have PD := fun w => plus_any (hi64 (down (zs.take k))) (lo64 (down (zs.take k))) 0 (Lv.abs (zs.getD k 0)) w (hi64_u _) (lo64_u _) ⟨by omega, by omega⟩ (abs_u64 ha); clear ts HA HL hc h64 hr ha; generalize zs.getD k 0 = a at *; generalize zs.take k = l at *
      by_cases ca : 0 ≤ a
      · have US' := US ca
        obtain ⟨e1, e2, e3⟩ := US'; rw [e1, e2] at PU; have HP := Lib.hid PU; have E3 := Lib.hid e3; clear US DS PU PD e1 e2 e3; have cb : ¬ a < 0 := by omega
        have bx : Box wr (w.heap.size + 1) 160 #[.int .u64 (hi64 (up l)), .int .u64 (lo64 (up l))] := bu; have bz : Box wr (w.heap.size + 1 + 1) 160 #[.int .u64 (hi64 (down l)), .int .u64 (lo64 (down l))] := bd; clear bu bd; have kb : b ≠ w.heap.size + 1 := by omega
        have kc : b ≠ w.heap.size + 1 + 1 := by omega
        have bx_0 := Box.c0 bx; have bx_1 := Box.c1 bx; have bx_f := Box.loose bx 0; have bx_g := Box.loose bx 1; have bz_0 := Box.c0 bz; have bz_1 := Box.c1 bz; have bz_f := Box.loose bz 0; have bz_g := Box.loose bz 1; go_wp2_with fail; refine wp_region_still_tail 7 (by kernel_rfl) (by kernel_rfl) ?_
        simp only [List.take_succ_cons, List.take_zero, List.drop_succ_cons, List.drop_zero]
        change wpStill _ _ (World.drew _) _ _ _
        repeat still_step
        still_call (still_same (Z.out _))
        repeat still_step
        refine wpStill_nil ?_
        change wpList _ _ _ _ _ (World.drew _)
        go_wp2_with fail; refine (HP.out _).mono ?_; rintro e w1 ⟨rfl, k1⟩; have bu1 : Box w1 (w.heap.size + 1) 160 #[.int .u64 (hi64 (up l)), .int .u64 (lo64 (up l))] := Box.kept k1 bxd; have bd1 : Box w1 (w.heap.size + 1 + 1) 160 #[.int .u64 (hi64 (down l)), .int .u64 (lo64 (down l))] := Box.kept k1 bxd; have bo1 : Box w1 w.heap.size 160 #[.int .u64 0, .int .u64 0] := Box.kept k1 bxd; clear bx_0 bx_1 bx_f bx_g bz_0 bz_1 bz_f bz_g; have bu1_0 := Box.c0 bu1; have bu1_1 := Box.c1 bu1; have bu1_f := Box.loose bu1 0; have bu1_g := Box.loose bu1 1; go_wp2_with fail
        go_roundw
        case rel => exact ⟨k + 1, by omega, by go_num, kpt, by rw [TS.out]; show Box _ (w.heap.size + 1) 160 #[.int .u64 (hi64 (up (l ++ [a]))), .int .u64 (lo64 (up (l ++ [a])))]; exact bxd, by rw [TS.out]; unfold downCells; rw [E3.out]; exact bxd, bxd⟩
        case measure => simp [intOf]; omega
      · have DS' := DS (by omega)
        obtain ⟨e1, e2, e3⟩ := DS'; rw [e1, e2] at PD; have HP := Lib.hid PD; have E3 := Lib.hid e3; clear US DS PU PD e1 e2 e3; have cb : a < 0 := by omega
        have bx : Box wr (w.heap.size + 1) 160 #[.int .u64 (hi64 (up l)), .int .u64 (lo64 (up l))] := bu; have bz : Box wr (w.heap.size + 1 + 1) 160 #[.int .u64 (hi64 (down l)), .int .u64 (lo64 (down l))] := bd; clear bu bd; have kb : b ≠ w.heap.size + 1 := by omega
        have kc : b ≠ w.heap.size + 1 + 1 := by omega
        have bx_0 := Box.c0 bx; have bx_1 := Box.c1 bx; have bx_f := Box.loose bx 0; have bx_g := Box.loose bx 1; have bz_0 := Box.c0 bz; have bz_1 := Box.c1 bz; have bz_f := Box.loose bz 0; have bz_g := Box.loose bz 1; go_wp2_with fail; refine wp_region_still_tail 7 (by kernel_rfl) (by kernel_rfl) ?_
        simp only [List.take_succ_cons, List.take_zero, List.drop_succ_cons, List.drop_zero]
        change wpStill _ _ (World.drew _) _ _ _
        repeat still_step
        still_call (still_same (Z.out _))
        repeat still_step
        refine wpStill_nil ?_
        change wpList _ _ _ _ _ (World.drew _)
        go_wp2_with fail; refine (HP.out _).mono ?_; rintro e w1 ⟨rfl, k1⟩; have bu1 : Box w1 (w.heap.size + 1) 160 #[.int .u64 (hi64 (up l)), .int .u64 (lo64 (up l))] := Box.kept k1 bxd; have bd1 : Box w1 (w.heap.size + 1 + 1) 160 #[.int .u64 (hi64 (down l)), .int .u64 (lo64 (down l))] := Box.kept k1 bxd; have bo1 : Box w1 w.heap.size 160 #[.int .u64 0, .int .u64 0] := Box.kept k1 bxd; clear bx_0 bx_1 bx_f bx_g bz_0 bz_1 bz_f bz_g; have bd1_0 := Box.c0 bd1; have bd1_1 := Box.c1 bd1; have bd1_f := Box.loose bd1 0; have bd1_g := Box.loose bd1 1; go_wp2_with fail
        go_roundw
        case rel => exact ⟨k + 1, by omega, by go_num, kpt, by rw [TS.out]; unfold upCells; rw [E3.out]; exact bxd, by rw [TS.out]; show Box _ (w.heap.size + 1 + 1) 160 #[.int .u64 (hi64 (down (l ++ [a]))), .int .u64 (lo64 (down (l ++ [a])))]; exact bxd, bxd⟩
        case measure => simp [intOf]; omega
    · obtain rfl : k = zs.length := by omega
      rw [List.take_length] at bu bd; have bx : Box wr (w.heap.size + 1) 160 #[.int .u64 (hi64 (up zs)), .int .u64 (lo64 (up zs))] := bu; have bz : Box wr (w.heap.size + 1 + 1) 160 #[.int .u64 (hi64 (down zs)), .int .u64 (lo64 (down zs))] := bd; have B := up_bounds zs h64; have Ls := fun w => less_any (hi64 (up zs)) (lo64 (up zs)) (hi64 (down zs)) (lo64 (down zs)) w (hi64_u _) (lo64_u _) (hi64_u _) (lo64_u _); have Mi1 := fun w => minus_any (hi64 (down zs)) (lo64 (down zs)) (hi64 (up zs)) (lo64 (up zs)) w (hi64_u _) (lo64_u _) (hi64_u _) (lo64_u _); have Mi2 := fun w => minus_any (hi64 (up zs)) (lo64 (up zs)) (hi64 (down zs)) (lo64 (down zs)) w (hi64_u _) (lo64_u _) (hi64_u _) (lo64_u _); rw [wd_in B.1 (by omega), wd_in B.2.2.1 (by omega)] at Ls Mi1 Mi2; have ud := up_down zs; clear bu bd hr h64
      by_cases lt : up zs < down zs
      · have e1 : down zs - up zs = Lv.abs (total zs) := by unfold Lv.abs; rw [if_pos (by omega)]; omega
        have e2 : Lv.neg (total zs) = true := decide_eq_true (by omega); rw [decide_eq_true lt] at Ls; rw [e1] at Mi1; have E2 := Lib.hid e2; have HL := Lib.hid Ls; have HM := Lib.hid Mi1; clear Ls Mi1 Mi2 ud e1 e2 lt B; have bx_0 := Box.c0 bx; have bx_1 := Box.c1 bx; have bx_f := Box.loose bx 0; have bx_g := Box.loose bx 1; have bz_0 := Box.c0 bz; have bz_1 := Box.c1 bz; have bz_f := Box.loose bz 0; have bz_g := Box.loose bz 1; go_wp2_with fail; refine (HL.out _).mono ?_; rintro e w1 ⟨rfl, k1⟩; have bu1 : Box w1 (w.heap.size + 1) 160 #[.int .u64 (hi64 (up zs)), .int .u64 (lo64 (up zs))] := Box.kept k1 bxd; have bd1 : Box w1 (w.heap.size + 1 + 1) 160 #[.int .u64 (hi64 (down zs)), .int .u64 (lo64 (down zs))] := Box.kept k1 bxd; have bo1 : Box w1 w.heap.size 160 #[.int .u64 0, .int .u64 0] := Box.kept k1 bxd; clear bx_0 bx_1 bx_f bx_g bz_0 bz_1 bz_f bz_g; have bu1_0 := Box.c0 bu1; have bu1_1 := Box.c1 bu1; have bu1_f := Box.loose bu1 0; have bu1_g := Box.loose bu1 1; have bd1_0 := Box.c0 bd1; have bd1_1 := Box.c1 bd1; have bd1_f := Box.loose bd1 0; have bd1_g := Box.loose bd1 1; go_wp2_with fail; refine (HM.out _).mono ?_; rintro e w2 ⟨rfl, k2⟩; have bo2 : Box w2 w.heap.size 160 #[.int .u64 0, .int .u64 0] := Box.kept k2 bxd; have bo2_0 := Box.c0 bo2; have bo2_1 := Box.c1 bo2; have bo2_f := Box.loose bo2 0; have bo2_g := Box.loose bo2 1; go_wp2_with fail; exact bodyPost_ret (v := .tuple #[.agg #[.int .u64 (hi64 (Lv.abs (total zs))), .int .u64 (lo64 (Lv.abs (total zs)))], .bool true]) (by simp [results, Tryz.results241, go_sem, bo2_0, bo2_1]) rfl ⟨by rw [E2.out], kpt⟩
      · have e1 : up zs - down zs = Lv.abs (total zs) := by unfold Lv.abs; rw [if_neg (by omega)]; omega
        have e2 : Lv.neg (total zs) = false := decide_eq_false (by omega); rw [decide_eq_false lt] at Ls; rw [e1] at Mi2; have E2 := Lib.hid e2; have HL := Lib.hid Ls; have HM := Lib.hid Mi2; clear Ls Mi1 Mi2 ud e1 e2 lt B; have bx_0 := Box.c0 bx; have bx_1 := Box.c1 bx; have bx_f := Box.loose bx 0; have bx_g := Box.loose bx 1; have bz_0 := Box.c0 bz; have bz_1 := Box.c1 bz; have bz_f := Box.loose bz 0; have bz_g := Box.loose bz 1; go_wp2_with fail; refine (HL.out _).mono ?_; rintro e w1 ⟨rfl, k1⟩; have bu1 : Box w1 (w.heap.size + 1) 160 #[.int .u64 (hi64 (up zs)), .int .u64 (lo64 (up zs))] := Box.kept k1 bxd; have bd1 : Box w1 (w.heap.size + 1 + 1) 160 #[.int .u64 (hi64 (down zs)), .int .u64 (lo64 (down zs))] := Box.kept k1 bxd; have bo1 : Box w1 w.heap.size 160 #[.int .u64 0, .int .u64 0] := Box.kept k1 bxd; clear bx_0 bx_1 bx_f bx_g bz_0 bz_1 bz_f bz_g; have bu1_0 := Box.c0 bu1; have bu1_1 := Box.c1 bu1; have bu1_f := Box.loose bu1 0; have bu1_g := Box.loose bu1 1; have bd1_0 := Box.c0 bd1; have bd1_1 := Box.c1 bd1; have bd1_f := Box.loose bd1 0; have bd1_g := Box.loose bd1 1; go_wp2_with fail; refine (HM.out _).mono ?_; rintro e w2 ⟨rfl, k2⟩; have bo2 : Box w2 w.heap.size 160 #[.int .u64 0, .int .u64 0] := Box.kept k2 bxd; have bo2_0 := Box.c0 bo2; have bo2_1 := Box.c1 bo2; have bo2_f := Box.loose bo2 0; have bo2_g := Box.loose bo2 1; go_wp2_with fail; exact bodyPost_ret (v := .tuple #[.agg #[.int .u64 (hi64 (Lv.abs (total zs))), .int .u64 (lo64 (Lv.abs (total zs)))], .bool false]) (by simp [results, Tryz.results241, go_sem, bo2_0, bo2_1]) rfl ⟨by rw [E2.out], kpt⟩
theorem wd_total (zs : List Int) (h64 : All64 zs) (hlen : zs.length ≤ 9223372036854775807) : wd (hi64 (Lv.abs (total zs))) (lo64 (Lv.abs (total zs))) = Lv.abs (total zs) := by
  have b := total_small zs h64 hlen; exact wd_in b.1 (by omega)
theorem rsum_any (A : Option Addr) (cap : Nat) (zs : List Int) (w : World) (hr : Row w A zs) (h64 : All64 zs) (hlen : zs.length ≤ 9223372036854775807) :
    Calls Tryz.prog 175 #[.slice A zs.length cap] w fun e w' => e = .returned (.tuple #[.int .i64 (dSum zs).1, .bool (dSum zs).2]) ∧ Kept w w' := by
  have T := Lib.hid (rtotal_any A cap zs w hr h64 hlen); have S := fun w => rsigned_any (hi64 (Lv.abs (total zs))) (lo64 (Lv.abs (total zs))) (Lv.neg (total zs)) w (hi64_u _) (lo64_u _); rw [wd_total zs h64 hlen, sg_neg_abs] at S; have HS := Lib.hid S; clear S hr h64; go_enter Tryz.func175, Tryz.ntmps175; go_wp2_with fail; refine T.out.mono ?_; rintro e w1 ⟨rfl, k1⟩; go_wp2_with fail; refine (HS.out _).mono ?_; rintro e w2 ⟨rfl, k2⟩; go_wp2_with fail; go_ret2; exact ⟨rfl, kpt⟩
theorem radd2_any (a b : Int) (w : World) (ha : i64 a) (hb : i64 b) :
    Calls Tryz.prog 83 #[.int .i64 a, .int .i64 b] w fun e w' => e = .returned (.tuple #[.int .i64 (dSum [a, b]).1, .bool (dSum [a, b]).2]) ∧ Kept w w' := by
  have h64 : All64 [a, b] := by
    intro x hx
    simp at hx
    rcases hx with rfl | rfl
    · exact ha
    · exact hb
  have S := Lib.hid (fun A cap w hr => rsum_any A cap [a, b] w hr h64 (by simp)); clear ha hb h64; go_enter Tryz.func83, Tryz.ntmps83; go_wp2_with fail; refine (S.out _ _ _ ?hr).mono ?_
  case hr =>
    refine Row.box (g := w.heap.size) (t := 2) (cs := #[.int .i64 a, .int .i64 b]) bxd ?_; intro i hi
    match i, hi with
    | 0, _ => rfl
    | 1, _ => rfl
  rintro e w1 ⟨rfl, hk⟩; go_wp2_with fail; go_ret2; exact ⟨rfl, kpt⟩
end Go.Proofs.YtbpkfnoenkoabaaGreatDoor

namespace Go.Proofs.YtbpkfnoenkoabaaGreatDoor
open Go.RowKit Lv
set_option maxHeartbeats 400000 in
theorem rpower_any (a n : Int) (w : World) (h : i64 a) (hn : i64 n) : Calls Tryz.prog 183 #[.int .i64 a, .int .i64 n] w fun e w' => e = .returned (.tuple #[.int .i64 (dPow a n).1, .bool (dPow a n).2]) ∧ Kept w w' := by
  obtain ⟨n1, n2⟩ := hn
  by_cases c1 : n < -1000 ∨ 1000 < n
  · have E : Hid (dPow a n = (0, false)) := if_pos c1
    by_cases c2 : n < -1000
    · go_enter Tryz.func183, Tryz.ntmps183
      go_wp2_with fail; go_ret2; exact ⟨ret_p E.out, kpt⟩
    · have c3 : 1000 < n := by omega
      clear c1; go_enter Tryz.func183, Tryz.ntmps183; go_wp2_with fail; go_ret2; exact ⟨ret_p E.out, kpt⟩
  · have n3 : -1000 ≤ n := by omega
    have n4 : n ≤ 1000 := by omega
    by_cases c2 : n < 0
    · have E : Hid (dPow a n = if (pw a (-n).toNat).2 = true then dQuo 10000 (pw a (-n).toNat).1 else (0, false)) := by unfold dPow; rw [if_neg c1, if_pos c2]; rfl
      obtain ⟨m, hm⟩ : ∃ m : Nat, m = (-n).toNat := ⟨_, rfl⟩; rw [← hm] at E; have hn : n = -(m : Int) := by omega
      have hm1 : 1 ≤ m := by omega
      subst hn; clear c1 hm c2 n1 n2; go_enter Tryz.func183, Tryz.ntmps183; go_wp2_with fail
      go_loopw [6, 7, 8] (fun x y i wr => ∃ k : Nat, k ≤ m ∧ i = .int .i64 k ∧ x = .int .i64 (pw a k).1 ∧ y = .bool (pw a k).2 ∧ Kept w wr) (fun _ _ i _ => m - (intOf i).toNat)
      case atStart => exact ⟨0, by omega, rfl, rfl, rfl, Kept.refl w⟩
      case round =>
        obtain ⟨k, hk, rfl, rfl, rfl, hkept⟩ := hrel
        by_cases d : (pw a k).2 = true
        · have D := Lib.hid d
          by_cases c : k < m
          · have M := Lib.hid (fun w => rmul_any (pw a k).1 a w (pw_i64 a k) h)
            have E1 : Hid (pw a (k + 1) = dMul (pw a k).1 a) := by show (if (pw a k).2 = true then _ else _) = _; rw [if_pos d]
            rw [d]; clear d; generalize (pw a k).1 = x at *; go_wp2_with fail; refine (M.out _).mono ?_; rintro e w' ⟨rfl, k1⟩; go_wp2_with fail
            go_roundw
            case rel => exact ⟨k + 1, by omega, by go_num, by rw [E1.out], by rw [E1.out], kpt⟩
            case measure => simp [intOf]; omega
          · obtain rfl : k = m := by omega
            rw [d]; clear d; have Q := Lib.hid (fun w => rquo_any 10000 (pw a k).1 w ⟨by omega, by omega⟩ (pw_i64 a k)); have E2 : Hid (dPow a (-(k : Int)) = dQuo 10000 (pw a k).1) := by rw [E.out, if_pos D.out]; rfl
            generalize (pw a k).1 = x at *; generalize dQuo 10000 x = y at *; go_wp2_with fail; refine (Q.out _).mono ?_; rintro e w' ⟨rfl, k1⟩; go_wp2_with fail; go_ret2; exact ⟨ret_p E2.out, kpt⟩
        · have d' : (pw a k).2 = false := by simpa using d
          have P0 := pw_stays d' 0; have PM := pw_stays d' (m - k); rw [Nat.add_zero] at P0; rw [show k + (m - k) = m by omega] at PM; have E2 : Hid (dPow a (-(m : Int)) = (0, false)) := by rw [E.out, PM]; rfl
          rw [P0]; clear d d' P0 PM; go_wp2_with fail; go_ret2; exact ⟨ret_p E2.out, kpt⟩
    · obtain ⟨m, rfl⟩ := Int.eq_ofNat_of_zero_le (show 0 ≤ n by omega)
      have E : Hid (dPow a m = pw a m) := by unfold dPow; rw [if_neg c1, if_neg c2, Int.toNat_natCast]; rfl
      clear c1 n1 n2; go_enter Tryz.func183, Tryz.ntmps183; go_wp2_with fail
      go_loopw [6, 7, 8] (fun x y i wr => ∃ k : Nat, k ≤ m ∧ i = .int .i64 k ∧ x = .int .i64 (pw a k).1 ∧ y = .bool (pw a k).2 ∧ Kept w wr) (fun _ _ i _ => m - (intOf i).toNat)
      case atStart => exact ⟨0, by omega, rfl, rfl, rfl, Kept.refl w⟩
      case round =>
        obtain ⟨k, hk, rfl, rfl, rfl, hkept⟩ := hrel
        by_cases d : (pw a k).2 = true
        · have D := Lib.hid d
          by_cases c : k < m
          · have M := Lib.hid (fun w => rmul_any (pw a k).1 a w (pw_i64 a k) h)
            have E1 : Hid (pw a (k + 1) = dMul (pw a k).1 a) := by show (if (pw a k).2 = true then _ else _) = _; rw [if_pos d]
            rw [d]; clear d; generalize (pw a k).1 = x at *; go_wp2_with fail; refine (M.out _).mono ?_; rintro e w' ⟨rfl, k1⟩; go_wp2_with fail
            go_roundw
            case rel => exact ⟨k + 1, by omega, by go_num, by rw [E1.out], by rw [E1.out], kpt⟩
            case measure => simp [intOf]; omega
          · obtain rfl : k = m := by omega
            rw [d]; clear d; have E2 : Hid (dPow a k = ((pw a k).1, true)) := by rw [E.out]; exact Prod.ext rfl D.out
            generalize (pw a k).1 = x at *; go_wp2_with fail; go_ret2; exact ⟨ret_p E2.out, kpt⟩
        · have d' : (pw a k).2 = false := by simpa using d
          have P0 := pw_stays d' 0; have PM := pw_stays d' (m - k); rw [Nat.add_zero] at P0; rw [show k + (m - k) = m by omega] at PM; have E2 : Hid (dPow a (m : Int) = (0, false)) := by rw [E.out, PM]; rfl
          rw [P0]; clear d d' P0 PM; go_wp2_with fail; go_ret2; exact ⟨ret_p E2.out, kpt⟩
end Go.Proofs.YtbpkfnoenkoabaaGreatDoor

namespace Go.Proofs.YtbpkfnoenkoabaaGreatDoor
open Go.RowKit Lv
end Go.Proofs.YtbpkfnoenkoabaaGreatDoor
