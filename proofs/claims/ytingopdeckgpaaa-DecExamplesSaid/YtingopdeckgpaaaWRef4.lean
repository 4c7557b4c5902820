/- The reference of layer 1: the sum of a list, and Sum, Mean, Add. -/
import Derived.Test.YtingopdeckgpaaaWRef3
namespace Go.Proofs.Ytingopdeckgpaaa
set_option linter.unusedVariables false
set_option linter.unusedSimpArgs false
open Go.RowKit Lv

def upCells (l : List Int) : Array Value := #[.int .u64 (hi64 (up l)), .int .u64 (lo64 (up l))]
def downCells (l : List Int) : Array Value := #[.int .u64 (hi64 (down l)), .int .u64 (lo64 (down l))]

theorem up_step {l : List Int} {a : Int} (h : All64 (l ++ [a])) (hl : l.length ≤ 9223372036854775807) (c : 0 ≤ a) :
    hi64 (wd (hi64 (up l)) (lo64 (up l)) + wd 0 (Lv.abs a)) = hi64 (up (l ++ [a])) ∧ lo64 (wd (hi64 (up l)) (lo64 (up l)) + wd 0 (Lv.abs a)) = lo64 (up (l ++ [a])) ∧ down (l ++ [a]) = down l := by
  have b := up_bounds l (fun x hx => h x (by simp [hx]))
  rw [wd_in b.1 (by omega), up_snoc, down_snoc, if_neg (by omega), if_neg (by omega)]
  rw [show Lv.abs a = a by unfold Lv.abs; rw [if_neg (by omega)]]
  rw [show wd 0 a = a by unfold wd; omega]
  exact ⟨rfl, rfl, by omega⟩
theorem down_step {l : List Int} {a : Int} (h : All64 (l ++ [a])) (hl : l.length ≤ 9223372036854775807) (c : a < 0) :
    hi64 (wd (hi64 (down l)) (lo64 (down l)) + wd 0 (Lv.abs a)) = hi64 (down (l ++ [a])) ∧ lo64 (wd (hi64 (down l)) (lo64 (down l)) + wd 0 (Lv.abs a)) = lo64 (down (l ++ [a])) ∧ up (l ++ [a]) = up l := by
  have b := up_bounds l (fun x hx => h x (by simp [hx]))
  rw [wd_in b.2.2.1 (by omega), up_snoc, down_snoc, if_pos c, if_pos c]
  rw [show Lv.abs a = -a by unfold Lv.abs; rw [if_pos c]]
  rw [show wd 0 (-a) = -a by unfold wd; omega]
  exact ⟨rfl, rfl, by omega⟩

set_option maxHeartbeats 800000 in
set_option maxRecDepth 100000 in
theorem rtotal_any (A : Option Addr) (cap : Nat) (zs : List Int) (w : World) (hr : Row w A zs) (h64 : All64 zs) (hlen : zs.length ≤ 9223372036854775807) :
    Calls Try.prog 60 #[.slice A zs.length cap] w fun e w' => e = .returned (.tuple #[.agg #[.int .u64 (hi64 (Lv.abs (total zs))), .int .u64 (lo64 (Lv.abs (total zs)))], .bool (Lv.neg (total zs))]) ∧ Kept w w' := by
  go_enter Try.func60, Try.ntmps60
  go_wp2_with fail
  go_loopw [6] (fun i wr => ∃ k : Nat, k ≤ zs.length ∧ i = .int .i64 k ∧ Kept w wr ∧ Box wr (w.heap.size + 1) 56 (upCells (zs.take k)) ∧ Box wr (w.heap.size + 1 + 1) 56 (downCells (zs.take k)) ∧ Box wr w.heap.size 56 #[.int .u64 0, .int .u64 0]) (fun i _ => zs.length - (intOf i).toNat)
  case atStart => exact ⟨0, by omega, rfl, (by repeat (first | with_reducible exact Kept.refl _ | with_reducible apply Kept.drew | with_reducible apply Kept.drewN | with_reducible apply Kept.alloc | (with_reducible refine Kept.setCellX ?_ ?_ _; focus (first | (simp; done) | (simp; omega))) | (with_reducible refine Kept.trans ?_ (by assumption)))), by rw [show upCells (zs.take 0) = #[.int .u64 0, .int .u64 0] from rfl]; exact (by repeat (first | with_reducible assumption | (with_reducible refine Box.newAt ?_ _ _; (simp; done)) | with_reducible apply Box.drew | with_reducible apply Box.drewN | (with_reducible refine Box.alloc ?_ _) | (with_reducible apply Box.s20) | (with_reducible apply Box.s21) | (with_reducible apply Box.s1) | (with_reducible apply Box.s40) | (with_reducible apply Box.s41) | (with_reducible apply Box.s42) | (with_reducible apply Box.s43) | (with_reducible refine Box.farX ?_ ?_ _; focus (first | (simp; done) | (simp; omega))))), by rw [show downCells (zs.take 0) = #[.int .u64 0, .int .u64 0] from rfl]; exact (by repeat (first | with_reducible assumption | (with_reducible refine Box.newAt ?_ _ _; (simp; done)) | with_reducible apply Box.drew | with_reducible apply Box.drewN | (with_reducible refine Box.alloc ?_ _) | (with_reducible apply Box.s20) | (with_reducible apply Box.s21) | (with_reducible apply Box.s1) | (with_reducible apply Box.s40) | (with_reducible apply Box.s41) | (with_reducible apply Box.s42) | (with_reducible apply Box.s43) | (with_reducible refine Box.farX ?_ ?_ _; focus (first | (simp; done) | (simp; omega))))), (by repeat (first | with_reducible assumption | (with_reducible refine Box.newAt ?_ _ _; (simp; done)) | with_reducible apply Box.drew | with_reducible apply Box.drewN | (with_reducible refine Box.alloc ?_ _) | (with_reducible apply Box.s20) | (with_reducible apply Box.s21) | (with_reducible apply Box.s1) | (with_reducible apply Box.s40) | (with_reducible apply Box.s41) | (with_reducible apply Box.s42) | (with_reducible apply Box.s43) | (with_reducible refine Box.farX ?_ ?_ _; focus (first | (simp; done) | (simp; omega)))))⟩
  case round =>
    obtain ⟨k, hk, rfl, hkept, bu, bd, bo⟩ := hrel
    by_cases hlt : k < zs.length
    · obtain ⟨b, off, rfl, hb, hc⟩ := hr k hlt
      have hc' : wr.cell? ⟨b, off + k, none⟩ = some (.int .i64 (zs.getD k 0)) := (hkept.cell (p := ⟨b, off + k, none⟩) hb).trans hc
      have ts := take_snoc zs k hlt
      have HA : All64 (zs.take k ++ [zs.getD k 0]) := by rw [← ts]; exact h64.take _
      have ha := HA (zs.getD k 0) (by simp)
      have HL : (zs.take k).length ≤ 9223372036854775807 := by have := List.length_take_le k zs; omega
      have TS := Lib.hid ts
      have H64 := Lib.hid h64
      have HR := Lib.hid hr
      have US := fun c => up_step HA HL c
      have DS := fun c => down_step HA HL c
      have Z := Lib.hid (fun w => rsize_any (zs.getD k 0) w ha)
      have PU := fun w => plus_any (hi64 (up (zs.take k))) (lo64 (up (zs.take k))) 0 (Lv.abs (zs.getD k 0)) w (hi64_u _) (lo64_u _) ⟨by omega, by omega⟩ (abs_u64 ha)
      have PD := fun w => plus_any (hi64 (down (zs.take k))) (lo64 (down (zs.take k))) 0 (Lv.abs (zs.getD k 0)) w (hi64_u _) (lo64_u _) ⟨by omega, by omega⟩ (abs_u64 ha)
      clear ts HA HL hc h64 hr ha
      generalize zs.getD k 0 = a at *
      generalize zs.take k = l at *
      by_cases ca : 0 ≤ a
      · have US' := US ca
        obtain ⟨e1, e2, e3⟩ := US'
        rw [e1, e2] at PU
        have HP := Lib.hid PU
        have E3 := Lib.hid e3
        clear US DS PU PD e1 e2 e3
        have cb : ¬ a < 0 := by omega
        have bx : Box wr (w.heap.size + 1) 56 #[.int .u64 (hi64 (up l)), .int .u64 (lo64 (up l))] := bu
        have bz : Box wr (w.heap.size + 1 + 1) 56 #[.int .u64 (hi64 (down l)), .int .u64 (lo64 (down l))] := bd
        clear bu bd
        have kb : b ≠ w.heap.size + 1 := by omega
        have kc : b ≠ w.heap.size + 1 + 1 := by omega
        have bx_0 := Box.c0 bx; have bx_1 := Box.c1 bx; have bx_f := Box.loose bx 0; have bx_g := Box.loose bx 1; have bz_0 := Box.c0 bz; have bz_1 := Box.c1 bz; have bz_f := Box.loose bz 0; have bz_g := Box.loose bz 1
        go_wp2_with fail
        refine wp_region_still_tail 7 (by kernel_rfl) (by kernel_rfl) ?_
        simp only [List.take_succ_cons, List.take_zero, List.drop_succ_cons, List.drop_zero]
        change wpStill _ _ (World.drew _) _ _ _
        repeat still_step
        still_call (still_same (Z.out _))
        repeat still_step
        refine wpStill_nil ?_
        change wpList _ _ _ _ _ (World.drew _)
        go_wp2_with fail
        refine (HP.out _).mono ?_
        rintro e w1 ⟨rfl, k1⟩
        have bu1 : Box w1 (w.heap.size + 1) 56 #[.int .u64 (hi64 (up l)), .int .u64 (lo64 (up l))] := Box.kept k1 (by repeat (first | with_reducible assumption | (with_reducible refine Box.newAt ?_ _ _; (simp; done)) | with_reducible apply Box.drew | with_reducible apply Box.drewN | (with_reducible refine Box.alloc ?_ _) | (with_reducible apply Box.s20) | (with_reducible apply Box.s21) | (with_reducible apply Box.s1) | (with_reducible apply Box.s40) | (with_reducible apply Box.s41) | (with_reducible apply Box.s42) | (with_reducible apply Box.s43) | (with_reducible refine Box.farX ?_ ?_ _; focus (first | (simp; done) | (simp; omega)))))
        have bd1 : Box w1 (w.heap.size + 1 + 1) 56 #[.int .u64 (hi64 (down l)), .int .u64 (lo64 (down l))] := Box.kept k1 (by repeat (first | with_reducible assumption | (with_reducible refine Box.newAt ?_ _ _; (simp; done)) | with_reducible apply Box.drew | with_reducible apply Box.drewN | (with_reducible refine Box.alloc ?_ _) | (with_reducible apply Box.s20) | (with_reducible apply Box.s21) | (with_reducible apply Box.s1) | (with_reducible apply Box.s40) | (with_reducible apply Box.s41) | (with_reducible apply Box.s42) | (with_reducible apply Box.s43) | (with_reducible refine Box.farX ?_ ?_ _; focus (first | (simp; done) | (simp; omega)))))
        have bo1 : Box w1 w.heap.size 56 #[.int .u64 0, .int .u64 0] := Box.kept k1 (by repeat (first | with_reducible assumption | (with_reducible refine Box.newAt ?_ _ _; (simp; done)) | with_reducible apply Box.drew | with_reducible apply Box.drewN | (with_reducible refine Box.alloc ?_ _) | (with_reducible apply Box.s20) | (with_reducible apply Box.s21) | (with_reducible apply Box.s1) | (with_reducible apply Box.s40) | (with_reducible apply Box.s41) | (with_reducible apply Box.s42) | (with_reducible apply Box.s43) | (with_reducible refine Box.farX ?_ ?_ _; focus (first | (simp; done) | (simp; omega)))))
        clear bx_0 bx_1 bx_f bx_g bz_0 bz_1 bz_f bz_g
        have bu1_0 := Box.c0 bu1; have bu1_1 := Box.c1 bu1; have bu1_f := Box.loose bu1 0; have bu1_g := Box.loose bu1 1
        go_wp2_with fail
        go_roundw
        case rel => exact ⟨k + 1, by omega, by go_num, (by repeat (first | with_reducible exact Kept.refl _ | with_reducible apply Kept.drew | with_reducible apply Kept.drewN | with_reducible apply Kept.alloc | (with_reducible refine Kept.setCellX ?_ ?_ _; focus (first | (simp; done) | (simp; omega))) | (with_reducible refine Kept.trans ?_ (by assumption)))), by rw [TS.out]; show Box _ (w.heap.size + 1) 56 #[.int .u64 (hi64 (up (l ++ [a]))), .int .u64 (lo64 (up (l ++ [a])))]; exact (by repeat (first | with_reducible assumption | (with_reducible refine Box.newAt ?_ _ _; (simp; done)) | with_reducible apply Box.drew | with_reducible apply Box.drewN | (with_reducible refine Box.alloc ?_ _) | (with_reducible apply Box.s20) | (with_reducible apply Box.s21) | (with_reducible apply Box.s1) | (with_reducible apply Box.s40) | (with_reducible apply Box.s41) | (with_reducible apply Box.s42) | (with_reducible apply Box.s43) | (with_reducible refine Box.farX ?_ ?_ _; focus (first | (simp; done) | (simp; omega))))), by rw [TS.out]; unfold downCells; rw [E3.out]; exact (by repeat (first | with_reducible assumption | (with_reducible refine Box.newAt ?_ _ _; (simp; done)) | with_reducible apply Box.drew | with_reducible apply Box.drewN | (with_reducible refine Box.alloc ?_ _) | (with_reducible apply Box.s20) | (with_reducible apply Box.s21) | (with_reducible apply Box.s1) | (with_reducible apply Box.s40) | (with_reducible apply Box.s41) | (with_reducible apply Box.s42) | (with_reducible apply Box.s43) | (with_reducible refine Box.farX ?_ ?_ _; focus (first | (simp; done) | (simp; omega))))), (by repeat (first | with_reducible assumption | (with_reducible refine Box.newAt ?_ _ _; (simp; done)) | with_reducible apply Box.drew | with_reducible apply Box.drewN | (with_reducible refine Box.alloc ?_ _) | (with_reducible apply Box.s20) | (with_reducible apply Box.s21) | (with_reducible apply Box.s1) | (with_reducible apply Box.s40) | (with_reducible apply Box.s41) | (with_reducible apply Box.s42) | (with_reducible apply Box.s43) | (with_reducible refine Box.farX ?_ ?_ _; focus (first | (simp; done) | (simp; omega)))))⟩
        case measure => simp [intOf]; omega
      · have DS' := DS (by omega)
        obtain ⟨e1, e2, e3⟩ := DS'
        rw [e1, e2] at PD
        have HP := Lib.hid PD
        have E3 := Lib.hid e3
        clear US DS PU PD e1 e2 e3
        have cb : a < 0 := by omega
        have bx : Box wr (w.heap.size + 1) 56 #[.int .u64 (hi64 (up l)), .int .u64 (lo64 (up l))] := bu
        have bz : Box wr (w.heap.size + 1 + 1) 56 #[.int .u64 (hi64 (down l)), .int .u64 (lo64 (down l))] := bd
        clear bu bd
        have kb : b ≠ w.heap.size + 1 := by omega
        have kc : b ≠ w.heap.size + 1 + 1 := by omega
        have bx_0 := Box.c0 bx; have bx_1 := Box.c1 bx; have bx_f := Box.loose bx 0; have bx_g := Box.loose bx 1; have bz_0 := Box.c0 bz; have bz_1 := Box.c1 bz; have bz_f := Box.loose bz 0; have bz_g := Box.loose bz 1
        go_wp2_with fail
        refine wp_region_still_tail 7 (by kernel_rfl) (by kernel_rfl) ?_
        simp only [List.take_succ_cons, List.take_zero, List.drop_succ_cons, List.drop_zero]
        change wpStill _ _ (World.drew _) _ _ _
        repeat still_step
        still_call (still_same (Z.out _))
        repeat still_step
        refine wpStill_nil ?_
        change wpList _ _ _ _ _ (World.drew _)
        go_wp2_with fail
        refine (HP.out _).mono ?_
        rintro e w1 ⟨rfl, k1⟩
        have bu1 : Box w1 (w.heap.size + 1) 56 #[.int .u64 (hi64 (up l)), .int .u64 (lo64 (up l))] := Box.kept k1 (by repeat (first | with_reducible assumption | (with_reducible refine Box.newAt ?_ _ _; (simp; done)) | with_reducible apply Box.drew | with_reducible apply Box.drewN | (with_reducible refine Box.alloc ?_ _) | (with_reducible apply Box.s20) | (with_reducible apply Box.s21) | (with_reducible apply Box.s1) | (with_reducible apply Box.s40) | (with_reducible apply Box.s41) | (with_reducible apply Box.s42) | (with_reducible apply Box.s43) | (with_reducible refine Box.farX ?_ ?_ _; focus (first | (simp; done) | (simp; omega)))))
        have bd1 : Box w1 (w.heap.size + 1 + 1) 56 #[.int .u64 (hi64 (down l)), .int .u64 (lo64 (down l))] := Box.kept k1 (by repeat (first | with_reducible assumption | (with_reducible refine Box.newAt ?_ _ _; (simp; done)) | with_reducible apply Box.drew | with_reducible apply Box.drewN | (with_reducible refine Box.alloc ?_ _) | (with_reducible apply Box.s20) | (with_reducible apply Box.s21) | (with_reducible apply Box.s1) | (with_reducible apply Box.s40) | (with_reducible apply Box.s41) | (with_reducible apply Box.s42) | (with_reducible apply Box.s43) | (with_reducible refine Box.farX ?_ ?_ _; focus (first | (simp; done) | (simp; omega)))))
        have bo1 : Box w1 w.heap.size 56 #[.int .u64 0, .int .u64 0] := Box.kept k1 (by repeat (first | with_reducible assumption | (with_reducible refine Box.newAt ?_ _ _; (simp; done)) | with_reducible apply Box.drew | with_reducible apply Box.drewN | (with_reducible refine Box.alloc ?_ _) | (with_reducible apply Box.s20) | (with_reducible apply Box.s21) | (with_reducible apply Box.s1) | (with_reducible apply Box.s40) | (with_reducible apply Box.s41) | (with_reducible apply Box.s42) | (with_reducible apply Box.s43) | (with_reducible refine Box.farX ?_ ?_ _; focus (first | (simp; done) | (simp; omega)))))
        clear bx_0 bx_1 bx_f bx_g bz_0 bz_1 bz_f bz_g
        have bd1_0 := Box.c0 bd1; have bd1_1 := Box.c1 bd1; have bd1_f := Box.loose bd1 0; have bd1_g := Box.loose bd1 1
        go_wp2_with fail
        go_roundw
        case rel => exact ⟨k + 1, by omega, by go_num, (by repeat (first | with_reducible exact Kept.refl _ | with_reducible apply Kept.drew | with_reducible apply Kept.drewN | with_reducible apply Kept.alloc | (with_reducible refine Kept.setCellX ?_ ?_ _; focus (first | (simp; done) | (simp; omega))) | (with_reducible refine Kept.trans ?_ (by assumption)))), by rw [TS.out]; unfold upCells; rw [E3.out]; exact (by repeat (first | with_reducible assumption | (with_reducible refine Box.newAt ?_ _ _; (simp; done)) | with_reducible apply Box.drew | with_reducible apply Box.drewN | (with_reducible refine Box.alloc ?_ _) | (with_reducible apply Box.s20) | (with_reducible apply Box.s21) | (with_reducible apply Box.s1) | (with_reducible apply Box.s40) | (with_reducible apply Box.s41) | (with_reducible apply Box.s42) | (with_reducible apply Box.s43) | (with_reducible refine Box.farX ?_ ?_ _; focus (first | (simp; done) | (simp; omega))))), by rw [TS.out]; show Box _ (w.heap.size + 1 + 1) 56 #[.int .u64 (hi64 (down (l ++ [a]))), .int .u64 (lo64 (down (l ++ [a])))]; exact (by repeat (first | with_reducible assumption | (with_reducible refine Box.newAt ?_ _ _; (simp; done)) | with_reducible apply Box.drew | with_reducible apply Box.drewN | (with_reducible refine Box.alloc ?_ _) | (with_reducible apply Box.s20) | (with_reducible apply Box.s21) | (with_reducible apply Box.s1) | (with_reducible apply Box.s40) | (with_reducible apply Box.s41) | (with_reducible apply Box.s42) | (with_reducible apply Box.s43) | (with_reducible refine Box.farX ?_ ?_ _; focus (first | (simp; done) | (simp; omega))))), (by repeat (first | with_reducible assumption | (with_reducible refine Box.newAt ?_ _ _; (simp; done)) | with_reducible apply Box.drew | with_reducible apply Box.drewN | (with_reducible refine Box.alloc ?_ _) | (with_reducible apply Box.s20) | (with_reducible apply Box.s21) | (with_reducible apply Box.s1) | (with_reducible apply Box.s40) | (with_reducible apply Box.s41) | (with_reducible apply Box.s42) | (with_reducible apply Box.s43) | (with_reducible refine Box.farX ?_ ?_ _; focus (first | (simp; done) | (simp; omega)))))⟩
        case measure => simp [intOf]; omega
    · obtain rfl : k = zs.length := by omega
      rw [List.take_length] at bu bd
      have bx : Box wr (w.heap.size + 1) 56 #[.int .u64 (hi64 (up zs)), .int .u64 (lo64 (up zs))] := bu
      have bz : Box wr (w.heap.size + 1 + 1) 56 #[.int .u64 (hi64 (down zs)), .int .u64 (lo64 (down zs))] := bd
      have B := up_bounds zs h64
      have Ls := fun w => less_any (hi64 (up zs)) (lo64 (up zs)) (hi64 (down zs)) (lo64 (down zs)) w (hi64_u _) (lo64_u _) (hi64_u _) (lo64_u _)
      have Mi1 := fun w => minus_any (hi64 (down zs)) (lo64 (down zs)) (hi64 (up zs)) (lo64 (up zs)) w (hi64_u _) (lo64_u _) (hi64_u _) (lo64_u _)
      have Mi2 := fun w => minus_any (hi64 (up zs)) (lo64 (up zs)) (hi64 (down zs)) (lo64 (down zs)) w (hi64_u _) (lo64_u _) (hi64_u _) (lo64_u _)
      rw [wd_in B.1 (by omega), wd_in B.2.2.1 (by omega)] at Ls Mi1 Mi2
      have ud := up_down zs
      clear bu bd hr h64
      by_cases lt : up zs < down zs
      · have e1 : down zs - up zs = Lv.abs (total zs) := by unfold Lv.abs; rw [if_pos (by omega)]; omega
        have e2 : Lv.neg (total zs) = true := decide_eq_true (by omega)
        rw [decide_eq_true lt] at Ls
        rw [e1] at Mi1
        have E2 := Lib.hid e2
        have HL := Lib.hid Ls
        have HM := Lib.hid Mi1
        clear Ls Mi1 Mi2 ud e1 e2 lt B
        have bx_0 := Box.c0 bx; have bx_1 := Box.c1 bx; have bx_f := Box.loose bx 0; have bx_g := Box.loose bx 1; have bz_0 := Box.c0 bz; have bz_1 := Box.c1 bz; have bz_f := Box.loose bz 0; have bz_g := Box.loose bz 1
        go_wp2_with fail
        refine (HL.out _).mono ?_
        rintro e w1 ⟨rfl, k1⟩
        have bu1 : Box w1 (w.heap.size + 1) 56 #[.int .u64 (hi64 (up zs)), .int .u64 (lo64 (up zs))] := Box.kept k1 (by repeat (first | with_reducible assumption | (with_reducible refine Box.newAt ?_ _ _; (simp; done)) | with_reducible apply Box.drew | with_reducible apply Box.drewN | (with_reducible refine Box.alloc ?_ _) | (with_reducible apply Box.s20) | (with_reducible apply Box.s21) | (with_reducible apply Box.s1) | (with_reducible apply Box.s40) | (with_reducible apply Box.s41) | (with_reducible apply Box.s42) | (with_reducible apply Box.s43) | (with_reducible refine Box.farX ?_ ?_ _; focus (first | (simp; done) | (simp; omega)))))
        have bd1 : Box w1 (w.heap.size + 1 + 1) 56 #[.int .u64 (hi64 (down zs)), .int .u64 (lo64 (down zs))] := Box.kept k1 (by repeat (first | with_reducible assumption | (with_reducible refine Box.newAt ?_ _ _; (simp; done)) | with_reducible apply Box.drew | with_reducible apply Box.drewN | (with_reducible refine Box.alloc ?_ _) | (with_reducible apply Box.s20) | (with_reducible apply Box.s21) | (with_reducible apply Box.s1) | (with_reducible apply Box.s40) | (with_reducible apply Box.s41) | (with_reducible apply Box.s42) | (with_reducible apply Box.s43) | (with_reducible refine Box.farX ?_ ?_ _; focus (first | (simp; done) | (simp; omega)))))
        have bo1 : Box w1 w.heap.size 56 #[.int .u64 0, .int .u64 0] := Box.kept k1 (by repeat (first | with_reducible assumption | (with_reducible refine Box.newAt ?_ _ _; (simp; done)) | with_reducible apply Box.drew | with_reducible apply Box.drewN | (with_reducible refine Box.alloc ?_ _) | (with_reducible apply Box.s20) | (with_reducible apply Box.s21) | (with_reducible apply Box.s1) | (with_reducible apply Box.s40) | (with_reducible apply Box.s41) | (with_reducible apply Box.s42) | (with_reducible apply Box.s43) | (with_reducible refine Box.farX ?_ ?_ _; focus (first | (simp; done) | (simp; omega)))))
        clear bx_0 bx_1 bx_f bx_g bz_0 bz_1 bz_f bz_g
        have bu1_0 := Box.c0 bu1; have bu1_1 := Box.c1 bu1; have bu1_f := Box.loose bu1 0; have bu1_g := Box.loose bu1 1; have bd1_0 := Box.c0 bd1; have bd1_1 := Box.c1 bd1; have bd1_f := Box.loose bd1 0; have bd1_g := Box.loose bd1 1
        go_wp2_with fail
        refine (HM.out _).mono ?_
        rintro e w2 ⟨rfl, k2⟩
        have bo2 : Box w2 w.heap.size 56 #[.int .u64 0, .int .u64 0] := Box.kept k2 (by repeat (first | with_reducible assumption | (with_reducible refine Box.newAt ?_ _ _; (simp; done)) | with_reducible apply Box.drew | with_reducible apply Box.drewN | (with_reducible refine Box.alloc ?_ _) | (with_reducible apply Box.s20) | (with_reducible apply Box.s21) | (with_reducible apply Box.s1) | (with_reducible apply Box.s40) | (with_reducible apply Box.s41) | (with_reducible apply Box.s42) | (with_reducible apply Box.s43) | (with_reducible refine Box.farX ?_ ?_ _; focus (first | (simp; done) | (simp; omega)))))
        have bo2_0 := Box.c0 bo2; have bo2_1 := Box.c1 bo2; have bo2_f := Box.loose bo2 0; have bo2_g := Box.loose bo2 1
        go_wp2_with fail
        exact bodyPost_ret (v := .tuple #[.agg #[.int .u64 (hi64 (Lv.abs (total zs))), .int .u64 (lo64 (Lv.abs (total zs)))], .bool true]) (by simp [results, Try.results60, go_sem, bo2_0, bo2_1]) rfl ⟨by rw [E2.out], (by repeat (first | with_reducible exact Kept.refl _ | with_reducible apply Kept.drew | with_reducible apply Kept.drewN | with_reducible apply Kept.alloc | (with_reducible refine Kept.setCellX ?_ ?_ _; focus (first | (simp; done) | (simp; omega))) | (with_reducible refine Kept.trans ?_ (by assumption))))⟩
      · have e1 : up zs - down zs = Lv.abs (total zs) := by unfold Lv.abs; rw [if_neg (by omega)]; omega
        have e2 : Lv.neg (total zs) = false := decide_eq_false (by omega)
        rw [decide_eq_false lt] at Ls
        rw [e1] at Mi2
        have E2 := Lib.hid e2
        have HL := Lib.hid Ls
        have HM := Lib.hid Mi2
        clear Ls Mi1 Mi2 ud e1 e2 lt B
        have bx_0 := Box.c0 bx; have bx_1 := Box.c1 bx; have bx_f := Box.loose bx 0; have bx_g := Box.loose bx 1; have bz_0 := Box.c0 bz; have bz_1 := Box.c1 bz; have bz_f := Box.loose bz 0; have bz_g := Box.loose bz 1
        go_wp2_with fail
        refine (HL.out _).mono ?_
        rintro e w1 ⟨rfl, k1⟩
        have bu1 : Box w1 (w.heap.size + 1) 56 #[.int .u64 (hi64 (up zs)), .int .u64 (lo64 (up zs))] := Box.kept k1 (by repeat (first | with_reducible assumption | (with_reducible refine Box.newAt ?_ _ _; (simp; done)) | with_reducible apply Box.drew | with_reducible apply Box.drewN | (with_reducible refine Box.alloc ?_ _) | (with_reducible apply Box.s20) | (with_reducible apply Box.s21) | (with_reducible apply Box.s1) | (with_reducible apply Box.s40) | (with_reducible apply Box.s41) | (with_reducible apply Box.s42) | (with_reducible apply Box.s43) | (with_reducible refine Box.farX ?_ ?_ _; focus (first | (simp; done) | (simp; omega)))))
        have bd1 : Box w1 (w.heap.size + 1 + 1) 56 #[.int .u64 (hi64 (down zs)), .int .u64 (lo64 (down zs))] := Box.kept k1 (by repeat (first | with_reducible assumption | (with_reducible refine Box.newAt ?_ _ _; (simp; done)) | with_reducible apply Box.drew | with_reducible apply Box.drewN | (with_reducible refine Box.alloc ?_ _) | (with_reducible apply Box.s20) | (with_reducible apply Box.s21) | (with_reducible apply Box.s1) | (with_reducible apply Box.s40) | (with_reducible apply Box.s41) | (with_reducible apply Box.s42) | (with_reducible apply Box.s43) | (with_reducible refine Box.farX ?_ ?_ _; focus (first | (simp; done) | (simp; omega)))))
        have bo1 : Box w1 w.heap.size 56 #[.int .u64 0, .int .u64 0] := Box.kept k1 (by repeat (first | with_reducible assumption | (with_reducible refine Box.newAt ?_ _ _; (simp; done)) | with_reducible apply Box.drew | with_reducible apply Box.drewN | (with_reducible refine Box.alloc ?_ _) | (with_reducible apply Box.s20) | (with_reducible apply Box.s21) | (with_reducible apply Box.s1) | (with_reducible apply Box.s40) | (with_reducible apply Box.s41) | (with_reducible apply Box.s42) | (with_reducible apply Box.s43) | (with_reducible refine Box.farX ?_ ?_ _; focus (first | (simp; done) | (simp; omega)))))
        clear bx_0 bx_1 bx_f bx_g bz_0 bz_1 bz_f bz_g
        have bu1_0 := Box.c0 bu1; have bu1_1 := Box.c1 bu1; have bu1_f := Box.loose bu1 0; have bu1_g := Box.loose bu1 1; have bd1_0 := Box.c0 bd1; have bd1_1 := Box.c1 bd1; have bd1_f := Box.loose bd1 0; have bd1_g := Box.loose bd1 1
        go_wp2_with fail
        refine (HM.out _).mono ?_
        rintro e w2 ⟨rfl, k2⟩
        have bo2 : Box w2 w.heap.size 56 #[.int .u64 0, .int .u64 0] := Box.kept k2 (by repeat (first | with_reducible assumption | (with_reducible refine Box.newAt ?_ _ _; (simp; done)) | with_reducible apply Box.drew | with_reducible apply Box.drewN | (with_reducible refine Box.alloc ?_ _) | (with_reducible apply Box.s20) | (with_reducible apply Box.s21) | (with_reducible apply Box.s1) | (with_reducible apply Box.s40) | (with_reducible apply Box.s41) | (with_reducible apply Box.s42) | (with_reducible apply Box.s43) | (with_reducible refine Box.farX ?_ ?_ _; focus (first | (simp; done) | (simp; omega)))))
        have bo2_0 := Box.c0 bo2; have bo2_1 := Box.c1 bo2; have bo2_f := Box.loose bo2 0; have bo2_g := Box.loose bo2 1
        go_wp2_with fail
        exact bodyPost_ret (v := .tuple #[.agg #[.int .u64 (hi64 (Lv.abs (total zs))), .int .u64 (lo64 (Lv.abs (total zs)))], .bool false]) (by simp [results, Try.results60, go_sem, bo2_0, bo2_1]) rfl ⟨by rw [E2.out], (by repeat (first | with_reducible exact Kept.refl _ | with_reducible apply Kept.drew | with_reducible apply Kept.drewN | with_reducible apply Kept.alloc | (with_reducible refine Kept.setCellX ?_ ?_ _; focus (first | (simp; done) | (simp; omega))) | (with_reducible refine Kept.trans ?_ (by assumption))))⟩

theorem wd_total (zs : List Int) (h64 : All64 zs) (hlen : zs.length ≤ 9223372036854775807) : wd (hi64 (Lv.abs (total zs))) (lo64 (Lv.abs (total zs))) = Lv.abs (total zs) := by
  have b := total_small zs h64 hlen
  exact wd_in b.1 (by omega)

theorem rsum_any (A : Option Addr) (cap : Nat) (zs : List Int) (w : World) (hr : Row w A zs) (h64 : All64 zs) (hlen : zs.length ≤ 9223372036854775807) :
    Calls Try.prog 27 #[.slice A zs.length cap] w fun e w' => e = .returned (.tuple #[.int .i64 (dSum zs).1, .bool (dSum zs).2]) ∧ Kept w w' := by
  have T := Lib.hid (rtotal_any A cap zs w hr h64 hlen)
  have S := fun w => rsigned_any (hi64 (Lv.abs (total zs))) (lo64 (Lv.abs (total zs))) (Lv.neg (total zs)) w (hi64_u _) (lo64_u _)
  rw [wd_total zs h64 hlen, sg_neg_abs] at S
  have HS := Lib.hid S
  clear S hr h64
  go_enter Try.func27, Try.ntmps27
  go_wp2_with fail
  refine T.out.mono ?_
  rintro e w1 ⟨rfl, k1⟩
  go_wp2_with fail
  refine (HS.out _).mono ?_
  rintro e w2 ⟨rfl, k2⟩
  go_wp2_with fail
  go_ret2
  exact ⟨rfl, (by repeat (first | with_reducible exact Kept.refl _ | with_reducible apply Kept.drew | with_reducible apply Kept.drewN | with_reducible apply Kept.alloc | (with_reducible refine Kept.setCellX ?_ ?_ _; focus (first | (simp; done) | (simp; omega))) | (with_reducible refine Kept.trans ?_ (by assumption))))⟩

theorem radd2_any (a b : Int) (w : World) (ha : i64 a) (hb : i64 b) :
    Calls Try.prog 16 #[.int .i64 a, .int .i64 b] w fun e w' => e = .returned (.tuple #[.int .i64 (dSum [a, b]).1, .bool (dSum [a, b]).2]) ∧ Kept w w' := by
  have h64 : All64 [a, b] := by
    intro x hx
    simp at hx
    rcases hx with rfl | rfl
    · exact ha
    · exact hb
  have S := Lib.hid (fun A cap w hr => rsum_any A cap [a, b] w hr h64 (by simp))
  clear ha hb h64
  go_enter Try.func16, Try.ntmps16
  go_wp2_with fail
  refine (S.out _ _ _ ?hr).mono ?_
  case hr =>
    refine Row.box (g := w.heap.size) (t := 2) (cs := #[.int .i64 a, .int .i64 b]) (by repeat (first | with_reducible assumption | (with_reducible refine Box.newAt ?_ _ _; (simp; done)) | with_reducible apply Box.drew | with_reducible apply Box.drewN | (with_reducible refine Box.alloc ?_ _) | (with_reducible apply Box.s20) | (with_reducible apply Box.s21) | (with_reducible apply Box.s1) | (with_reducible apply Box.s40) | (with_reducible apply Box.s41) | (with_reducible apply Box.s42) | (with_reducible apply Box.s43) | (with_reducible refine Box.farX ?_ ?_ _; focus (first | (simp; done) | (simp; omega))))) ?_
    intro i hi
    match i, hi with
    | 0, _ => rfl
    | 1, _ => rfl
  rintro e w1 ⟨rfl, hk⟩
  go_wp2_with fail
  go_ret2
  exact ⟨rfl, (by repeat (first | with_reducible exact Kept.refl _ | with_reducible apply Kept.drew | with_reducible apply Kept.drewN | with_reducible apply Kept.alloc | (with_reducible refine Kept.setCellX ?_ ?_ _; focus (first | (simp; done) | (simp; omega))) | (with_reducible refine Kept.trans ?_ (by assumption))))⟩

theorem rmean_any (A : Option Addr) (cap : Nat) (zs : List Int) (w : World) (hr : Row w A zs) (h64 : All64 zs) (hlen : zs.length ≤ 9223372036854775807) :
    Calls Try.prog 29 #[.slice A zs.length cap] w fun e w' => e = .returned (.tuple #[.int .i64 (dMean zs).1, .bool (dMean zs).2]) ∧ Kept w w' := by
  by_cases c : zs = []
  · subst c
    have D : dMean [] = (0, false) := if_pos rfl
    rw [D]
    go_enter Try.func29, Try.ntmps29
    go_wp2_with fail
    go_ret2
    exact ⟨rfl, (by repeat (first | with_reducible exact Kept.refl _ | with_reducible apply Kept.drew | with_reducible apply Kept.drewN | with_reducible apply Kept.alloc | (with_reducible refine Kept.setCellX ?_ ?_ _; focus (first | (simp; done) | (simp; omega))) | (with_reducible refine Kept.trans ?_ (by assumption))))⟩
  · have hl : 0 < zs.length := List.length_pos_iff.2 c
    have b := total_small zs h64 hlen
    have T := Lib.hid (rtotal_any A cap zs w hr h64 hlen)
    have N := fun w => rnearest_any (hi64 (Lv.abs (total zs))) (lo64 (Lv.abs (total zs))) zs.length w (hi64_u _) (lo64_u _) (by omega) (by omega)
    rw [wd_total zs h64 hlen] at N
    have S := fun w => rsigned_any (hi64 (rnd (Lv.abs (total zs)) zs.length)) (lo64 (rnd (Lv.abs (total zs)) zs.length)) (Lv.neg (total zs)) w (hi64_u _) (lo64_u _)
    rw [wd_rnd b.1 (by omega) (by omega)] at S
    have D : dMean zs = fit (sg (Lv.neg (total zs)) (rnd (Lv.abs (total zs)) zs.length)) := if_neg c
    rw [← D] at S
    have HS := Lib.hid S
    have HN := Lib.hid N
    have c' : ((zs.length : Int) == 0) = false := beq_eq_false_iff_ne.2 (by omega)
    clear S N D hr h64 c b
    generalize dMean zs = r at *
    generalize rnd (Lv.abs (total zs)) zs.length = q at *
    generalize Lv.abs (total zs) = t at *
    generalize Lv.neg (total zs) = ng at *
    go_enter Try.func29, Try.ntmps29
    go_wp2_with fail
    refine T.out.mono ?_
    rintro e w1 ⟨rfl, k1⟩
    go_wp2_with fail
    refine (HN.out _).mono ?_
    rintro e w2 ⟨rfl, k2⟩
    go_wp2_with fail
    refine (HS.out _).mono ?_
    rintro e w3 ⟨rfl, k3⟩
    go_wp2_with fail
    go_ret2
    exact ⟨rfl, (by repeat (first | with_reducible exact Kept.refl _ | with_reducible apply Kept.drew | with_reducible apply Kept.drewN | with_reducible apply Kept.alloc | (with_reducible refine Kept.setCellX ?_ ?_ _; focus (first | (simp; done) | (simp; omega))) | (with_reducible refine Kept.trans ?_ (by assumption))))⟩
end Go.Proofs.Ytingopdeckgpaaa
