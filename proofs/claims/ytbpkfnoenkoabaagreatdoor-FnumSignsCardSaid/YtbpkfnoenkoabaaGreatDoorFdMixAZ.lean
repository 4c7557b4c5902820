/- Small texts together: GRef15, WRef3, WRef4, WRef5, WRef6, GRNum13. -/
import Derived.Test.YtbpkfnoenkoabaaGreatDoorFdMixAW
import Derived.Test.YtbpkfnoenkoabaaGreatDoorFdMixAP
import Derived.StillTailTactics
import Derived.Deep.RegionHeld3
import Derived.Test.YtbpkfnoenkoabaaGreatDoorFdMixAO
import Derived.Test.YtbpkfnoenkoabaaGreatDoorFdGNum13b
import Derived.Test.YtbpkfnoenkoabaaGreatDoorFdBunC
import Derived.Test.YtbpkfnoenkoabaaGreatDoorFdBunV
namespace Go.Proofs.YtbpkfnoenkoabaaGreatDoor
set_option linter.unusedVariables false
set_option linter.unusedSimpArgs false
open Go.RowKit Lv
end Go.Proofs.YtbpkfnoenkoabaaGreatDoor

namespace Go.Proofs.YtbpkfnoenkoabaaGreatDoor
set_option linter.unusedVariables false
set_option linter.unusedSimpArgs false
open Go.RowKit Lv
end Go.Proofs.YtbpkfnoenkoabaaGreatDoor

namespace Go.Proofs.YtbpkfnoenkoabaaGreatDoor
set_option linter.unusedVariables false
set_option linter.unusedSimpArgs false
open Go.RowKit Lv
end Go.Proofs.YtbpkfnoenkoabaaGreatDoor

namespace Go.Proofs.YtbpkfnoenkoabaaGreatDoor
set_option linter.unusedVariables false
set_option linter.unusedSimpArgs false
open Go.RowKit Lv
end Go.Proofs.YtbpkfnoenkoabaaGreatDoor

namespace Go.Proofs.YtbpkfnoenkoabaaGreatDoor
set_option linter.unusedVariables false
set_option linter.unusedSimpArgs false
open Go.RowKit Lv
end Go.Proofs.YtbpkfnoenkoabaaGreatDoor

namespace Go.Proofs.YtbpkfnoenkoabaaGreatDoor
set_option linter.unusedVariables false
set_option linter.unusedSimpArgs false
open Go.RowKit Lv
set_option maxRecDepth 100000
theorem Own.one {w0 w : World} {s : Th} {H : List Th} (h : Own w0 (s :: H) w) : Own w0 [s] w := h.sub (by simp)
theorem en_louvreref01_Neg (args : Array Value) (w : World) : (callFunc 92 args).run Tryz.prog w = .ok (.enter 92 args) w := by go_simp
theorem en_louvreref01_Quo (args : Array Value) (w : World) : (callFunc 87 args).run Tryz.prog w = .ok (.enter 87 args) w := by go_simp
theorem en_louvreref05_Fail (args : Array Value) (w : World) : (callFunc 86 args).run Tryz.prog w = .ok (.enter 86 args) w := by go_simp
theorem en_louvreref05_Make (args : Array Value) (w : World) : (callFunc 96 args).run Tryz.prog w = .ok (.enter 96 args) w := by go_simp
theorem en_louvreref05_ToNumber (args : Array Value) (w : World) : (callFunc 91 args).run Tryz.prog w = .ok (.enter 91 args) w := by go_simp
theorem en_louvreref13_number (args : Array Value) (w : World) : (callFunc 82 args).run Tryz.prog w = .ok (.enter 82 args) w := by go_simp
set_option maxHeartbeats 4000000 in
theorem rnumber13_any (n : Int) (b : Bool) (w : World) (hn : b = true → i64 n) :
    Calls Tryz.prog 82 #[.int .i64 n, .bool b] w fun e w' => e = .returned (aggV (vRes (n, b))) ∧ Kept w w' := by
  go_enter Tryz.func82, Tryz.ntmps82
  refine wp_seq_k fun K1 hK1 => ?_
  refine rgn [yNew w.heap.size (.cells #[.int .u8 0, .int .i64 0, .string ⟨[].toArray⟩] 25 (0, 0))] 1 10 rfl (by kernel_rfl) (by kernel_rfl) (
    armP (wn rfl) (fun aa ww hk bs hd => xalloc rfl (by kernel_rfl)) rfl <|
    arm0) fun fa fw hk bs hv ap => ?_
  obtain ⟨z, q, ov⟩ := aft hk bs rfl rfl (Own.start w)
  have s0 := bs.get 0 rfl rfl
  have s1 := bs.get 1 rfl rfl
  obtain ⟨gb1, s4, bgb1, hgb1⟩ := gotP hv 0 rfl rfl rfl
  have ov := ov.cons hgb1 (Nat.le_trans (Own.start w).kept.size bgb1) ((Own.start w).below bgb1)
  have ow := ov
  clear hv ap bs hk ov
  refine wl_then (hK1 _ _ ?_)
  try clear hK1 K1
  refine wp_seq_k fun K2 hK2 => ?_
  refine wp_seq_k fun K3 hK3 => ?_
  refine rgn [yV _, yV _] 2 10 z (by kernel_rfl) (by kernel_rfl) (
    mvS s1 rfl rfl rfl rfl <|
    armS (wn rfl) (fun aa ww hk bs hd => xnot rfl (dep hd 0 rfl rfl rfl)) rfl <|
    arm0) fun fa fw hk bs hv ap => ?_
  obtain ⟨z, q, ov⟩ := aft hk bs z q ow
  have s0 := bs.get 0 rfl s0
  have s4 := bs.get 4 rfl s4
  have s6 := got hv 1 rfl rfl rfl
  have ow := ov
  clear hv ap bs hk ov
  refine wl_then (hK3 _ _ ?_)
  try clear hK3 K3
  by_cases hc1 : ¬ (b = true)
  · refine wp_cond_true (s6.trans (congrArg Value.bool ((bnot (Iff.rfl)).2 hc1))) ?_
    have hb : b = false := by simpa using hc1
    refine wp_seq_k fun K4 hK4 => ?_
    refine rgn [yV (aggV (vFail 3))] 1 10 z (by kernel_rfl) (by kernel_rfl) (
      armC (wn rfl) (fun aa ww hk bs hd => xcall1 rfl rfl (en_louvreref05_Fail _ _)) (fun aa ww hk bs hd => rfail_any 3 ww) rfl <|
      arm0) fun fa fw hk bs hv ap => ?_
    obtain ⟨z, q, ov⟩ := aft hk bs z q ow
    have s0 := bs.get 0 rfl s0
    have s4 := bs.get 4 rfl s4
    have s7 := got hv 0 rfl rfl rfl
    have ow := ov
    clear hv ap bs hk ov
    refine wl_store ow 0 0 (want0 rfl) rfl rfl s4 s7 (by kernel_rfl) rfl rfl rfl fun fw ow => ?_
    refine wl_then (hK4 _ _ ?_)
    try clear hK4 K4
    refine wp_ret ?_
    refine then_r ?_
    refine results_one rfl (res_cell (n := 3) _ s4 (by kernel_rfl) (by kernel_rfl) (ow.box 0 rfl) (Nat.le_of_ble_eq_true rfl) rfl) q ?_
    exact ⟨congrArg (fun v => Ending.returned (aggV v)) (show _ = vRes (n, b) by unfold vRes; rw [hb]; rfl), ow.kept⟩
  refine wp_cond_false (s6.trans (congrArg Value.bool (Bool.eq_false_iff.2 (fun c => hc1 ((bnot (Iff.rfl)).1 c))))) ?_
  have hb : b = true := by simpa using hc1
  refine wp_skip ?_
  refine then_n (hK2 _ _ ?_)
  try clear hK2 K2
  refine wp_seq_k fun K5 hK5 => ?_
  refine rgn [yV _, yV (aggV (vMake n))] 2 10 z (by kernel_rfl) (by kernel_rfl) (
    mvS s0 rfl rfl rfl rfl <|
    armC (wn rfl) (fun aa ww hk bs hd => xcall1 rfl (dep hd 0 rfl rfl rfl) (en_louvreref05_Make _ _)) (fun aa ww hk bs hd => rmake_any n ww (hn hb).1 (hn hb).2) rfl <|
    arm0) fun fa fw hk bs hv ap => ?_
  obtain ⟨z, q, ov⟩ := aft hk bs z q ow
  have s4 := bs.get 4 rfl s4
  have s9 := got hv 1 rfl rfl rfl
  have ow := ov
  clear hv ap bs hk ov
  refine wl_store ow 0 0 (want0 rfl) rfl rfl s4 s9 (by kernel_rfl) rfl rfl rfl fun fw ow => ?_
  refine wl_then (hK5 _ _ ?_)
  try clear hK5 K5
  refine wp_ret ?_
  refine results_one rfl (res_cell (n := 3) _ s4 (by kernel_rfl) (by kernel_rfl) (ow.box 0 rfl) (Nat.le_of_ble_eq_true rfl) rfl) q ?_
  exact ⟨congrArg (fun v => Ending.returned (aggV v)) (show _ = vRes (n, b) by unfold vRes; rw [hb]; rfl), ow.kept⟩
set_option maxHeartbeats 4000000 in
theorem rneg13_any (a : Vl) (w : World) (ha : Small a) :
    Calls Tryz.prog 33 #[aggV a] w fun e w' => e = .returned (aggV (vNeg13 a)) ∧ Kept w w' := by
  go_enter Tryz.func33, Tryz.ntmps33
  refine wp_seq_k fun K1 hK1 => ?_
  refine rgn [yNew w.heap.size (.cells #[.int .u8 a.k, .int .i64 a.n, .string ⟨a.t.toArray⟩] 25 (0, 0)), yNew w.heap.size (.cells #[.int .u8 0, .int .i64 0, .string ⟨[].toArray⟩] 25 (0, 0))] 2 16 rfl (by kernel_rfl) (by kernel_rfl) (
    armP (wn rfl) (fun aa ww hk bs hd => xbox rfl (bs.get 0 rfl rfl) (by kernel_rfl)) rfl <|
    armP (wn rfl) (fun aa ww hk bs hd => xalloc rfl (by kernel_rfl)) rfl <|
    arm0) fun fa fw hk bs hv ap => ?_
  obtain ⟨z, q, ov⟩ := aft hk bs rfl rfl (Own.start w)
  obtain ⟨gb1, s1, bgb1, hgb1⟩ := gotP hv 0 rfl rfl rfl
  have ov := ov.cons hgb1 (Nat.le_trans (Own.start w).kept.size bgb1) ((Own.start w).below bgb1)
  obtain ⟨gb2, s2, bgb2, hgb2⟩ := gotP hv 1 rfl rfl rfl
  have ov := ov.cons hgb2 (Nat.le_trans (Own.start w).kept.size bgb2) (ne_cons (apartP ap 0 1 rfl rfl rfl s1 rfl s2 rfl) ((Own.start w).below bgb2))
  have ow := ov
  clear hv ap bs hk ov
  refine wl_then (hK1 _ _ ?_)
  try clear hK1 K1
  refine wp_seq_k fun K2 hK2 => ?_
  refine rgn [yV (aggV a), yV (aggV (vNum a)), yNew fw.heap.size (.cells #[.int .u8 0, .int .i64 0, .string ⟨[].toArray⟩] 25 (0, 0))] 3 16 z (by kernel_rfl) (by kernel_rfl) (
    armS (wn rfl) (fun aa ww hk bs hd => xloadN 3 rfl (by kernel_rfl) (by kernel_rfl) (bs.get 1 rfl s1) ((ow.keep hk).box 1 rfl) (Nat.le_of_ble_eq_true rfl) rfl) rfl <|
    armC (wn rfl) (fun aa ww hk bs hd => xcall1 rfl (dep hd 0 rfl rfl rfl) (en_louvreref05_ToNumber _ _)) (fun aa ww hk bs hd => rtonum_any a ww ha.1 ha.2) rfl <|
    armP (wn rfl) (fun aa ww hk bs hd => xalloc rfl (by kernel_rfl)) rfl <|
    arm0) fun fa fw hk bs hv ap => ?_
  obtain ⟨z, q, ov⟩ := aft hk bs z q ow
  have s2 := bs.get 2 rfl s2
  have s5 := got hv 1 rfl rfl rfl
  obtain ⟨gb3, s3, bgb3, hgb3⟩ := gotP hv 2 rfl rfl rfl
  have ov := ov.cons hgb3 (Nat.le_trans ow.kept.size bgb3) (ow.below bgb3)
  have ow := ov
  clear hv ap bs hk ov
  refine wl_store ow 0 0 (want0 rfl) rfl rfl s3 s5 (by kernel_rfl) rfl rfl rfl fun fw ow => ?_
  refine wl_then (hK2 _ _ ?_)
  try clear hK2 K2
  refine wp_seq_k fun K3 hK3 => ?_
  refine wp_seq_k fun K4 hK4 => ?_
  refine rgn [yV (.pointer (some ⟨gb3, 0, none⟩)), yV _, yV _] 3 16 z (by kernel_rfl) (by kernel_rfl) (
    armS (wn rfl) (fun aa ww hk bs hd => xfieldAddr rfl (bs.get 3 rfl s3) (by kernel_rfl)) rfl <|
    armS (wn rfl) (fun aa ww hk bs hd => xloadB rfl (by kernel_rfl) (dep hd 0 rfl rfl rfl) ((ow.keep hk).box 0 rfl) rfl) rfl <|
    armS (wn rfl) (fun aa ww hk bs hd => xeqi rfl (dep hd 1 rfl rfl rfl) rfl) rfl <|
    arm0) fun fa fw hk bs hv ap => ?_
  obtain ⟨z, q, ov⟩ := aft hk bs z q ow
  have s2 := bs.get 2 rfl s2
  have s3 := bs.get 3 rfl s3
  have s8 := got hv 2 rfl rfl rfl
  have ow := ov
  clear hv ap bs hk ov
  refine wl_then (hK4 _ _ ?_)
  try clear hK4 K4
  by_cases hc1 : ((vNum a).k : Int) = (4 : Int)
  · refine wp_cond_true (s8.trans (congrArg Value.bool ((decide_eq_true_iff).2 hc1))) ?_
    have ea : isE (vNum a) = true := isE_yes hc1
    refine wp_seq_k fun K5 hK5 => ?_
    refine rgn [yV (aggV (vNum a))] 1 16 z (by kernel_rfl) (by kernel_rfl) (
      armS (wn rfl) (fun aa ww hk bs hd => xloadN 3 rfl (by kernel_rfl) (by kernel_rfl) (bs.get 3 rfl s3) ((ow.keep hk).box 0 rfl) (Nat.le_of_ble_eq_true rfl) rfl) rfl <|
      arm0) fun fa fw hk bs hv ap => ?_
    obtain ⟨z, q, ov⟩ := aft hk bs z q ow
    have s2 := bs.get 2 rfl s2
    have s3 := bs.get 3 rfl s3
    have s9 := got hv 0 rfl rfl rfl
    have ow := ov
    clear hv ap bs hk ov
    refine wl_store ow 1 0 (want0 rfl) rfl rfl s2 s9 (by kernel_rfl) rfl rfl rfl fun fw ow => ?_
    refine wl_then (hK5 _ _ ?_)
    try clear hK5 K5
    refine wp_ret ?_
    refine then_r ?_
    refine results_one rfl (res_cell (n := 3) _ s2 (by kernel_rfl) (by kernel_rfl) (ow.box 1 rfl) (Nat.le_of_ble_eq_true rfl) rfl) q ?_
    exact ⟨congrArg (fun v => Ending.returned (aggV v)) (show _ = vNeg13 a by unfold vNeg13; rw [if_pos ea]), ow.kept⟩
  refine wp_cond_false (s8.trans (congrArg Value.bool (Bool.eq_false_iff.2 (fun c => hc1 ((decide_eq_true_iff).1 c))))) ?_
  have ea : isE (vNum a) = false := isE_no hc1
  have ra := num_range ea ha.1
  have ia : i64 (vNum a).n := ⟨by omega, by omega⟩
  have im : i64 1000000 := ⟨by decide, by decide⟩
  refine wp_skip ?_
  refine then_n (hK3 _ _ ?_)
  try clear hK3 K3
  refine wp_seq_k fun K6 hK6 => ?_
  refine rgn [yV (.pointer (some ⟨gb3, 1, none⟩)), yV _, yV (.tuple #[.int .i64 ((dNeg ((vNum a).n)).1), .bool ((dNeg ((vNum a).n)).2)]), yV _, yV _, yV (aggV (vRes ((dNeg ((vNum a).n)).1, (dNeg ((vNum a).n)).2)))] 6 16 z (by kernel_rfl) (by kernel_rfl) (
    armS (wn rfl) (fun aa ww hk bs hd => xfieldAddr rfl (bs.get 3 rfl s3) (by kernel_rfl)) rfl <|
    armS (wn rfl) (fun aa ww hk bs hd => xloadB rfl (by kernel_rfl) (dep hd 0 rfl rfl rfl) ((ow.keep hk).box 0 rfl) rfl) rfl <|
    armC (wn rfl) (fun aa ww hk bs hd => xcall1 rfl (dep hd 1 rfl rfl rfl) (en_louvreref01_Neg _ _)) (fun aa ww hk bs hd => rneg_any ((vNum a).n) ww (by assumption)) rfl <|
    armS (wn rfl) (fun aa ww hk bs hd => xextract rfl (dep hd 2 rfl rfl rfl) rfl) rfl <|
    armS (wn rfl) (fun aa ww hk bs hd => xextract rfl (dep hd 2 rfl rfl rfl) rfl) rfl <|
    armC (wn rfl) (fun aa ww hk bs hd => xcall2 rfl (dep hd 3 rfl rfl rfl) (dep hd 4 rfl rfl rfl) (en_louvreref13_number _ _)) (fun aa ww hk bs hd => rnumber13_any ((dNeg ((vNum a).n)).1) ((dNeg ((vNum a).n)).2) ww (fun _ => by first | exact fit_i64 _ | exact dQuo_i64 _ _)) rfl <|
    arm0) fun fa fw hk bs hv ap => ?_
  obtain ⟨z, q, ov⟩ := aft hk bs z q ow
  have s2 := bs.get 2 rfl s2
  have s15 := got hv 5 rfl rfl rfl
  have ow := ov
  clear hv ap bs hk ov
  refine wl_store ow 1 0 (want0 rfl) rfl rfl s2 s15 (by kernel_rfl) rfl rfl rfl fun fw ow => ?_
  refine wl_then (hK6 _ _ ?_)
  try clear hK6 K6
  refine wp_ret ?_
  refine results_one rfl (res_cell (n := 3) _ s2 (by kernel_rfl) (by kernel_rfl) (ow.box 1 rfl) (Nat.le_of_ble_eq_true rfl) rfl) q ?_
  exact ⟨congrArg (fun v => Ending.returned (aggV v)) (show _ = vNeg13 a by unfold vNeg13; rw [if_neg (by rw [ea]; decide)]), ow.kept⟩
set_option maxHeartbeats 4000000 in
theorem rpercent13_any (a : Vl) (w : World) (ha : Small a) :
    Calls Tryz.prog 35 #[aggV a] w fun e w' => e = .returned (aggV (vPct13 a)) ∧ Kept w w' := by
  go_enter Tryz.func35, Tryz.ntmps35
  refine wp_seq_k fun K1 hK1 => ?_
  refine rgn [yNew w.heap.size (.cells #[.int .u8 a.k, .int .i64 a.n, .string ⟨a.t.toArray⟩] 25 (0, 0)), yNew w.heap.size (.cells #[.int .u8 0, .int .i64 0, .string ⟨[].toArray⟩] 25 (0, 0))] 2 16 rfl (by kernel_rfl) (by kernel_rfl) (
    armP (wn rfl) (fun aa ww hk bs hd => xbox rfl (bs.get 0 rfl rfl) (by kernel_rfl)) rfl <|
    armP (wn rfl) (fun aa ww hk bs hd => xalloc rfl (by kernel_rfl)) rfl <|
    arm0) fun fa fw hk bs hv ap => ?_
  obtain ⟨z, q, ov⟩ := aft hk bs rfl rfl (Own.start w)
  obtain ⟨gb1, s1, bgb1, hgb1⟩ := gotP hv 0 rfl rfl rfl
  have ov := ov.cons hgb1 (Nat.le_trans (Own.start w).kept.size bgb1) ((Own.start w).below bgb1)
  obtain ⟨gb2, s2, bgb2, hgb2⟩ := gotP hv 1 rfl rfl rfl
  have ov := ov.cons hgb2 (Nat.le_trans (Own.start w).kept.size bgb2) (ne_cons (apartP ap 0 1 rfl rfl rfl s1 rfl s2 rfl) ((Own.start w).below bgb2))
  have ow := ov
  clear hv ap bs hk ov
  refine wl_then (hK1 _ _ ?_)
  try clear hK1 K1
  refine wp_seq_k fun K2 hK2 => ?_
  refine rgn [yV (aggV a), yV (aggV (vNum a)), yNew fw.heap.size (.cells #[.int .u8 0, .int .i64 0, .string ⟨[].toArray⟩] 25 (0, 0))] 3 16 z (by kernel_rfl) (by kernel_rfl) (
    armS (wn rfl) (fun aa ww hk bs hd => xloadN 3 rfl (by kernel_rfl) (by kernel_rfl) (bs.get 1 rfl s1) ((ow.keep hk).box 1 rfl) (Nat.le_of_ble_eq_true rfl) rfl) rfl <|
    armC (wn rfl) (fun aa ww hk bs hd => xcall1 rfl (dep hd 0 rfl rfl rfl) (en_louvreref05_ToNumber _ _)) (fun aa ww hk bs hd => rtonum_any a ww ha.1 ha.2) rfl <|
    armP (wn rfl) (fun aa ww hk bs hd => xalloc rfl (by kernel_rfl)) rfl <|
    arm0) fun fa fw hk bs hv ap => ?_
  obtain ⟨z, q, ov⟩ := aft hk bs z q ow
  have s2 := bs.get 2 rfl s2
  have s5 := got hv 1 rfl rfl rfl
  obtain ⟨gb3, s3, bgb3, hgb3⟩ := gotP hv 2 rfl rfl rfl
  have ov := ov.cons hgb3 (Nat.le_trans ow.kept.size bgb3) (ow.below bgb3)
  have ow := ov
  clear hv ap bs hk ov
  refine wl_store ow 0 0 (want0 rfl) rfl rfl s3 s5 (by kernel_rfl) rfl rfl rfl fun fw ow => ?_
  refine wl_then (hK2 _ _ ?_)
  try clear hK2 K2
  refine wp_seq_k fun K3 hK3 => ?_
  refine wp_seq_k fun K4 hK4 => ?_
  refine rgn [yV (.pointer (some ⟨gb3, 0, none⟩)), yV _, yV _] 3 16 z (by kernel_rfl) (by kernel_rfl) (
    armS (wn rfl) (fun aa ww hk bs hd => xfieldAddr rfl (bs.get 3 rfl s3) (by kernel_rfl)) rfl <|
    armS (wn rfl) (fun aa ww hk bs hd => xloadB rfl (by kernel_rfl) (dep hd 0 rfl rfl rfl) ((ow.keep hk).box 0 rfl) rfl) rfl <|
    armS (wn rfl) (fun aa ww hk bs hd => xeqi rfl (dep hd 1 rfl rfl rfl) rfl) rfl <|
    arm0) fun fa fw hk bs hv ap => ?_
  obtain ⟨z, q, ov⟩ := aft hk bs z q ow
  have s2 := bs.get 2 rfl s2
  have s3 := bs.get 3 rfl s3
  have s8 := got hv 2 rfl rfl rfl
  have ow := ov
  clear hv ap bs hk ov
  refine wl_then (hK4 _ _ ?_)
  try clear hK4 K4
  by_cases hc1 : ((vNum a).k : Int) = (4 : Int)
  · refine wp_cond_true (s8.trans (congrArg Value.bool ((decide_eq_true_iff).2 hc1))) ?_
    have ea : isE (vNum a) = true := isE_yes hc1
    refine wp_seq_k fun K5 hK5 => ?_
    refine rgn [yV (aggV (vNum a))] 1 16 z (by kernel_rfl) (by kernel_rfl) (
      armS (wn rfl) (fun aa ww hk bs hd => xloadN 3 rfl (by kernel_rfl) (by kernel_rfl) (bs.get 3 rfl s3) ((ow.keep hk).box 0 rfl) (Nat.le_of_ble_eq_true rfl) rfl) rfl <|
      arm0) fun fa fw hk bs hv ap => ?_
    obtain ⟨z, q, ov⟩ := aft hk bs z q ow
    have s2 := bs.get 2 rfl s2
    have s3 := bs.get 3 rfl s3
    have s9 := got hv 0 rfl rfl rfl
    have ow := ov
    clear hv ap bs hk ov
    refine wl_store ow 1 0 (want0 rfl) rfl rfl s2 s9 (by kernel_rfl) rfl rfl rfl fun fw ow => ?_
    refine wl_then (hK5 _ _ ?_)
    try clear hK5 K5
    refine wp_ret ?_
    refine then_r ?_
    refine results_one rfl (res_cell (n := 3) _ s2 (by kernel_rfl) (by kernel_rfl) (ow.box 1 rfl) (Nat.le_of_ble_eq_true rfl) rfl) q ?_
    exact ⟨congrArg (fun v => Ending.returned (aggV v)) (show _ = vPct13 a by unfold vPct13; rw [if_pos ea]), ow.kept⟩
  refine wp_cond_false (s8.trans (congrArg Value.bool (Bool.eq_false_iff.2 (fun c => hc1 ((decide_eq_true_iff).1 c))))) ?_
  have ea : isE (vNum a) = false := isE_no hc1
  have ra := num_range ea ha.1
  have ia : i64 (vNum a).n := ⟨by omega, by omega⟩
  have im : i64 1000000 := ⟨by decide, by decide⟩
  refine wp_skip ?_
  refine then_n (hK3 _ _ ?_)
  try clear hK3 K3
  refine wp_seq_k fun K6 hK6 => ?_
  refine rgn [yV (.pointer (some ⟨gb3, 1, none⟩)), yV _, yV (.tuple #[.int .i64 ((dQuo ((vNum a).n) 1000000).1), .bool ((dQuo ((vNum a).n) 1000000).2)]), yV _, yV _, yV (aggV (vRes ((dQuo ((vNum a).n) 1000000).1, (dQuo ((vNum a).n) 1000000).2)))] 6 16 z (by kernel_rfl) (by kernel_rfl) (
    armS (wn rfl) (fun aa ww hk bs hd => xfieldAddr rfl (bs.get 3 rfl s3) (by kernel_rfl)) rfl <|
    armS (wn rfl) (fun aa ww hk bs hd => xloadB rfl (by kernel_rfl) (dep hd 0 rfl rfl rfl) ((ow.keep hk).box 0 rfl) rfl) rfl <|
    armC (wn rfl) (fun aa ww hk bs hd => xcall2 rfl (dep hd 1 rfl rfl rfl) rfl (en_louvreref01_Quo _ _)) (fun aa ww hk bs hd => rquo_any ((vNum a).n) 1000000 ww (by assumption) (by assumption)) rfl <|
    armS (wn rfl) (fun aa ww hk bs hd => xextract rfl (dep hd 2 rfl rfl rfl) rfl) rfl <|
    armS (wn rfl) (fun aa ww hk bs hd => xextract rfl (dep hd 2 rfl rfl rfl) rfl) rfl <|
    armC (wn rfl) (fun aa ww hk bs hd => xcall2 rfl (dep hd 3 rfl rfl rfl) (dep hd 4 rfl rfl rfl) (en_louvreref13_number _ _)) (fun aa ww hk bs hd => rnumber13_any ((dQuo ((vNum a).n) 1000000).1) ((dQuo ((vNum a).n) 1000000).2) ww (fun _ => by first | exact fit_i64 _ | exact dQuo_i64 _ _)) rfl <|
    arm0) fun fa fw hk bs hv ap => ?_
  obtain ⟨z, q, ov⟩ := aft hk bs z q ow
  have s2 := bs.get 2 rfl s2
  have s15 := got hv 5 rfl rfl rfl
  have ow := ov
  clear hv ap bs hk ov
  refine wl_store ow 1 0 (want0 rfl) rfl rfl s2 s15 (by kernel_rfl) rfl rfl rfl fun fw ow => ?_
  refine wl_then (hK6 _ _ ?_)
  try clear hK6 K6
  refine wp_ret ?_
  refine results_one rfl (res_cell (n := 3) _ s2 (by kernel_rfl) (by kernel_rfl) (ow.box 1 rfl) (Nat.le_of_ble_eq_true rfl) rfl) q ?_
  exact ⟨congrArg (fun v => Ending.returned (aggV v)) (show _ = vPct13 a by unfold vPct13; rw [if_neg (by rw [ea]; decide)]), ow.kept⟩
end Go.Proofs.YtbpkfnoenkoabaaGreatDoor
