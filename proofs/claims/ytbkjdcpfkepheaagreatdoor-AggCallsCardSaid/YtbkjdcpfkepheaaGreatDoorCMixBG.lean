/- Small texts together: WRef4, GRef16e. -/
import Derived.Test.YtbkjdcpfkepheaaGreatDoorCMixBF
set_option linter.unusedVariables false
set_option linter.unusedSimpArgs false
set_option maxHeartbeats 4000000
set_option maxRecDepth 100000
namespace Go.Proofs.YtbkjdcpfkepheaaGreatDoor
section
open Go.RowKit Lv
def tx (l : List Int) : Array Value := #[.int .u64 (aF (up l)), .int .u64 (aK (up l))]
def mO (l : List Int) : Array Value := #[.int .u64 (aF (dC l)), .int .u64 (aK (dC l))]
theorem FM {l : List Int} {a : Int} (h : All64 (l ++ [a])) (hl : l.length ≤ 9223372036854775807) (c : 0 ≤ a) :
    aF (wd (aF (up l)) (aK (up l)) + wd 0 (Lv.abs a)) = aF (up (l ++ [a])) ∧ aK (wd (aF (up l)) (aK (up l)) + wd 0 (Lv.abs a)) = aK (up (l ++ [a])) ∧ dC (l ++ [a]) = dC l := by
  have b := ey l (fun x hx => h x (by simp [hx])); rw [cV b.1 (by omega), oD, jy, if_neg (by omega), if_neg (by omega)]; rw [show Lv.abs a = a by unfold Lv.abs; rw [if_neg (by omega)]]; rw [show wd 0 a = a by unfold wd; omega]; exact ⟨rfl, rfl, by omega⟩
theorem AL {l : List Int} {a : Int} (h : All64 (l ++ [a])) (hl : l.length ≤ 9223372036854775807) (c : a < 0) :
    aF (wd (aF (dC l)) (aK (dC l)) + wd 0 (Lv.abs a)) = aF (dC (l ++ [a])) ∧ aK (wd (aF (dC l)) (aK (dC l)) + wd 0 (Lv.abs a)) = aK (dC (l ++ [a])) ∧ up (l ++ [a]) = up l := by
  have b := ey l (fun x hx => h x (by simp [hx])); rw [cV b.2.2.1 (by omega), oD, jy, if_pos c, if_pos c]; rw [show Lv.abs a = -a by unfold Lv.abs; rw [if_pos c]]; rw [show wd 0 (-a) = -a by unfold wd; omega]; exact ⟨rfl, rfl, by omega⟩
theorem nZ (A : Option Addr) (cap : Nat) (zs : List Int) (w : World) (hr : Row w A zs) (h64 : All64 zs) (hlen : zs.length ≤ 9223372036854775807) :
    Calls Tryz.prog 143 #[.slice A zs.length cap] w fun e w' => e = .returned (.tuple #[.agg #[.int .u64 (aF (Lv.abs (aW zs))), .int .u64 (aK (Lv.abs (aW zs)))], .bool (Lv.neg (aW zs))]) ∧ Kept w w' := by
  go_enter Tryz.func143, Tryz.ntmps143; go_wp2_with fail
  go_loopw [6] (fun i wr => ∃ k : Nat, k ≤ zs.length ∧ i = .int .i64 k ∧ Kept w wr ∧ Box wr (w.heap.size + 1) 142 (tx (zs.take k)) ∧ Box wr (w.heap.size + 1 + 1) 142 (mO (zs.take k)) ∧ Box wr w.heap.size 142 #[.int .u64 0, .int .u64 0]) (fun i _ => zs.length - (intOf i).toNat)
  case atStart => exact ⟨0, by omega, rfl, kpt, by rw [show tx (zs.take 0) = #[.int .u64 0, .int .u64 0] from rfl]; exact bxd, by rw [show mO (zs.take 0) = #[.int .u64 0, .int .u64 0] from rfl]; exact bxd, bxd⟩
  case round =>
    obtain ⟨k, hk, rfl, hkept, bu, bd, bo⟩ := hrel
    by_cases hlt : k < zs.length
    · obtain ⟨b, off, rfl, hb, hc⟩ := hr k hlt
      have hc' : wr.cell? ⟨b, off + k, none⟩ = some (.int .i64 (zs.getD k 0)) := (hkept.cell (p := ⟨b, off + k, none⟩) hb).trans hc; have ts := qr zs k hlt; have HA : All64 (zs.take k ++ [zs.getD k 0]) := by rw [← ts]; exact h64.take _
      have ha := HA (zs.getD k 0) (by simp); have HL : (zs.take k).length ≤ 9223372036854775807 := by have := List.length_take_le k zs; omega
      have TS := Lib.hid ts; have H64 := Lib.hid h64; have HR := Lib.hid hr; have US := fun c => FM HA HL c; have DS := fun c => AL HA HL c; have Z := Lib.hid (fun w => lK (zs.getD k 0) w ha); have PU := fun w => bE (aF (up (zs.take k))) (aK (up (zs.take k))) 0 (Lv.abs (zs.getD k 0)) w (aQ _) (aO _) ⟨by omega, by omega⟩ (eB ha); have PD := fun w => bE (aF (dC (zs.take k))) (aK (dC (zs.take k))) 0 (Lv.abs (zs.getD k 0)) w (aQ _) (aO _) ⟨by omega, by omega⟩ (eB ha); clear ts HA HL hc h64 hr ha; generalize zs.getD k 0 = a at *; generalize zs.take k = l at *
      by_cases ca : 0 ≤ a
      · have US' := US ca
        obtain ⟨e1, e2, e3⟩ := US'; rw [e1, e2] at PU; have HP := Lib.hid PU; have E3 := Lib.hid e3; clear US DS PU PD e1 e2 e3; have cb : ¬ a < 0 := by omega
        have bx : Box wr (w.heap.size + 1) 142 #[.int .u64 (aF (up l)), .int .u64 (aK (up l))] := bu; have bz : Box wr (w.heap.size + 1 + 1) 142 #[.int .u64 (aF (dC l)), .int .u64 (aK (dC l))] := bd; clear bu bd; have kb : b ≠ w.heap.size + 1 := by omega
        have kc : b ≠ w.heap.size + 1 + 1 := by omega
        have bx_0 := Box.c0 bx; have bx_1 := Box.c1 bx; have bx_f := Box.loose bx 0; have bx_g := Box.loose bx 1; have bz_0 := Box.c0 bz; have bz_1 := Box.c1 bz; have bz_f := Box.loose bz 0; have bz_g := Box.loose bz 1; go_wp2_with fail; refine wp_region_still_tail 7 (by kernel_rfl) (by kernel_rfl) ?_
        simp only [List.take_succ_cons, List.take_zero, List.drop_succ_cons, List.drop_zero]
        change wpStill _ _ (World.drew _) _ _ _
        repeat still_step
        still_call (nY (Z.out _))
        repeat still_step
        refine wpStill_nil ?_
        change wpList _ _ _ _ _ (World.drew _)
        go_wp2_with fail; refine (HP.out _).mono ?_; rintro e w1 ⟨rfl, k1⟩; have bu1 : Box w1 (w.heap.size + 1) 142 #[.int .u64 (aF (up l)), .int .u64 (aK (up l))] := Box.kept k1 bxd; have bd1 : Box w1 (w.heap.size + 1 + 1) 142 #[.int .u64 (aF (dC l)), .int .u64 (aK (dC l))] := Box.kept k1 bxd; have bo1 : Box w1 w.heap.size 142 #[.int .u64 0, .int .u64 0] := Box.kept k1 bxd; clear bx_0 bx_1 bx_f bx_g bz_0 bz_1 bz_f bz_g; have bu1_0 := Box.c0 bu1; have bu1_1 := Box.c1 bu1; have bu1_f := Box.loose bu1 0; have bu1_g := Box.loose bu1 1; go_wp2_with fail
        go_roundw
        case rel => exact ⟨k + 1, by omega, by go_num, kpt, by rw [TS.out]; show Box _ (w.heap.size + 1) 142 #[.int .u64 (aF (up (l ++ [a]))), .int .u64 (aK (up (l ++ [a])))]; exact bxd, by rw [TS.out]; unfold mO; rw [E3.out]; exact bxd, bxd⟩
        case measure => simp [intOf]; omega
      · have DS' := DS (by omega)
        obtain ⟨e1, e2, e3⟩ := DS'; rw [e1, e2] at PD; have HP := Lib.hid PD; have E3 := Lib.hid e3; clear US DS PU PD e1 e2 e3; have cb : a < 0 := by omega
        have bx : Box wr (w.heap.size + 1) 142 #[.int .u64 (aF (up l)), .int .u64 (aK (up l))] := bu; have bz : Box wr (w.heap.size + 1 + 1) 142 #[.int .u64 (aF (dC l)), .int .u64 (aK (dC l))] := bd; clear bu bd; have kb : b ≠ w.heap.size + 1 := by omega
        have kc : b ≠ w.heap.size + 1 + 1 := by omega
        have bx_0 := Box.c0 bx; have bx_1 := Box.c1 bx; have bx_f := Box.loose bx 0; have bx_g := Box.loose bx 1; have bz_0 := Box.c0 bz; have bz_1 := Box.c1 bz; have bz_f := Box.loose bz 0; have bz_g := Box.loose bz 1; go_wp2_with fail; refine wp_region_still_tail 7 (by kernel_rfl) (by kernel_rfl) ?_
        simp only [List.take_succ_cons, List.take_zero, List.drop_succ_cons, List.drop_zero]
        change wpStill _ _ (World.drew _) _ _ _
        repeat still_step
        still_call (nY (Z.out _))
        repeat still_step
        refine wpStill_nil ?_
        change wpList _ _ _ _ _ (World.drew _)
        go_wp2_with fail; refine (HP.out _).mono ?_; rintro e w1 ⟨rfl, k1⟩; have bu1 : Box w1 (w.heap.size + 1) 142 #[.int .u64 (aF (up l)), .int .u64 (aK (up l))] := Box.kept k1 bxd; have bd1 : Box w1 (w.heap.size + 1 + 1) 142 #[.int .u64 (aF (dC l)), .int .u64 (aK (dC l))] := Box.kept k1 bxd; have bo1 : Box w1 w.heap.size 142 #[.int .u64 0, .int .u64 0] := Box.kept k1 bxd; clear bx_0 bx_1 bx_f bx_g bz_0 bz_1 bz_f bz_g; have bd1_0 := Box.c0 bd1; have bd1_1 := Box.c1 bd1; have bd1_f := Box.loose bd1 0; have bd1_g := Box.loose bd1 1; go_wp2_with fail
        go_roundw
        case rel => exact ⟨k + 1, by omega, by go_num, kpt, by rw [TS.out]; unfold tx; rw [E3.out]; exact bxd, by rw [TS.out]; show Box _ (w.heap.size + 1 + 1) 142 #[.int .u64 (aF (dC (l ++ [a]))), .int .u64 (aK (dC (l ++ [a])))]; exact bxd, bxd⟩
        case measure => simp [intOf]; omega
    · obtain rfl : k = zs.length := by omega
      rw [List.take_length] at bu bd; have bx : Box wr (w.heap.size + 1) 142 #[.int .u64 (aF (up zs)), .int .u64 (aK (up zs))] := bu; have bz : Box wr (w.heap.size + 1 + 1) 142 #[.int .u64 (aF (dC zs)), .int .u64 (aK (dC zs))] := bd; have B := ey zs h64; have Ls := fun w => B4 (aF (up zs)) (aK (up zs)) (aF (dC zs)) (aK (dC zs)) w (aQ _) (aO _) (aQ _) (aO _); have Mi1 := fun w => qF (aF (dC zs)) (aK (dC zs)) (aF (up zs)) (aK (up zs)) w (aQ _) (aO _) (aQ _) (aO _); have Mi2 := fun w => qF (aF (up zs)) (aK (up zs)) (aF (dC zs)) (aK (dC zs)) w (aQ _) (aO _) (aQ _) (aO _); rw [cV B.1 (by omega), cV B.2.2.1 (by omega)] at Ls Mi1 Mi2; have ud := sA zs; clear bu bd hr h64
      by_cases lt : up zs < dC zs
      · have e1 : dC zs - up zs = Lv.abs (aW zs) := by unfold Lv.abs; rw [if_pos (by omega)]; omega
        have e2 : Lv.neg (aW zs) = true := decide_eq_true (by omega); rw [decide_eq_true lt] at Ls; rw [e1] at Mi1; have E2 := Lib.hid e2; have HL := Lib.hid Ls; have HM := Lib.hid Mi1; clear Ls Mi1 Mi2 ud e1 e2 lt B; have bx_0 := Box.c0 bx; have bx_1 := Box.c1 bx; have bx_f := Box.loose bx 0; have bx_g := Box.loose bx 1; have bz_0 := Box.c0 bz; have bz_1 := Box.c1 bz; have bz_f := Box.loose bz 0; have bz_g := Box.loose bz 1; go_wp2_with fail; refine (HL.out _).mono ?_; rintro e w1 ⟨rfl, k1⟩; have bu1 : Box w1 (w.heap.size + 1) 142 #[.int .u64 (aF (up zs)), .int .u64 (aK (up zs))] := Box.kept k1 bxd; have bd1 : Box w1 (w.heap.size + 1 + 1) 142 #[.int .u64 (aF (dC zs)), .int .u64 (aK (dC zs))] := Box.kept k1 bxd; have bo1 : Box w1 w.heap.size 142 #[.int .u64 0, .int .u64 0] := Box.kept k1 bxd; clear bx_0 bx_1 bx_f bx_g bz_0 bz_1 bz_f bz_g; have bu1_0 := Box.c0 bu1; have bu1_1 := Box.c1 bu1; have bu1_f := Box.loose bu1 0; have bu1_g := Box.loose bu1 1; have bd1_0 := Box.c0 bd1; have bd1_1 := Box.c1 bd1; have bd1_f := Box.loose bd1 0; have bd1_g := Box.loose bd1 1; go_wp2_with fail; refine (HM.out _).mono ?_; rintro e w2 ⟨rfl, k2⟩; have bo2 : Box w2 w.heap.size 142 #[.int .u64 0, .int .u64 0] := Box.kept k2 bxd; have bo2_0 := Box.c0 bo2; have bo2_1 := Box.c1 bo2; have bo2_f := Box.loose bo2 0; have bo2_g := Box.loose bo2 1; go_wp2_with fail; exact bodyPost_ret (v := .tuple #[.agg #[.int .u64 (aF (Lv.abs (aW zs))), .int .u64 (aK (Lv.abs (aW zs)))], .bool true]) (by simp [results, Tryz.results143, go_sem, bo2_0, bo2_1]) rfl ⟨by rw [E2.out], kpt⟩
      · have e1 : up zs - dC zs = Lv.abs (aW zs) := by unfold Lv.abs; rw [if_neg (by omega)]; omega
        have e2 : Lv.neg (aW zs) = false := decide_eq_false (by omega); rw [decide_eq_false lt] at Ls; rw [e1] at Mi2; have E2 := Lib.hid e2; have HL := Lib.hid Ls; have HM := Lib.hid Mi2; clear Ls Mi1 Mi2 ud e1 e2 lt B; have bx_0 := Box.c0 bx; have bx_1 := Box.c1 bx; have bx_f := Box.loose bx 0; have bx_g := Box.loose bx 1; have bz_0 := Box.c0 bz; have bz_1 := Box.c1 bz; have bz_f := Box.loose bz 0; have bz_g := Box.loose bz 1; go_wp2_with fail; refine (HL.out _).mono ?_; rintro e w1 ⟨rfl, k1⟩; have bu1 : Box w1 (w.heap.size + 1) 142 #[.int .u64 (aF (up zs)), .int .u64 (aK (up zs))] := Box.kept k1 bxd; have bd1 : Box w1 (w.heap.size + 1 + 1) 142 #[.int .u64 (aF (dC zs)), .int .u64 (aK (dC zs))] := Box.kept k1 bxd; have bo1 : Box w1 w.heap.size 142 #[.int .u64 0, .int .u64 0] := Box.kept k1 bxd; clear bx_0 bx_1 bx_f bx_g bz_0 bz_1 bz_f bz_g; have bu1_0 := Box.c0 bu1; have bu1_1 := Box.c1 bu1; have bu1_f := Box.loose bu1 0; have bu1_g := Box.loose bu1 1; have bd1_0 := Box.c0 bd1; have bd1_1 := Box.c1 bd1; have bd1_f := Box.loose bd1 0; have bd1_g := Box.loose bd1 1; go_wp2_with fail; refine (HM.out _).mono ?_; rintro e w2 ⟨rfl, k2⟩; have bo2 : Box w2 w.heap.size 142 #[.int .u64 0, .int .u64 0] := Box.kept k2 bxd; have bo2_0 := Box.c0 bo2; have bo2_1 := Box.c1 bo2; have bo2_f := Box.loose bo2 0; have bo2_g := Box.loose bo2 1; go_wp2_with fail; exact bodyPost_ret (v := .tuple #[.agg #[.int .u64 (aF (Lv.abs (aW zs))), .int .u64 (aK (Lv.abs (aW zs)))], .bool false]) (by simp [results, Tryz.results143, go_sem, bo2_0, bo2_1]) rfl ⟨by rw [E2.out], kpt⟩
theorem vh (zs : List Int) (h64 : All64 zs) (hlen : zs.length ≤ 9223372036854775807) : wd (aF (Lv.abs (aW zs))) (aK (Lv.abs (aW zs))) = Lv.abs (aW zs) := by
  have b := ga zs h64 hlen; exact cV b.1 (by omega)
theorem vi (A : Option Addr) (cap : Nat) (zs : List Int) (w : World) (hr : Row w A zs) (h64 : All64 zs) (hlen : zs.length ≤ 9223372036854775807) :
    Calls Tryz.prog 114 #[.slice A zs.length cap] w fun e w' => e = .returned (.tuple #[.int .i64 (lZ zs).1, .bool (lZ zs).2]) ∧ Kept w w' := by
  have T := Lib.hid (nZ A cap zs w hr h64 hlen); have S := fun w => bm (aF (Lv.abs (aW zs))) (aK (Lv.abs (aW zs))) (Lv.neg (aW zs)) w (aQ _) (aO _); rw [vh zs h64 hlen, nl] at S; have HS := Lib.hid S; clear S hr h64; go_enter Tryz.func114, Tryz.ntmps114; go_wp2_with fail; refine T.out.mono ?_; rintro e w1 ⟨rfl, k1⟩; go_wp2_with fail; refine (HS.out _).mono ?_; rintro e w2 ⟨rfl, k2⟩; go_wp2_with fail; go_ret2; exact ⟨rfl, kpt⟩
theorem mP (A : Option Addr) (cap : Nat) (zs : List Int) (w : World) (hr : Row w A zs) (h64 : All64 zs) (hlen : zs.length ≤ 9223372036854775807) :
    Calls Tryz.prog 116 #[.slice A zs.length cap] w fun e w' => e = .returned (.tuple #[.int .i64 (bM zs).1, .bool (bM zs).2]) ∧ Kept w w' := by
  by_cases c : zs = []
  · subst c
    have D : bM [] = (0, false) := if_pos rfl; rw [D]; go_enter Tryz.func116, Tryz.ntmps116; go_wp2_with fail; go_ret2; exact ⟨rfl, kpt⟩
  · have hl : 0 < zs.length := List.length_pos_iff.2 c
    have b := ga zs h64 hlen; have T := Lib.hid (nZ A cap zs w hr h64 hlen); have N := fun w => kP (aF (Lv.abs (aW zs))) (aK (Lv.abs (aW zs))) zs.length w (aQ _) (aO _) (by omega) (by omega); rw [vh zs h64 hlen] at N; have S := fun w => bm (aF (rnd (Lv.abs (aW zs)) zs.length)) (aK (rnd (Lv.abs (aW zs)) zs.length)) (Lv.neg (aW zs)) w (aQ _) (aO _); rw [DI b.1 (by omega) (by omega)] at S; have D : bM zs = fit (sg (Lv.neg (aW zs)) (rnd (Lv.abs (aW zs)) zs.length)) := if_neg c; rw [← D] at S; have HS := Lib.hid S; have HN := Lib.hid N; have c' : ((zs.length : Int) == 0) = false := beq_eq_false_iff_ne.2 (by omega); clear S N D hr h64 c b; generalize bM zs = r at *; generalize rnd (Lv.abs (aW zs)) zs.length = q at *; generalize Lv.abs (aW zs) = t at *; generalize Lv.neg (aW zs) = ng at *; go_enter Tryz.func116, Tryz.ntmps116; go_wp2_with fail; refine T.out.mono ?_; rintro e w1 ⟨rfl, k1⟩; go_wp2_with fail; refine (HN.out _).mono ?_; rintro e w2 ⟨rfl, k2⟩; go_wp2_with fail; refine (HS.out _).mono ?_; rintro e w3 ⟨rfl, k3⟩; go_wp2_with fail; go_ret2; exact ⟨rfl, kpt⟩
end

section
open Go.RowKit Lv
set_option maxRecDepth 100000
theorem vj {w : World} {B n : Nat} {v : Value} {L : List Int} (h : OwnI w B v L) (hn : L.length = n) (h0 : 0 < n) : ∃ g c, v = .slice (some ⟨g, 0, none⟩) n c ∧ w.ownsRow B 2 1 (.slice (some ⟨g, 0, none⟩) n c) n (L.map cj) ∧ n ≤ c := by
  subst hn; have h' := h; rcases h.2 with ⟨_, e⟩ | ⟨g, cap, cur, e, hb, hh, hc, r⟩
  · omega
  · subst e
    exact ⟨g, cap, rfl, h', hc⟩
theorem IO {a : Act} {w : World} {o : Oper} {x y z : Operand} {g n c lo hi m : Nat} (ho : o.op = .slice 54 x (some y) (some z) none) (hx : a.eval x = .slice (some ⟨g, 0, none⟩) n c) (hy : a.eval y = .int .i64 lo) (hz : a.eval z = .int .i64 hi) (h1 : lo ≤ hi) (h2 : lo < c ∧ hi ≤ n) (h3 : n ≤ c) (hm : m = hi - lo) : (execOp a.eval o).run Tryz.prog w = .ok (.value (.slice (some ⟨g, 0 + lo, none⟩) m (c - lo))) w := by
  subst hm; have hs : (sizeOf 2).run Tryz.prog w = .ok 1 w := by kernel_rfl
  have hr := run_underlying (w := w) Tryz.underlying54; obtain ⟨h4, h5⟩ := h2; have c0 : (0 : Int) ≤ (lo : Int) := by omega
  have c1 : (lo : Int) ≤ (hi : Int) := by omega
  have c2 : (hi : Int) ≤ (c : Int) := by omega
  have c3 : ¬ c - lo = 0 := by omega
  have c4 : ¬ c ≤ lo := by omega
  unfold execOp; rw [ho]
  simp only [hx, hy, hz, Option.map_some, Option.map_none]
  go_simp
  try (intro c; omega)
theorem C8 {w : World} {g lo m : Nat} {L M : List Int} (h : Row w (some ⟨g, 0, none⟩) L) (hM : M = (L.drop lo).take m) : Row w (some ⟨g, 0 + lo, none⟩) M := fun i hi => by
  subst hM; rw [List.length_take, List.length_drop] at hi; obtain ⟨b, off, e, hb, hc⟩ := h (lo + i) (by omega)
  cases e
  refine ⟨g, 0 + lo, rfl, hb, ?_⟩; rw [show 0 + lo + i = 0 + (lo + i) by omega, hc]; have e1 : i < (L.drop lo).length := by rw [List.length_drop]; omega
  simp [List.getD, List.getElem?_take, List.getElem?_drop, show i < m by omega]
theorem Hv {n lo : Nat} (h : lo = (n - 1) / 2) (h0 : 0 < n) : Int.tdiv (((n : Nat) : Int) - 1) 2 = (lo : Int) := by
  rw [show ((n : Int) - 1) = ((n - 1 : Nat) : Int) by omega, ES, h]
theorem Hw {l : List Int} (h : ∀ n ∈ l, Lv.num64 n) : All64 l := fun n hn => DQ (h n hn)
theorem FN {l : List Int} (h0 : l ≠ []) (h : ∀ n ∈ l, Lv.num64 n) : (bM l).2 = true := by
  rcases sW (L := -9223372036854775807) (G := 9223372036854775807) h0 h (Int.le_refl _) with c | c
  · exact c.1
  · omega
theorem res_ok {p : Int × Bool} (c : Int) (h : p.2 = true) : (if p.2 then ay p.1 else aG c) = eX p := by unfold eX; rw [h]; rfl
theorem vk {fn : Nat} {l : List Int} (hf : fn = 9 ∨ fn = 46) : (if (lZ l).2 then ay (lZ l).1 else aG 3) = cR fn l := by unfold cR; rw [if_pos hf]; rfl
theorem vl {fn : Nat} {l : List Int} (hf : fn = 14 ∨ fn = 48) (hn : ∀ n ∈ l, Lv.num64 n) : (if (bM l).2 then ay (bM l).1 else aG 1) = cR fn l := by
  have e : cR fn l = if l = [] then aG 1 else eX (bM l) := by unfold cR; rw [if_neg (by omega), if_pos hf]
  rw [e]
  by_cases h : l = []
  · subst h; rfl
  · rw [if_neg h, res_ok 1 (FN h hn)]
theorem DR {l : List Int} (h : l.length = 0) : l = [] := List.eq_nil_of_length_eq_zero h
theorem ne_of {l : List Int} (h : 0 < l.length) : l ≠ [] := List.length_pos_iff.1 h
theorem AM {fn : Nat} {l : List Int} (hf : fn = 17) (h : l.length = 0) : aG 3 = cR fn l := by
  unfold cR; rw [if_neg (by omega), if_neg (by omega), if_pos hf, if_pos (DR h)]
theorem tz {x : Int} (h : Lv.num64 x) : bM [x] = (x, true) := by
  have := wH x (c := 1) (by decide); rw [show List.replicate 1 x = [x] from rfl] at this; rw [this, dF h.1 h.2]
theorem pA {L : List Int} {k : Nat} (h : k < L.length) : L.drop k = L.getD k 0 :: L.drop (k + 1) := by
  rw [List.drop_eq_getElem_cons h, show L.getD k 0 = L[k] by simp [List.getD, h]]
theorem C9 {fn lo : Nat} {l ML : List Int} (hf : fn = 17) (h0 : 0 < l.length) (hn : ∀ n ∈ l, Lv.num64 n) (hlo : lo = (l.length - 1) / 2) (hM : ML = ((ar l).drop lo).take (l.length / 2 + 1 - lo)) : (if (bM ML).2 then ay (bM ML).1 else aG 3) = cR fn l := by
  have hs := aq l; have hm : ∀ n ∈ ar l, Lv.num64 n := fun n h => hn n ((gL l).mem_iff.1 h)
  have ef : cR fn l = if l.length % 2 = 1 then ay ((ar l).getD (l.length / 2) 0) else eX (bM [(ar l).getD (l.length / 2 - 1) 0, (ar l).getD (l.length / 2) 0]) := by
    unfold cR; rw [if_neg (by omega), if_neg (by omega), if_pos hf, if_neg (ne_of h0)]
  rw [ef]
  by_cases c : l.length % 2 = 1
  · have e : lo = l.length / 2 := by omega
    have e2 : ML = [(ar l).getD (l.length / 2) 0] := by
      rw [hM, e, show l.length / 2 + 1 - l.length / 2 = 1 by omega, pA (by omega)]
      rfl
    have g := tz (CT hm (l.length / 2)); rw [if_pos c, e2, g]
    rfl
  · have e : lo = l.length / 2 - 1 := by omega
    have e2 : ML = [(ar l).getD (l.length / 2 - 1) 0, (ar l).getD (l.length / 2) 0] := by
      rw [hM, e, show l.length / 2 + 1 - (l.length / 2 - 1) = 2 by omega, pA (by omega), show l.length / 2 - 1 + 1 = l.length / 2 by omega, pA (by omega)]
      rfl
    rw [if_neg c, e2]
    rfl
theorem AN {fn : Nat} {l : List Int} (h1 : ¬ (fn = 9 ∨ fn = 46)) (h2 : ¬ (fn = 14 ∨ fn = 48)) (h3 : ¬ fn = 17) (h : l.length = 0) : ay 0 = cR fn l := by
  unfold cR; rw [if_neg h1, if_neg h2, if_neg h3, if_pos (DR h)]
def lf (fn : Nat) (x y : Int) : Int × Bool := if fn = 15 ∨ fn = 49 then (min x y, true) else if fn = 16 ∨ fn = 50 then (max x y, true) else lh x y
def ff (fn : Nat) : Int → List Int → Int × Bool
  | x, [] => (x, true)
  | x, y :: l => if (lf fn x y).2 then ff fn (lf fn x y).1 l else (0, false)
theorem AO {fn : Nat} (h : fn = 15 ∨ fn = 49) : ∀ (l : List Int) (x : Int), ff fn x l = (l.foldl min x, true)
  | [], _ => rfl
  | y :: l, x => by
    rw [ff, show lf fn x y = (min x y, true) by unfold lf; rw [if_pos h], if_pos rfl, AO h l]
    rfl
theorem AP {fn : Nat} (h : fn = 16 ∨ fn = 50) : ∀ (l : List Int) (x : Int), ff fn x l = (l.foldl max x, true)
  | [], _ => rfl
  | y :: l, x => by
    rw [ff, show lf fn x y = (max x y, true) by unfold lf; rw [if_neg (by omega), if_pos h], if_pos rfl, AP h l]
    rfl
theorem AQ {fn : Nat} (h1 : ¬ (fn = 15 ∨ fn = 49)) (h2 : ¬ (fn = 16 ∨ fn = 50)) : ∀ (l : List Int) (x : Int), ff fn x l = fH x l
  | [], _ => rfl
  | y :: l, x => by rw [ff, show lf fn x y = lh x y by unfold lf; rw [if_neg h1, if_neg h2], fH, AQ h1 h2 l]
theorem tA {fn k : Nat} {l : List Int} {x : Int} {b : Bool} {v : Vl} {p : Int × Bool} (hp : v = if b then eX (ff fn x (l.tail.drop k)) else aG 3) (hb : b = true) (h : k + 1 < l.length) (e : lf fn x (l.getD (k + 1) 0) = p) : v = if p.2 then eX (ff fn p.1 (l.tail.drop (k + 1))) else aG 3 := by
  rw [hp, hb, if_pos rfl, ms h, ff, e]
  cases p.2 <;> rfl
theorem DT {fn k : Nat} {l : List Int} {x : Int} {b : Bool} {v : Vl} (hp : v = if b then eX (ff fn x (l.tail.drop k)) else aG 3) (hb : b = true) (h : k + 1 < l.length) (hf : fn = 15 ∨ fn = 49) : v = if b then eX (ff fn (min x (l.getD (k + 1) 0)) (l.tail.drop (k + 1))) else aG 3 := by
  have := tA hp hb h (p := (min x (l.getD (k + 1) 0), true)) (by unfold lf; rw [if_pos hf]); rw [hb]; exact this
theorem DU {fn k : Nat} {l : List Int} {x : Int} {b : Bool} {v : Vl} (hp : v = if b then eX (ff fn x (l.tail.drop k)) else aG 3) (hb : b = true) (h : k + 1 < l.length) (hf : fn = 16 ∨ fn = 50) : v = if b then eX (ff fn (max x (l.getD (k + 1) 0)) (l.tail.drop (k + 1))) else aG 3 := by
  have := tA hp hb h (p := (max x (l.getD (k + 1) 0), true)) (by unfold lf; rw [if_neg (by omega), if_pos hf]); rw [hb]; exact this
theorem Hx {fn k : Nat} {l : List Int} {x : Int} {b : Bool} {v : Vl} (hp : v = if b then eX (ff fn x (l.tail.drop k)) else aG 3) (hb : b = true) (h : k + 1 < l.length) (h1 : ¬ (fn = 15 ∨ fn = 49)) (h2 : ¬ (fn = 16 ∨ fn = 50)) : v = if (lh x (l.getD (k + 1) 0)).2 then eX (ff fn (lh x (l.getD (k + 1) 0)).1 (l.tail.drop (k + 1))) else aG 3 := tA hp hb h (by unfold lf; rw [if_neg h1, if_neg h2])
theorem AU {x y : Int} (hx : i64 x) (hy : i64 y) : i64 (min x y) := by
  have h1 := hx.1; have h2 := hx.2; have h3 := hy.1; have h4 := hy.2; exact ⟨by omega, by omega⟩
theorem AV {x y : Int} (hx : i64 x) (hy : i64 y) : i64 (max x y) := by
  have h1 := hx.1; have h2 := hx.2; have h3 := hy.1; have h4 := hy.2; exact ⟨by omega, by omega⟩
theorem FO {fn : Nat} {l : List Int} (h1 : ¬ (fn = 9 ∨ fn = 46)) (h2 : ¬ (fn = 14 ∨ fn = 48)) (h3 : ¬ fn = 17) (h : 0 < l.length) : eX (ff fn (l.headD 0) l.tail) = cR fn l := by
  unfold cR; rw [if_neg h1, if_neg h2, if_neg h3, if_neg (ne_of h)]
  by_cases c : fn = 15 ∨ fn = 49
  · rw [if_pos c, AO c]; rfl
  · by_cases d : fn = 16 ∨ fn = 50
    · rw [if_neg c, if_pos d, AP d]; rfl
    · rw [if_neg c, if_neg d, AQ c d]
theorem Da {fn k : Nat} {l : List Int} {x : Int} {b : Bool} (h1 : ¬ (fn = 9 ∨ fn = 46)) (h2 : ¬ (fn = 14 ∨ fn = 48)) (h3 : ¬ fn = 17) (h : 0 < l.length) (hfin : ¬ ((((k + 1 : Nat) : Int) < ((l.length : Nat) : Int)) ∧ (b = true))) (hp : eX (ff fn (l.headD 0) l.tail) = if b then eX (ff fn x (l.tail.drop k)) else aG 3) : (if b then ay x else aG 3) = cR fn l := by
  rw [← FO h1 h2 h3 h, hp]
  cases hb : b with
  | false => rfl
  | true =>
    have : l.tail.drop k = [] := List.drop_eq_nil_of_le (by rw [List.length_tail]; have hh : ¬ (((k + 1 : Nat) : Int) < ((l.length : Nat) : Int)) := fun c => hfin ⟨c, by first | rfl | exact hb⟩; omega); rw [this]
    rfl
theorem eA : En 113 := by intro args w; go_simp
theorem tB (fn : Nat) (A : Option Addr) (cap : Nat) (l : List Int) (w : World) (hr : Row w A l) (h64 : All64 l) (hl : l.length ≤ 1000000) (hn : ∀ n ∈ l, Lv.num64 n) :
    Calls Tryz.prog 77 #[.int .u8 fn, .slice A l.length cap] w fun e w' => e = .returned (ae (cR fn l)) ∧ Kept w w' := by
  go_enter Tryz.func77, Tryz.ntmps77; refine z00 110 [(0, .int .u8 (fn : Int)), (1, .slice A l.length cap)] ?_; intro _ s; refine zr s 1 (zV Z0 oZ) ?_; intro gb1 _ _ s; refine zr s 4 (zP (zP (zN (zP Z0)))) ?_; intro _ _ s; refine sq fun hK1 => ?_; refine zr s 1 (zP Z0) ?_; intro _ _ s; refine wp_block ?_; refine sq fun hK2 => ?_; refine zr s 2 (zP (zP Z0)) ?_; intro _ _ s; refine zi_ s ?_ ?_
  ·intro hc1
   have hf : fn = 9 ∨ fn = 46 := by omega
   refine wp_skip ?_; refine tn hK2 ?_; refine zy s ?_ (hb := (decide_eq_true_iff).2 hc1); refine zr s 7 (zP (zP (zP (zP (zP (zC (zP Z0) fun cc => vi A cap l _ (Row.kept16 hr cc.ow.kept) h64 (by omega))))))) ?_; intro _ _ s; refine zt_ s 3 (zC (zP (zP Z0)) fun cc => dt ((lZ l).1) ((lZ l).2) 3 _ (fun hq => by first | exact fX _ | exact mean_i64 _ | exact hx)) ?_; intro _ _ s K3 hK3; refine zS s 0 ?_; intro _ s; refine wt hK3 ?_; refine wp_ret ?_; refine ao (ag ?_); refine ac (v := ae (if (lZ l).2 then ay ((lZ l).1) else aG 3)) rfl (.cons (rC s 3 0) .nil) rfl s.q ?_; exact ⟨congrArg (fun v => Ending.returned (ae v)) (vk hf), s.o.kept⟩
  intro hc1; refine zq s 2 (by exact zP (zP Z0)) ?_; intro _ _ s; refine tn hK2 ?_; refine zi_ s ?_ ?_
  ·intro hc2
   have hf : fn = 9 ∨ fn = 46 := by omega
   refine zr s 7 (zP (zP (zP (zP (zP (zC (zP Z0) fun cc => vi A cap l _ (Row.kept16 hr cc.ow.kept) h64 (by omega))))))) ?_; intro _ _ s; refine zt_ s 3 (zC (zP (zP Z0)) fun cc => dt ((lZ l).1) ((lZ l).2) 3 _ (fun hq => by first | exact fX _ | exact mean_i64 _ | exact hx)) ?_; intro _ _ s K4 hK4; refine zS s 0 ?_; intro _ s; refine wt hK4 ?_; refine wp_ret ?_; refine ao (ag ?_); refine ac (v := ae (if (lZ l).2 then ay ((lZ l).1) else aG 3)) rfl (.cons (rC s 3 0) .nil) rfl s.q ?_; exact ⟨congrArg (fun v => Ending.returned (ae v)) (vk hf), s.o.kept⟩
  intro hc2; refine sq fun hK5 => ?_; refine zr s 2 (zP (zP Z0)) ?_; intro _ _ s; refine zi_ s ?_ ?_
  ·intro hc3
   have hf : fn = 14 ∨ fn = 48 := by omega
   refine wp_skip ?_; refine tn hK5 ?_; refine zy s ?_ (hb := (decide_eq_true_iff).2 hc3); refine zr s 7 (zP (zP (zP (zP (zP (zC (zP Z0) fun cc => mP A cap l _ (Row.kept16 hr cc.ow.kept) h64 (by omega))))))) ?_; intro _ _ s; refine zt_ s 3 (zC (zP (zP Z0)) fun cc => dt ((bM l).1) ((bM l).2) 1 _ (fun hq => by first | exact fX _ | exact mean_i64 _ | exact hx)) ?_; intro _ _ s K6 hK6; refine zS s 0 ?_; intro _ s; refine wt hK6 ?_; refine wp_ret ?_; refine ao (ag ?_); refine ac (v := ae (if (bM l).2 then ay ((bM l).1) else aG 1)) rfl (.cons (rC s 3 0) .nil) rfl s.q ?_; exact ⟨congrArg (fun v => Ending.returned (ae v)) (vl hf hn), s.o.kept⟩
  intro hc3; refine zq s 2 (by exact zP (zP Z0)) ?_; intro _ _ s; refine tn hK5 ?_; refine zi_ s ?_ ?_
  ·intro hc4
   have hf : fn = 14 ∨ fn = 48 := by omega
   refine zr s 7 (zP (zP (zP (zP (zP (zC (zP Z0) fun cc => mP A cap l _ (Row.kept16 hr cc.ow.kept) h64 (by omega))))))) ?_; intro _ _ s; refine zt_ s 3 (zC (zP (zP Z0)) fun cc => dt ((bM l).1) ((bM l).2) 1 _ (fun hq => by first | exact fX _ | exact mean_i64 _ | exact hx)) ?_; intro _ _ s K7 hK7; refine zS s 0 ?_; intro _ s; refine wt hK7 ?_; refine wp_ret ?_; refine ao (ag ?_); refine ac (v := ae (if (bM l).2 then ay ((bM l).1) else aG 1)) rfl (.cons (rC s 3 0) .nil) rfl s.q ?_; exact ⟨congrArg (fun v => Ending.returned (ae v)) (vl hf hn), s.o.kept⟩
  intro hc4; refine zr s 2 (zP (zP Z0)) ?_; intro _ _ s; refine zi_ s ?_ ?_
  ·intro hc5
   have hf : fn = 17 := by omega
   refine sq fun hK8 => ?_; refine zr s 1 (zP Z0) ?_; intro _ _ s; refine zi_ s ?_ ?_
   ·intro hc6
    have hl0 : l.length = 0 := by have := hc6; omega
    refine zt_ s 1 (zC Z0 fun cc => cC 3 _) ?_; intro _ _ s K9 hK9; refine zS s 0 ?_; intro _ s; refine wt hK9 ?_; refine wp_ret ?_; refine ag (ao (ag ?_)); refine ac (v := ae (aG 3)) rfl (.cons (rC s 3 0) .nil) rfl s.q ?_; exact ⟨congrArg (fun v => Ending.returned (ae v)) (AM hf hl0), s.o.kept⟩
   intro hc6; have hn0 : 0 < l.length := by have := hc6; omega
   refine wp_skip ?_; refine tn hK8 ?_; refine zt_ s 1 (zP Z0) ?_; intro _ _ s K10 hK10; refine aU (aC rfl) (bZ (u := .slice A l.length cap) rfl (s.g 46) (eA _ _)) ((mN A cap l _ (Row.kept16 hr s.o.kept) hl).mono ?_); rintro _ _ ⟨v8, rfl, hk, hO⟩; refine ⟨_, rfl, ?_⟩; rcases (rfl : (0 : Nat) = 0) with _
   obtain ⟨g8, c8, hv8, hO8, hc8⟩ := vj hO (aq l) hn0; subst hv8; have ow := s.o.add (t := Th.row _ 2 1 (.slice (some ⟨g8, 0, none⟩) l.length c8) l.length ((ar l).map cj)) hO8 hk (fun g e => (World.ownsRow.lt hO8 g e).1); clear hk hO hO8; refine zg (s.ow ow) ?_; intro _ _ s; refine zw s ?_; intro _ _ s; refine wt hK10 ?_; obtain ⟨lo, hlo⟩ : ∃ lo, lo = (l.length - 1) / 2 := ⟨_, rfl⟩; obtain ⟨ML, hML⟩ : ∃ ML, ML = ((ar l).drop lo).take (l.length / 2 + 1 - lo) := ⟨_, rfl⟩; have hMlen : ML.length = l.length / 2 + 1 - lo := by rw [hML, List.length_take, List.length_drop, aq]; omega
   have hM64 : All64 ML := fun y hy => iY h64 y (List.mem_of_mem_drop (List.mem_of_mem_take (by rw [← hML]; exact hy))); have hMl : ML.length ≤ 9223372036854775807 := by omega
   have hlo1 : lo ≤ l.length / 2 + 1 := by omega
   have hlo2 : lo < c8 ∧ l.length / 2 + 1 ≤ l.length := by omega
   refine zr s 16 (zP (zP (zP (zP (zP (zC (zO (zAn (zE (zO (zN (zP (zE (zO (zSb (zN (zP (zP Z0)))) (v := .int .i64 (Int.tdiv (((l.length : Nat) : Int) - 1) 2)) fun cc => Bb (Or.inl rfl) rfl cc.e rfl (by omega) (by omega) (by omega)) (y := .int .i64 (lo : Int)) (congrArg (Value.int .i64) (Hv hlo hn0))))) (v := .int .i64 (Int.tdiv ((l.length : Nat) : Int) 2)) fun cc => Bb (Or.inl rfl) rfl cc.e rfl (by omega) (by omega) (by omega)) (y := .int .i64 ((l.length / 2 : Nat) : Int)) (congrArg (Value.int .i64) (ES l.length))) (l.length / 2) 1) fun cc => by exact IO rfl cc.e cc.e cc.e hlo1 hlo2 hc8 hMlen) fun cc => mP (some ⟨g8, 0 + lo, none⟩) (c8 - lo) ML _ (C8 (mD (cc.ow.row 0 rfl) (aq l).symm).1 hML) hM64 hMl)))))) ?_; intro _ _ s; refine zt_ s 3 (zC (zP (zP Z0)) fun cc => dt ((bM ML).1) ((bM ML).2) 3 _ (fun hq => by first | exact fX _ | exact mean_i64 _ | exact hx)) ?_; intro _ _ s K11 hK11; refine zS s 1 ?_; intro _ s; refine wt hK11 ?_; refine wp_ret ?_; refine ao (ag ?_); refine ac (v := ae (if (bM ML).2 then ay ((bM ML).1) else aG 3)) rfl (.cons (rC s 3 1) .nil) rfl s.q ?_; exact ⟨congrArg (fun v => Ending.returned (ae v)) (C9 hf hn0 hn hlo hML), s.o.kept⟩
  intro hc5; refine wp_skip ?_; refine aB ?_; refine tn hK1 ?_; refine sq fun hK12 => ?_; refine zr s 1 (zP Z0) ?_; intro _ _ s; refine zi_ s ?_ ?_
  ·intro hc7
   have hl0 : l.length = 0 := by have := hc7; omega
   refine zt_ s 1 (zC Z0 fun cc => cm 0 _ (by omega) (by omega)) ?_; intro _ _ s K13 hK13; refine zS s 0 ?_; intro _ s; refine wt hK13 ?_; refine wp_ret ?_; refine ag ?_; refine ac (v := ae (ay 0)) rfl (.cons (rC s 3 0) .nil) rfl s.q ?_; exact ⟨congrArg (fun v => Ending.returned (ae v)) (AN (by omega) (by omega) (by omega) hl0), s.o.kept⟩
  intro hc7; have hn0 : 0 < l.length := by have := hc7; omega
  refine wp_skip ?_; refine tn hK12 ?_; obtain ⟨b0, o0, hA0, _⟩ := hr 0 hn0; refine zr s 5 (zP (zP (zO (zO (zP Z0) fun cc => cO (k := 0) rfl hA0 cc.e rfl (by omega)) fun cc => mt rfl (by kernel_rfl) cc.e (Row.kept16 hr cc.ow.kept) hA0 (by omega)))) ?_; intro _ _ s; refine sq fun hK14 => ?_; refine zr s 1 (zP Z0) ?_; intro _ _ s; refine wp_block ?_; refine aP (fun (k : Nat) fr u => ∃ (x : Int), ∃ (b : Bool), (k + 1 ≤ l.length) ∧ (eX (ff fn (l.headD 0) l.tail) = if b then eX (ff fn x (l.tail.drop k)) else aG 3) ∧ (i64 x) ∧ Sg 110 w [Th.obj gb1 oZ] [(0, .int .u8 (fn : Int)), (1, .slice A l.length cap), (4, .pointer (some ⟨gb1, 0, none⟩)), (13, .int .i64 x), (14, .bool b), (15, .int .i64 ((k + 1 : Nat) : Int))] fr u) (fun k => l.length - k) 0 ⟨(l.getD 0 0), true, (by omega), (by rw [nP]; rfl), (h64 _ (dn (by omega))), s.c⟩ (fun k b_ u_ hI => ?_)
  revert b_ u_; intro _ _ hI
  obtain ⟨x, b, hk1, hp, hx, s⟩ := hI; refine sq fun hK15 => ?_; refine zr s 7 (zO (zPi (zP (zP (zN (zP (zP Z0)))))) fun cc => gm rfl cc.e (fun hb => cc.f hb) rfl) ?_; intro _ _ s; refine zb s (pE (decide_eq_true_iff) (Iff.rfl)) ?_ ?_
  ·intro hc8
   have hltk : k + 1 < l.length := by have := hc8; omega
   have hb := (hc8).2; refine wp_skip ?_; refine tn hK15 ?_; refine sq fun hK16 => ?_; refine wp_block ?_; refine zr s 1 (zP Z0) ?_; intro _ _ s; refine wp_block ?_; refine sq fun hK17 => ?_; refine zr s 2 (zP (zP Z0)) ?_; intro _ _ s; refine zi_ s ?_ ?_
   ·intro hc9
    have hf : fn = 15 ∨ fn = 49 := by omega
    refine wp_skip ?_; refine tn hK17 ?_; refine zy s ?_ (hb := (decide_eq_true_iff).2 hc9); refine zu s 6 (by exact zO (zO (zO (zP (zP (zP Z0))) fun cc => cO (k := (k + 1)) rfl hA0 cc.e cc.e (by omega)) fun cc => mt rfl (by kernel_rfl) cc.e (Row.kept16 hr cc.ow.kept) hA0 (by omega)) fun cc => Eo rfl (Or.inr rfl) cc.e cc.e) ?_; intro _ _ s; refine zw s ?_; intro _ _ s; refine aN ?_; refine aB ?_; refine aB ?_; refine tn hK16 ?_; refine zu s 2 (by exact zAn (zP Z0) (k + 1) 1) ?_; intro _ _ s; refine zw s ?_; intro _ _ s; refine aN ?_; exact bg ⟨(k + 1), ⟨(min x (l.getD (k + 1) 0)), b, hltk, (DT hp hb hltk hf), (AU hx (h64 _ (dn hltk))), s.c⟩, (show l.length - (k + 1) < l.length - k by omega)⟩
   intro hc9; refine zq s 2 (by exact zP (zP Z0)) ?_; intro _ _ s; refine tn hK17 ?_; refine zi_ s ?_ ?_
   ·intro hc10
    have hf : fn = 15 ∨ fn = 49 := by omega
    refine zu s 6 (by exact zO (zO (zO (zP (zP (zP Z0))) fun cc => cO (k := (k + 1)) rfl hA0 cc.e cc.e (by omega)) fun cc => mt rfl (by kernel_rfl) cc.e (Row.kept16 hr cc.ow.kept) hA0 (by omega)) fun cc => Eo rfl (Or.inr rfl) cc.e cc.e) ?_; intro _ _ s; refine zw s ?_; intro _ _ s; refine aN ?_; refine aB ?_; refine aB ?_; refine tn hK16 ?_; refine zu s 2 (by exact zAn (zP Z0) (k + 1) 1) ?_; intro _ _ s; refine zw s ?_; intro _ _ s; refine aN ?_; exact bg ⟨(k + 1), ⟨(min x (l.getD (k + 1) 0)), b, hltk, (DT hp hb hltk hf), (AU hx (h64 _ (dn hltk))), s.c⟩, (show l.length - (k + 1) < l.length - k by omega)⟩
   intro hc10; refine sq fun hK18 => ?_; refine zr s 2 (zP (zP Z0)) ?_; intro _ _ s; refine zi_ s ?_ ?_
   ·intro hc11
    have hf : fn = 16 ∨ fn = 50 := by omega
    refine wp_skip ?_; refine tn hK18 ?_; refine zy s ?_ (hb := (decide_eq_true_iff).2 hc11); refine zu s 6 (by exact zO (zO (zO (zP (zP (zP Z0))) fun cc => cO (k := (k + 1)) rfl hA0 cc.e cc.e (by omega)) fun cc => mt rfl (by kernel_rfl) cc.e (Row.kept16 hr cc.ow.kept) hA0 (by omega)) fun cc => Gn rfl (Or.inr rfl) cc.e cc.e) ?_; intro _ _ s; refine zw s ?_; intro _ _ s; refine aN ?_; refine aB ?_; refine aB ?_; refine tn hK16 ?_; refine zu s 2 (by exact zAn (zP Z0) (k + 1) 1) ?_; intro _ _ s; refine zw s ?_; intro _ _ s; refine aN ?_; exact bg ⟨(k + 1), ⟨(max x (l.getD (k + 1) 0)), b, hltk, (DU hp hb hltk hf), (AV hx (h64 _ (dn hltk))), s.c⟩, (show l.length - (k + 1) < l.length - k by omega)⟩
   intro hc11; refine zq s 2 (by exact zP (zP Z0)) ?_; intro _ _ s; refine tn hK18 ?_; refine zi_ s ?_ ?_
   ·intro hc12
    have hf : fn = 16 ∨ fn = 50 := by omega
    refine zu s 6 (by exact zO (zO (zO (zP (zP (zP Z0))) fun cc => cO (k := (k + 1)) rfl hA0 cc.e cc.e (by omega)) fun cc => mt rfl (by kernel_rfl) cc.e (Row.kept16 hr cc.ow.kept) hA0 (by omega)) fun cc => Gn rfl (Or.inr rfl) cc.e cc.e) ?_; intro _ _ s; refine zw s ?_; intro _ _ s; refine aN ?_; refine aB ?_; refine aB ?_; refine tn hK16 ?_; refine zu s 2 (by exact zAn (zP Z0) (k + 1) 1) ?_; intro _ _ s; refine zw s ?_; intro _ _ s; refine aN ?_; exact bg ⟨(k + 1), ⟨(max x (l.getD (k + 1) 0)), b, hltk, (DU hp hb hltk hf), (AV hx (h64 _ (dn hltk))), s.c⟩, (show l.length - (k + 1) < l.length - k by omega)⟩
   intro hc12; have hf : ¬ (fn = 15 ∨ fn = 49) ∧ ¬ (fn = 16 ∨ fn = 50) := by omega
   refine zu s 9 (by exact zP (zP (zP (zC (zO (zO (zP (zP (zP Z0))) fun cc => cO (k := (k + 1)) rfl hA0 cc.e cc.e (by omega)) fun cc => mt rfl (by kernel_rfl) cc.e (Row.kept16 hr cc.ow.kept) hA0 (by omega)) fun cc => B6 x (l.getD (k + 1) 0) _ hx (h64 _ (dn hltk)))))) ?_; intro _ _ s; refine zw s ?_; intro _ _ s; refine zw s ?_; intro _ _ s; refine aN ?_; refine aB ?_; refine aB ?_; refine tn hK16 ?_; refine zu s 2 (by exact zAn (zP Z0) (k + 1) 1) ?_; intro _ _ s; refine zw s ?_; intro _ _ s; refine aN ?_; exact bg ⟨(k + 1), ⟨((lh x (l.getD (k + 1) 0)).1), ((lh x (l.getD (k + 1) 0)).2), hltk, (Hx hp hb hltk hf.1 hf.2), (ue _ _), s.c⟩, (show l.length - (k + 1) < l.length - k by omega)⟩
  intro hc8; have hfin := hc8; refine wp_exit ?_; refine aM ?_; refine aM ?_; refine aD ?_; refine tn hK14 ?_; refine zt_ s 3 (zC (zP (zP Z0)) fun cc => dt x b 3 _ (fun hq => by first | exact fX _ | exact mean_i64 _ | exact hx)) ?_; intro _ _ s K19 hK19; refine zS s 0 ?_; intro _ s; refine wt hK19 ?_; refine wp_ret ?_; refine ac (v := ae (if b then ay x else aG 3)) rfl (.cons (rC s 3 0) .nil) rfl s.q ?_; exact ⟨congrArg (fun v => Ending.returned (ae v)) (Da (by omega) (by omega) (by omega) hn0 hfin hp), s.o.kept⟩
