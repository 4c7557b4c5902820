/- The reference of layer 1: Parse (printed by wip/mkrparse.py). -/
import Derived.Test.YtingopdeckgpaaaWRef7
namespace Go.Proofs.Ytingopdeckgpaaa
set_option linter.unusedVariables false
set_option linter.unusedSimpArgs false
open Go.RowKit Lv

theorem step_plus {v d u : Nat} (hv : v ≤ 9223372036854775807) (hd : d ≤ 9) (hu : u = 10 * v + d) :
    hi64 (wd (hi64 ((v : Int) * 10)) (lo64 ((v : Int) * 10)) + wd 0 (d : Int)) = hi64 (u : Int) ∧ lo64 (wd (hi64 ((v : Int) * 10)) (lo64 ((v : Int) * 10)) + wd 0 (d : Int)) = lo64 (u : Int) := by
  rw [wd_in (by omega) (by omega), show wd 0 (d : Int) = d by unfold wd; omega, show (v : Int) * 10 + d = u by omega]
  exact ⟨rfl, rfl⟩

set_option maxHeartbeats 1600000 in
set_option maxRecDepth 100000 in
theorem rparse_neg_whole_none (l : List UInt8) (P : Nat) (V : Nat → Nat) (R : Int × Int) (w : World) (hs : l.length ≤ 2001) (hl0 : 0 < l.length) (hP : 1 ≤ P)
    (hb : ∀ h, ((((ByteArray.mk l.toArray)[0]'h).toNat : Int) == 45) = true)
    (HD : Hid (∀ w, Calls Try.prog 64 #[.string ⟨l.toArray⟩, .int .i64 1] w fun e w' => e = .returned (.int .i64 (P : Int)) ∧ w = w'))
    (x1 : ((P : Int) == 1) = false) (hPl : P = l.length) (h5 : l.length ≤ P + 5)
    (VD : Hid (∀ k (h : k < l.length), 1 ≤ k → k ≠ P → k < P + 5 → 48 ≤ l[k].toNat ∧ l[k].toNat ≤ 57 ∧ V (k + 1) = 10 * V k + (l[k].toNat - 48)))
    (VZ : Hid (∀ k, l.length ≤ k → k ≠ P → k < P + 5 → V (k + 1) = 10 * V k)) (VP : Hid (V (P + 1) = V P)) (V0 : Hid (V 1 = 0)) (VM : Hid (∀ k, k ≤ P + 5 → V k ≤ V (P + 5)))
    (E : Hid (R = if (V (P + 5) : Int) ≤ 9223372036854775807 then (sg true ((V (P + 5) : Int)), 0) else (0, 3))) :
    Calls Try.prog 43 #[.string ⟨l.toArray⟩] w fun e w' => e = .returned (.tuple #[.int .i64 R.1, .int .i64 R.2]) ∧ Kept w w' := by
  have X := ba_extract
  have Z := ba_size
  have pm : (P : Int) ≤ 2001 := by omega
  have pl : ¬ (P : Int) < (l.length : Int) := by omega
  have x2 : ((P : Int) != (l.length : Int)) = false := by rw [hPl]; simp
  have x3 : ((P : Int) == (P : Int) + 1) = false := by rw [beq_eq_false_iff_ne]; omega
  have HPl := Lib.hid hPl
  clear hPl
  go_enter Try.func43, Try.ntmps43
  go_wp2_with fail
  refine (HD.out _).mono ?_
  rintro e w' ⟨rfl, rfl⟩
  go_wp2_with fail
  go_loopw [8] (fun i wr => ∃ k : Nat, 1 ≤ k ∧ k ≤ P + 5 ∧ i = .int .i64 k ∧ Kept w wr ∧ V k ≤ 92233720368547758079 ∧ Box wr w.heap.size 56 #[.int .u64 (hi64 (V k)), .int .u64 (lo64 (V k))]) (fun i _ => P + 5 - (intOf i).toNat)
  case atStart => exact ⟨1, by omega, by omega, rfl, (by repeat (first | with_reducible exact Kept.refl _ | with_reducible apply Kept.drew | with_reducible apply Kept.drewN | with_reducible apply Kept.alloc | (with_reducible refine Kept.setCellX ?_ ?_ _; focus (first | (simp; done) | (simp; omega))) | (with_reducible refine Kept.trans ?_ (by assumption)))), by rw [V0.out]; omega, by rw [V0.out, show hi64 ((0 : Nat) : Int) = 0 from rfl, show lo64 ((0 : Nat) : Int) = 0 from rfl]; exact (by repeat (first | with_reducible assumption | (with_reducible refine Box.newAt ?_ _ _; (simp; done)) | with_reducible apply Box.drew | with_reducible apply Box.drewN | (with_reducible refine Box.alloc ?_ _) | (with_reducible apply Box.s20) | (with_reducible apply Box.s21) | (with_reducible apply Box.s1) | (with_reducible apply Box.s40) | (with_reducible apply Box.s41) | (with_reducible apply Box.s42) | (with_reducible apply Box.s43) | (with_reducible refine Box.farX ?_ ?_ _; focus (first | (simp; done) | (simp; omega)))))⟩
  case round =>
    obtain ⟨k, k1, k2, rfl, hk, vb, bx⟩ := hrel
    by_cases c : k < P + 5
    · by_cases g : 9223372036854775807 < V k
      · have E2 : Hid (R = (0, 3)) := by have := VM.out k (by omega); rw [E.out, if_neg (by omega)]; rfl
        have bx_0 := Box.c0 bx; have bx_1 := Box.c1 bx; have bx_f := Box.loose bx 0; have bx_g := Box.loose bx 1
        by_cases g2 : hi64 (V k) = 0
        · have l2 : lo64 (V k) = V k := by unfold hi64 at g2; unfold lo64; omega
          rw [l2] at bx_1
          rw [g2] at bx_0
          clear l2 g2 bx
          by_cases kp : k = P
          · subst kp
            have kq : ((k : Int) != (k : Int)) = false := by simp
            go_wp2_with fail
            go_ret2
            exact ⟨ret_ii (by rw [E2.out]) (by rw [E2.out]), (by repeat (first | with_reducible exact Kept.refl _ | with_reducible apply Kept.drew | with_reducible apply Kept.drewN | with_reducible apply Kept.alloc | (with_reducible refine Kept.setCellX ?_ ?_ _; focus (first | (simp; done) | (simp; omega))) | (with_reducible refine Kept.trans ?_ (by assumption))))⟩
          · have kq : ((k : Int) != (P : Int)) = true := by simp; omega
            by_cases kl : k < l.length
            · have D := VD.out k kl (by omega) kp c
              obtain ⟨d1, d2, d3⟩ := D
              have D3 := Lib.hid d3
              have ge : (ByteArray.mk l.toArray)[k] = l[k] := rfl
              obtain ⟨d, hd⟩ : ∃ d : Nat, d = l[k].toNat := ⟨_, rfl⟩
              rw [← hd] at d1 d2 D3
              have hd2 : ∀ h, (((ByteArray.mk l.toArray)[k]'h).toNat : Int) = d := fun h => by rw [hd]; rfl
              clear d3 hd ge
              go_wp2_with fail
              go_ret2
              exact ⟨ret_ii (by rw [E2.out]) (by rw [E2.out]), (by repeat (first | with_reducible exact Kept.refl _ | with_reducible apply Kept.drew | with_reducible apply Kept.drewN | with_reducible apply Kept.alloc | (with_reducible refine Kept.setCellX ?_ ?_ _; focus (first | (simp; done) | (simp; omega))) | (with_reducible refine Kept.trans ?_ (by assumption))))⟩
            · have D3 := Lib.hid (VZ.out k (by omega) kp c)
              go_wp2_with fail
              go_ret2
              exact ⟨ret_ii (by rw [E2.out]) (by rw [E2.out]), (by repeat (first | with_reducible exact Kept.refl _ | with_reducible apply Kept.drew | with_reducible apply Kept.drewN | with_reducible apply Kept.alloc | (with_reducible refine Kept.setCellX ?_ ?_ _; focus (first | (simp; done) | (simp; omega))) | (with_reducible refine Kept.trans ?_ (by assumption))))⟩
        · have g3 : (hi64 (V k) != 0) = true := by rw [bne_iff_ne]; exact g2
          clear bx
          by_cases kp : k = P
          · subst kp
            have kq : ((k : Int) != (k : Int)) = false := by simp
            go_wp2_with fail
            go_ret2
            exact ⟨ret_ii (by rw [E2.out]) (by rw [E2.out]), (by repeat (first | with_reducible exact Kept.refl _ | with_reducible apply Kept.drew | with_reducible apply Kept.drewN | with_reducible apply Kept.alloc | (with_reducible refine Kept.setCellX ?_ ?_ _; focus (first | (simp; done) | (simp; omega))) | (with_reducible refine Kept.trans ?_ (by assumption))))⟩
          · have kq : ((k : Int) != (P : Int)) = true := by simp; omega
            by_cases kl : k < l.length
            · have D := VD.out k kl (by omega) kp c
              obtain ⟨d1, d2, d3⟩ := D
              have D3 := Lib.hid d3
              have ge : (ByteArray.mk l.toArray)[k] = l[k] := rfl
              obtain ⟨d, hd⟩ : ∃ d : Nat, d = l[k].toNat := ⟨_, rfl⟩
              rw [← hd] at d1 d2 D3
              have hd2 : ∀ h, (((ByteArray.mk l.toArray)[k]'h).toNat : Int) = d := fun h => by rw [hd]; rfl
              clear d3 hd ge
              go_wp2_with fail
              go_ret2
              exact ⟨ret_ii (by rw [E2.out]) (by rw [E2.out]), (by repeat (first | with_reducible exact Kept.refl _ | with_reducible apply Kept.drew | with_reducible apply Kept.drewN | with_reducible apply Kept.alloc | (with_reducible refine Kept.setCellX ?_ ?_ _; focus (first | (simp; done) | (simp; omega))) | (with_reducible refine Kept.trans ?_ (by assumption))))⟩
            · have D3 := Lib.hid (VZ.out k (by omega) kp c)
              go_wp2_with fail
              go_ret2
              exact ⟨ret_ii (by rw [E2.out]) (by rw [E2.out]), (by repeat (first | with_reducible exact Kept.refl _ | with_reducible apply Kept.drew | with_reducible apply Kept.drewN | with_reducible apply Kept.alloc | (with_reducible refine Kept.setCellX ?_ ?_ _; focus (first | (simp; done) | (simp; omega))) | (with_reducible refine Kept.trans ?_ (by assumption))))⟩
      · have h1 : hi64 (V k) = 0 := by unfold hi64; omega
        have h2 : lo64 (V k) = V k := by unfold lo64; omega
        have HH := Lib.hid (And.intro h1 h2)
        rw [h1, h2] at bx
        clear h1 h2
        by_cases kp : k = P
        · subst kp
          have kq : ((k : Int) != (k : Int)) = false := by simp
          have bx_0 := Box.c0 bx; have bx_1 := Box.c1 bx; have bx_f := Box.loose bx 0; have bx_g := Box.loose bx 1
          go_wp2_with fail
          go_roundw
          case rel => exact ⟨k + 1, by omega, by omega, by go_num, (by repeat (first | with_reducible exact Kept.refl _ | with_reducible apply Kept.drew | with_reducible apply Kept.drewN | with_reducible apply Kept.alloc | (with_reducible refine Kept.setCellX ?_ ?_ _; focus (first | (simp; done) | (simp; omega))) | (with_reducible refine Kept.trans ?_ (by assumption)))), by rw [VP.out]; omega, by rw [VP.out, HH.out.1, HH.out.2]; exact bx⟩
          case measure => (simp [intOf]; try omega)
        · have kq : ((k : Int) != (P : Int)) = true := by simp; omega
          by_cases kl : k < l.length
          · have D := VD.out k kl (by omega) kp c
            obtain ⟨d1, d2, d3⟩ := D
            have D3 := Lib.hid d3
            have ge : (ByteArray.mk l.toArray)[k] = l[k] := rfl
            obtain ⟨d, hd⟩ : ∃ d : Nat, d = l[k].toNat := ⟨_, rfl⟩
            rw [← hd] at d1 d2 D3
            have hd2 : ∀ h, (((ByteArray.mk l.toArray)[k]'h).toNat : Int) = d := fun h => by rw [hd]; rfl
            clear d3 hd ge
            have SP := step_plus (v := V k) (d := (d - 48)) (u := V (k + 1)) (by omega) (by omega) (by have := D3.out; omega)
            have T := fun w => times_any (V k) 10 w ⟨by omega, by omega⟩ ⟨by omega, by omega⟩
            have PL := fun w => plus_any (hi64 ((V k : Int) * 10)) (lo64 ((V k : Int) * 10)) 0 (((d - 48) : Nat) : Int) w (hi64_u _) (lo64_u _) ⟨by omega, by omega⟩ ⟨by omega, by omega⟩
            rw [SP.1, SP.2] at PL
            rw [show (((d - 48 : Nat)) : Int) = (d : Int) - 48 by omega] at PL
            have HT := Lib.hid T
            have HPL := Lib.hid PL
            have NB : Hid (V (k + 1) ≤ 92233720368547758079) := by show _ ≤ _; rw [D3.out]; omega
            clear SP T PL
            have bx_0 := Box.c0 bx; have bx_1 := Box.c1 bx; have bx_f := Box.loose bx 0; have bx_g := Box.loose bx 1
            go_wp2_with fail
            refine (HT.out _).mono ?_
            rintro e w1 ⟨rfl, hk1⟩
            go_wp2_with fail
            refine (HPL.out _).mono ?_
            rintro e w2 ⟨rfl, hk2⟩
            have bx2 : Box w2 w.heap.size 56 #[.int .u64 0, .int .u64 (V k)] := Box.kept hk2 (Box.kept hk1 (by repeat (first | with_reducible assumption | (with_reducible refine Box.newAt ?_ _ _; (simp; done)) | with_reducible apply Box.drew | with_reducible apply Box.drewN | (with_reducible refine Box.alloc ?_ _) | (with_reducible apply Box.s20) | (with_reducible apply Box.s21) | (with_reducible apply Box.s1) | (with_reducible apply Box.s40) | (with_reducible apply Box.s41) | (with_reducible apply Box.s42) | (with_reducible apply Box.s43) | (with_reducible refine Box.farX ?_ ?_ _; focus (first | (simp; done) | (simp; omega))))))
            clear bx_0 bx_1 bx_f bx_g
            have bx2_0 := Box.c0 bx2; have bx2_1 := Box.c1 bx2; have bx2_f := Box.loose bx2 0; have bx2_g := Box.loose bx2 1
            go_wp2_with fail
            go_roundw
            case rel => exact ⟨k + 1, by omega, by omega, by go_num, (by repeat (first | with_reducible exact Kept.refl _ | with_reducible apply Kept.drew | with_reducible apply Kept.drewN | with_reducible apply Kept.alloc | (with_reducible refine Kept.setCellX ?_ ?_ _; focus (first | (simp; done) | (simp; omega))) | (with_reducible refine Kept.trans ?_ (by assumption)))), NB.out, (by repeat (first | with_reducible assumption | (with_reducible refine Box.newAt ?_ _ _; (simp; done)) | with_reducible apply Box.drew | with_reducible apply Box.drewN | (with_reducible refine Box.alloc ?_ _) | (with_reducible apply Box.s20) | (with_reducible apply Box.s21) | (with_reducible apply Box.s1) | (with_reducible apply Box.s40) | (with_reducible apply Box.s41) | (with_reducible apply Box.s42) | (with_reducible apply Box.s43) | (with_reducible refine Box.farX ?_ ?_ _; focus (first | (simp; done) | (simp; omega)))))⟩
            case measure => (simp [intOf]; try omega)
          · have D3 := Lib.hid (VZ.out k (by omega) kp c)
            have SP := step_plus (v := V k) (d := 0) (u := V (k + 1)) (by omega) (by omega) (by have := D3.out; omega)
            have T := fun w => times_any (V k) 10 w ⟨by omega, by omega⟩ ⟨by omega, by omega⟩
            have PL := fun w => plus_any (hi64 ((V k : Int) * 10)) (lo64 ((V k : Int) * 10)) 0 ((0 : Nat) : Int) w (hi64_u _) (lo64_u _) ⟨by omega, by omega⟩ ⟨by omega, by omega⟩
            rw [SP.1, SP.2] at PL
            rw [show (((0 : Nat)) : Int) = 0 from rfl] at PL
            have HT := Lib.hid T
            have HPL := Lib.hid PL
            have NB : Hid (V (k + 1) ≤ 92233720368547758079) := by show _ ≤ _; rw [D3.out]; omega
            clear SP T PL
            have bx_0 := Box.c0 bx; have bx_1 := Box.c1 bx; have bx_f := Box.loose bx 0; have bx_g := Box.loose bx 1
            go_wp2_with fail
            refine (HT.out _).mono ?_
            rintro e w1 ⟨rfl, hk1⟩
            go_wp2_with fail
            refine (HPL.out _).mono ?_
            rintro e w2 ⟨rfl, hk2⟩
            have bx2 : Box w2 w.heap.size 56 #[.int .u64 0, .int .u64 (V k)] := Box.kept hk2 (Box.kept hk1 (by repeat (first | with_reducible assumption | (with_reducible refine Box.newAt ?_ _ _; (simp; done)) | with_reducible apply Box.drew | with_reducible apply Box.drewN | (with_reducible refine Box.alloc ?_ _) | (with_reducible apply Box.s20) | (with_reducible apply Box.s21) | (with_reducible apply Box.s1) | (with_reducible apply Box.s40) | (with_reducible apply Box.s41) | (with_reducible apply Box.s42) | (with_reducible apply Box.s43) | (with_reducible refine Box.farX ?_ ?_ _; focus (first | (simp; done) | (simp; omega))))))
            clear bx_0 bx_1 bx_f bx_g
            have bx2_0 := Box.c0 bx2; have bx2_1 := Box.c1 bx2; have bx2_f := Box.loose bx2 0; have bx2_g := Box.loose bx2 1
            go_wp2_with fail
            go_roundw
            case rel => exact ⟨k + 1, by omega, by omega, by go_num, (by repeat (first | with_reducible exact Kept.refl _ | with_reducible apply Kept.drew | with_reducible apply Kept.drewN | with_reducible apply Kept.alloc | (with_reducible refine Kept.setCellX ?_ ?_ _; focus (first | (simp; done) | (simp; omega))) | (with_reducible refine Kept.trans ?_ (by assumption)))), NB.out, (by repeat (first | with_reducible assumption | (with_reducible refine Box.newAt ?_ _ _; (simp; done)) | with_reducible apply Box.drew | with_reducible apply Box.drewN | (with_reducible refine Box.alloc ?_ _) | (with_reducible apply Box.s20) | (with_reducible apply Box.s21) | (with_reducible apply Box.s1) | (with_reducible apply Box.s40) | (with_reducible apply Box.s41) | (with_reducible apply Box.s42) | (with_reducible apply Box.s43) | (with_reducible refine Box.farX ?_ ?_ _; focus (first | (simp; done) | (simp; omega)))))⟩
            case measure => (simp [intOf]; try omega)
    · obtain rfl : k = P + 5 := by omega
      clear VD VZ VP V0 VM
      generalize V (P + 5) = v at *
      by_cases g : (v : Int) ≤ 9223372036854775807
      · have E2 : Hid (R = (sg true ((v : Int)), 0)) := by rw [E.out, if_pos g]; rfl
        have Sg := fun w => rsigned_any (hi64 ((v : Int))) (lo64 ((v : Int))) true w (hi64_u _) (lo64_u _)
        rw [wd_in (by omega) (by omega), fit_in (by unfold sg; split <;> omega) (by unfold sg; split <;> omega)] at Sg
        have HS := Lib.hid Sg
        clear Sg g
        have bx_0 := Box.c0 bx; have bx_1 := Box.c1 bx; have bx_f := Box.loose bx 0; have bx_g := Box.loose bx 1
        go_wp2_with fail
        refine (HS.out _).mono ?_
        rintro e w3 ⟨rfl, hk3⟩
        go_wp2_with fail
        go_ret2
        exact ⟨ret_ii (by rw [E2.out]) (by rw [E2.out]), (by repeat (first | with_reducible exact Kept.refl _ | with_reducible apply Kept.drew | with_reducible apply Kept.drewN | with_reducible apply Kept.alloc | (with_reducible refine Kept.setCellX ?_ ?_ _; focus (first | (simp; done) | (simp; omega))) | (with_reducible refine Kept.trans ?_ (by assumption))))⟩
      · have E2 : Hid (R = (0, 3)) := by rw [E.out, if_neg g]; rfl
        have Sg := fun w => rsigned_any (hi64 ((v : Int))) (lo64 ((v : Int))) true w (hi64_u _) (lo64_u _)
        rw [wd_in (by omega) (by omega), fit_out (by unfold sg; simp; omega)] at Sg
        have HS := Lib.hid Sg
        clear Sg g
        have bx_0 := Box.c0 bx; have bx_1 := Box.c1 bx; have bx_f := Box.loose bx 0; have bx_g := Box.loose bx 1
        go_wp2_with fail
        refine (HS.out _).mono ?_
        rintro e w3 ⟨rfl, hk3⟩
        go_wp2_with fail
        go_ret2
        exact ⟨ret_ii (by rw [E2.out]) (by rw [E2.out]), (by repeat (first | with_reducible exact Kept.refl _ | with_reducible apply Kept.drew | with_reducible apply Kept.drewN | with_reducible apply Kept.alloc | (with_reducible refine Kept.setCellX ?_ ?_ _; focus (first | (simp; done) | (simp; omega))) | (with_reducible refine Kept.trans ?_ (by assumption))))⟩

set_option maxHeartbeats 1600000 in
set_option maxRecDepth 100000 in
theorem rparse_neg_frac_none (l : List UInt8) (P : Nat) (V : Nat → Nat) (R : Int × Int) (w : World) (hs : l.length ≤ 2001) (hl0 : 0 < l.length) (hP : 1 ≤ P)
    (hb : ∀ h, ((((ByteArray.mk l.toArray)[0]'h).toNat : Int) == 45) = true)
    (HD : Hid (∀ w, Calls Try.prog 64 #[.string ⟨l.toArray⟩, .int .i64 1] w fun e w' => e = .returned (.int .i64 (P : Int)) ∧ w = w'))
    (x1 : ((P : Int) == 1) = false) (hPl : P < l.length) (c0 : ∀ h, ((((ByteArray.mk l.toArray)[P]'h).toNat : Int) == 46) = true) (en : ((l.length : Int) == (P : Int) + 1) = false)
    (HD2 : Hid (∀ w, Calls Try.prog 64 #[.string ⟨l.toArray⟩, .int .i64 ((P : Int) + 1)] w fun e w' => e = .returned (.int .i64 (l.length : Int)) ∧ w = w')) (h5 : l.length ≤ P + 5)
    (VD : Hid (∀ k (h : k < l.length), 1 ≤ k → k ≠ P → k < P + 5 → 48 ≤ l[k].toNat ∧ l[k].toNat ≤ 57 ∧ V (k + 1) = 10 * V k + (l[k].toNat - 48)))
    (VZ : Hid (∀ k, l.length ≤ k → k ≠ P → k < P + 5 → V (k + 1) = 10 * V k)) (VP : Hid (V (P + 1) = V P)) (V0 : Hid (V 1 = 0)) (VM : Hid (∀ k, k ≤ P + 5 → V k ≤ V (P + 5)))
    (E : Hid (R = if (V (P + 5) : Int) ≤ 9223372036854775807 then (sg true ((V (P + 5) : Int)), 0) else (0, 3))) :
    Calls Try.prog 43 #[.string ⟨l.toArray⟩] w fun e w' => e = .returned (.tuple #[.int .i64 R.1, .int .i64 R.2]) ∧ Kept w w' := by
  have X := ba_extract
  have Z := ba_size
  have pm : (P : Int) ≤ 2001 := by omega
  have pl : (P : Int) < (l.length : Int) := by omega
  go_enter Try.func43, Try.ntmps43
  go_wp2_with fail
  refine (HD.out _).mono ?_
  rintro e w' ⟨rfl, rfl⟩
  go_wp2_with fail
  refine (HD2.out _).mono ?_
  rintro e w' ⟨rfl, rfl⟩
  go_wp2_with fail
  go_loopw [8] (fun i wr => ∃ k : Nat, 1 ≤ k ∧ k ≤ P + 5 ∧ i = .int .i64 k ∧ Kept w wr ∧ V k ≤ 92233720368547758079 ∧ Box wr w.heap.size 56 #[.int .u64 (hi64 (V k)), .int .u64 (lo64 (V k))]) (fun i _ => P + 5 - (intOf i).toNat)
  case atStart => exact ⟨1, by omega, by omega, rfl, (by repeat (first | with_reducible exact Kept.refl _ | with_reducible apply Kept.drew | with_reducible apply Kept.drewN | with_reducible apply Kept.alloc | (with_reducible refine Kept.setCellX ?_ ?_ _; focus (first | (simp; done) | (simp; omega))) | (with_reducible refine Kept.trans ?_ (by assumption)))), by rw [V0.out]; omega, by rw [V0.out, show hi64 ((0 : Nat) : Int) = 0 from rfl, show lo64 ((0 : Nat) : Int) = 0 from rfl]; exact (by repeat (first | with_reducible assumption | (with_reducible refine Box.newAt ?_ _ _; (simp; done)) | with_reducible apply Box.drew | with_reducible apply Box.drewN | (with_reducible refine Box.alloc ?_ _) | (with_reducible apply Box.s20) | (with_reducible apply Box.s21) | (with_reducible apply Box.s1) | (with_reducible apply Box.s40) | (with_reducible apply Box.s41) | (with_reducible apply Box.s42) | (with_reducible apply Box.s43) | (with_reducible refine Box.farX ?_ ?_ _; focus (first | (simp; done) | (simp; omega)))))⟩
  case round =>
    obtain ⟨k, k1, k2, rfl, hk, vb, bx⟩ := hrel
    by_cases c : k < P + 5
    · by_cases g : 9223372036854775807 < V k
      · have E2 : Hid (R = (0, 3)) := by have := VM.out k (by omega); rw [E.out, if_neg (by omega)]; rfl
        have bx_0 := Box.c0 bx; have bx_1 := Box.c1 bx; have bx_f := Box.loose bx 0; have bx_g := Box.loose bx 1
        by_cases g2 : hi64 (V k) = 0
        · have l2 : lo64 (V k) = V k := by unfold hi64 at g2; unfold lo64; omega
          rw [l2] at bx_1
          rw [g2] at bx_0
          clear l2 g2 bx
          by_cases kp : k = P
          · subst kp
            have kq : ((k : Int) != (k : Int)) = false := by simp
            go_wp2_with fail
            go_ret2
            exact ⟨ret_ii (by rw [E2.out]) (by rw [E2.out]), (by repeat (first | with_reducible exact Kept.refl _ | with_reducible apply Kept.drew | with_reducible apply Kept.drewN | with_reducible apply Kept.alloc | (with_reducible refine Kept.setCellX ?_ ?_ _; focus (first | (simp; done) | (simp; omega))) | (with_reducible refine Kept.trans ?_ (by assumption))))⟩
          · have kq : ((k : Int) != (P : Int)) = true := by simp; omega
            by_cases kl : k < l.length
            · have D := VD.out k kl (by omega) kp c
              obtain ⟨d1, d2, d3⟩ := D
              have D3 := Lib.hid d3
              have ge : (ByteArray.mk l.toArray)[k] = l[k] := rfl
              obtain ⟨d, hd⟩ : ∃ d : Nat, d = l[k].toNat := ⟨_, rfl⟩
              rw [← hd] at d1 d2 D3
              have hd2 : ∀ h, (((ByteArray.mk l.toArray)[k]'h).toNat : Int) = d := fun h => by rw [hd]; rfl
              clear d3 hd ge
              go_wp2_with fail
              go_ret2
              exact ⟨ret_ii (by rw [E2.out]) (by rw [E2.out]), (by repeat (first | with_reducible exact Kept.refl _ | with_reducible apply Kept.drew | with_reducible apply Kept.drewN | with_reducible apply Kept.alloc | (with_reducible refine Kept.setCellX ?_ ?_ _; focus (first | (simp; done) | (simp; omega))) | (with_reducible refine Kept.trans ?_ (by assumption))))⟩
            · have D3 := Lib.hid (VZ.out k (by omega) kp c)
              go_wp2_with fail
              go_ret2
              exact ⟨ret_ii (by rw [E2.out]) (by rw [E2.out]), (by repeat (first | with_reducible exact Kept.refl _ | with_reducible apply Kept.drew | with_reducible apply Kept.drewN | with_reducible apply Kept.alloc | (with_reducible refine Kept.setCellX ?_ ?_ _; focus (first | (simp; done) | (simp; omega))) | (with_reducible refine Kept.trans ?_ (by assumption))))⟩
        · have g3 : (hi64 (V k) != 0) = true := by rw [bne_iff_ne]; exact g2
          clear bx
          by_cases kp : k = P
          · subst kp
            have kq : ((k : Int) != (k : Int)) = false := by simp
            go_wp2_with fail
            go_ret2
            exact ⟨ret_ii (by rw [E2.out]) (by rw [E2.out]), (by repeat (first | with_reducible exact Kept.refl _ | with_reducible apply Kept.drew | with_reducible apply Kept.drewN | with_reducible apply Kept.alloc | (with_reducible refine Kept.setCellX ?_ ?_ _; focus (first | (simp; done) | (simp; omega))) | (with_reducible refine Kept.trans ?_ (by assumption))))⟩
          · have kq : ((k : Int) != (P : Int)) = true := by simp; omega
            by_cases kl : k < l.length
            · have D := VD.out k kl (by omega) kp c
              obtain ⟨d1, d2, d3⟩ := D
              have D3 := Lib.hid d3
              have ge : (ByteArray.mk l.toArray)[k] = l[k] := rfl
              obtain ⟨d, hd⟩ : ∃ d : Nat, d = l[k].toNat := ⟨_, rfl⟩
              rw [← hd] at d1 d2 D3
              have hd2 : ∀ h, (((ByteArray.mk l.toArray)[k]'h).toNat : Int) = d := fun h => by rw [hd]; rfl
              clear d3 hd ge
              go_wp2_with fail
              go_ret2
              exact ⟨ret_ii (by rw [E2.out]) (by rw [E2.out]), (by repeat (first | with_reducible exact Kept.refl _ | with_reducible apply Kept.drew | with_reducible apply Kept.drewN | with_reducible apply Kept.alloc | (with_reducible refine Kept.setCellX ?_ ?_ _; focus (first | (simp; done) | (simp; omega))) | (with_reducible refine Kept.trans ?_ (by assumption))))⟩
            · have D3 := Lib.hid (VZ.out k (by omega) kp c)
              go_wp2_with fail
              go_ret2
              exact ⟨ret_ii (by rw [E2.out]) (by rw [E2.out]), (by repeat (first | with_reducible exact Kept.refl _ | with_reducible apply Kept.drew | with_reducible apply Kept.drewN | with_reducible apply Kept.alloc | (with_reducible refine Kept.setCellX ?_ ?_ _; focus (first | (simp; done) | (simp; omega))) | (with_reducible refine Kept.trans ?_ (by assumption))))⟩
      · have h1 : hi64 (V k) = 0 := by unfold hi64; omega
        have h2 : lo64 (V k) = V k := by unfold lo64; omega
        have HH := Lib.hid (And.intro h1 h2)
        rw [h1, h2] at bx
        clear h1 h2
        by_cases kp : k = P
        · subst kp
          have kq : ((k : Int) != (k : Int)) = false := by simp
          have bx_0 := Box.c0 bx; have bx_1 := Box.c1 bx; have bx_f := Box.loose bx 0; have bx_g := Box.loose bx 1
          go_wp2_with fail
          go_roundw
          case rel => exact ⟨k + 1, by omega, by omega, by go_num, (by repeat (first | with_reducible exact Kept.refl _ | with_reducible apply Kept.drew | with_reducible apply Kept.drewN | with_reducible apply Kept.alloc | (with_reducible refine Kept.setCellX ?_ ?_ _; focus (first | (simp; done) | (simp; omega))) | (with_reducible refine Kept.trans ?_ (by assumption)))), by rw [VP.out]; omega, by rw [VP.out, HH.out.1, HH.out.2]; exact bx⟩
          case measure => (simp [intOf]; try omega)
        · have kq : ((k : Int) != (P : Int)) = true := by simp; omega
          by_cases kl : k < l.length
          · have D := VD.out k kl (by omega) kp c
            obtain ⟨d1, d2, d3⟩ := D
            have D3 := Lib.hid d3
            have ge : (ByteArray.mk l.toArray)[k] = l[k] := rfl
            obtain ⟨d, hd⟩ : ∃ d : Nat, d = l[k].toNat := ⟨_, rfl⟩
            rw [← hd] at d1 d2 D3
            have hd2 : ∀ h, (((ByteArray.mk l.toArray)[k]'h).toNat : Int) = d := fun h => by rw [hd]; rfl
            clear d3 hd ge
            have SP := step_plus (v := V k) (d := (d - 48)) (u := V (k + 1)) (by omega) (by omega) (by have := D3.out; omega)
            have T := fun w => times_any (V k) 10 w ⟨by omega, by omega⟩ ⟨by omega, by omega⟩
            have PL := fun w => plus_any (hi64 ((V k : Int) * 10)) (lo64 ((V k : Int) * 10)) 0 (((d - 48) : Nat) : Int) w (hi64_u _) (lo64_u _) ⟨by omega, by omega⟩ ⟨by omega, by omega⟩
            rw [SP.1, SP.2] at PL
            rw [show (((d - 48 : Nat)) : Int) = (d : Int) - 48 by omega] at PL
            have HT := Lib.hid T
            have HPL := Lib.hid PL
            have NB : Hid (V (k + 1) ≤ 92233720368547758079) := by show _ ≤ _; rw [D3.out]; omega
            clear SP T PL
            have bx_0 := Box.c0 bx; have bx_1 := Box.c1 bx; have bx_f := Box.loose bx 0; have bx_g := Box.loose bx 1
            go_wp2_with fail
            refine (HT.out _).mono ?_
            rintro e w1 ⟨rfl, hk1⟩
            go_wp2_with fail
            refine (HPL.out _).mono ?_
            rintro e w2 ⟨rfl, hk2⟩
            have bx2 : Box w2 w.heap.size 56 #[.int .u64 0, .int .u64 (V k)] := Box.kept hk2 (Box.kept hk1 (by repeat (first | with_reducible assumption | (with_reducible refine Box.newAt ?_ _ _; (simp; done)) | with_reducible apply Box.drew | with_reducible apply Box.drewN | (with_reducible refine Box.alloc ?_ _) | (with_reducible apply Box.s20) | (with_reducible apply Box.s21) | (with_reducible apply Box.s1) | (with_reducible apply Box.s40) | (with_reducible apply Box.s41) | (with_reducible apply Box.s42) | (with_reducible apply Box.s43) | (with_reducible refine Box.farX ?_ ?_ _; focus (first | (simp; done) | (simp; omega))))))
            clear bx_0 bx_1 bx_f bx_g
            have bx2_0 := Box.c0 bx2; have bx2_1 := Box.c1 bx2; have bx2_f := Box.loose bx2 0; have bx2_g := Box.loose bx2 1
            go_wp2_with fail
            go_roundw
            case rel => exact ⟨k + 1, by omega, by omega, by go_num, (by repeat (first | with_reducible exact Kept.refl _ | with_reducible apply Kept.drew | with_reducible apply Kept.drewN | with_reducible apply Kept.alloc | (with_reducible refine Kept.setCellX ?_ ?_ _; focus (first | (simp; done) | (simp; omega))) | (with_reducible refine Kept.trans ?_ (by assumption)))), NB.out, (by repeat (first | with_reducible assumption | (with_reducible refine Box.newAt ?_ _ _; (simp; done)) | with_reducible apply Box.drew | with_reducible apply Box.drewN | (with_reducible refine Box.alloc ?_ _) | (with_reducible apply Box.s20) | (with_reducible apply Box.s21) | (with_reducible apply Box.s1) | (with_reducible apply Box.s40) | (with_reducible apply Box.s41) | (with_reducible apply Box.s42) | (with_reducible apply Box.s43) | (with_reducible refine Box.farX ?_ ?_ _; focus (first | (simp; done) | (simp; omega)))))⟩
            case measure => (simp [intOf]; try omega)
          · have D3 := Lib.hid (VZ.out k (by omega) kp c)
            have SP := step_plus (v := V k) (d := 0) (u := V (k + 1)) (by omega) (by omega) (by have := D3.out; omega)
            have T := fun w => times_any (V k) 10 w ⟨by omega, by omega⟩ ⟨by omega, by omega⟩
            have PL := fun w => plus_any (hi64 ((V k : Int) * 10)) (lo64 ((V k : Int) * 10)) 0 ((0 : Nat) : Int) w (hi64_u _) (lo64_u _) ⟨by omega, by omega⟩ ⟨by omega, by omega⟩
            rw [SP.1, SP.2] at PL
            rw [show (((0 : Nat)) : Int) = 0 from rfl] at PL
            have HT := Lib.hid T
            have HPL := Lib.hid PL
            have NB : Hid (V (k + 1) ≤ 92233720368547758079) := by show _ ≤ _; rw [D3.out]; omega
            clear SP T PL
            have bx_0 := Box.c0 bx; have bx_1 := Box.c1 bx; have bx_f := Box.loose bx 0; have bx_g := Box.loose bx 1
            go_wp2_with fail
            refine (HT.out _).mono ?_
            rintro e w1 ⟨rfl, hk1⟩
            go_wp2_with fail
            refine (HPL.out _).mono ?_
            rintro e w2 ⟨rfl, hk2⟩
            have bx2 : Box w2 w.heap.size 56 #[.int .u64 0, .int .u64 (V k)] := Box.kept hk2 (Box.kept hk1 (by repeat (first | with_reducible assumption | (with_reducible refine Box.newAt ?_ _ _; (simp; done)) | with_reducible apply Box.drew | with_reducible apply Box.drewN | (with_reducible refine Box.alloc ?_ _) | (with_reducible apply Box.s20) | (with_reducible apply Box.s21) | (with_reducible apply Box.s1) | (with_reducible apply Box.s40) | (with_reducible apply Box.s41) | (with_reducible apply Box.s42) | (with_reducible apply Box.s43) | (with_reducible refine Box.farX ?_ ?_ _; focus (first | (simp; done) | (simp; omega))))))
            clear bx_0 bx_1 bx_f bx_g
            have bx2_0 := Box.c0 bx2; have bx2_1 := Box.c1 bx2; have bx2_f := Box.loose bx2 0; have bx2_g := Box.loose bx2 1
            go_wp2_with fail
            go_roundw
            case rel => exact ⟨k + 1, by omega, by omega, by go_num, (by repeat (first | with_reducible exact Kept.refl _ | with_reducible apply Kept.drew | with_reducible apply Kept.drewN | with_reducible apply Kept.alloc | (with_reducible refine Kept.setCellX ?_ ?_ _; focus (first | (simp; done) | (simp; omega))) | (with_reducible refine Kept.trans ?_ (by assumption)))), NB.out, (by repeat (first | with_reducible assumption | (with_reducible refine Box.newAt ?_ _ _; (simp; done)) | with_reducible apply Box.drew | with_reducible apply Box.drewN | (with_reducible refine Box.alloc ?_ _) | (with_reducible apply Box.s20) | (with_reducible apply Box.s21) | (with_reducible apply Box.s1) | (with_reducible apply Box.s40) | (with_reducible apply Box.s41) | (with_reducible apply Box.s42) | (with_reducible apply Box.s43) | (with_reducible refine Box.farX ?_ ?_ _; focus (first | (simp; done) | (simp; omega)))))⟩
            case measure => (simp [intOf]; try omega)
    · obtain rfl : k = P + 5 := by omega
      clear VD VZ VP V0 VM
      generalize V (P + 5) = v at *
      by_cases g : (v : Int) ≤ 9223372036854775807
      · have E2 : Hid (R = (sg true ((v : Int)), 0)) := by rw [E.out, if_pos g]; rfl
        have Sg := fun w => rsigned_any (hi64 ((v : Int))) (lo64 ((v : Int))) true w (hi64_u _) (lo64_u _)
        rw [wd_in (by omega) (by omega), fit_in (by unfold sg; split <;> omega) (by unfold sg; split <;> omega)] at Sg
        have HS := Lib.hid Sg
        clear Sg g
        have bx_0 := Box.c0 bx; have bx_1 := Box.c1 bx; have bx_f := Box.loose bx 0; have bx_g := Box.loose bx 1
        go_wp2_with fail
        refine (HS.out _).mono ?_
        rintro e w3 ⟨rfl, hk3⟩
        go_wp2_with fail
        go_ret2
        exact ⟨ret_ii (by rw [E2.out]) (by rw [E2.out]), (by repeat (first | with_reducible exact Kept.refl _ | with_reducible apply Kept.drew | with_reducible apply Kept.drewN | with_reducible apply Kept.alloc | (with_reducible refine Kept.setCellX ?_ ?_ _; focus (first | (simp; done) | (simp; omega))) | (with_reducible refine Kept.trans ?_ (by assumption))))⟩
      · have E2 : Hid (R = (0, 3)) := by rw [E.out, if_neg g]; rfl
        have Sg := fun w => rsigned_any (hi64 ((v : Int))) (lo64 ((v : Int))) true w (hi64_u _) (lo64_u _)
        rw [wd_in (by omega) (by omega), fit_out (by unfold sg; simp; omega)] at Sg
        have HS := Lib.hid Sg
        clear Sg g
        have bx_0 := Box.c0 bx; have bx_1 := Box.c1 bx; have bx_f := Box.loose bx 0; have bx_g := Box.loose bx 1
        go_wp2_with fail
        refine (HS.out _).mono ?_
        rintro e w3 ⟨rfl, hk3⟩
        go_wp2_with fail
        go_ret2
        exact ⟨ret_ii (by rw [E2.out]) (by rw [E2.out]), (by repeat (first | with_reducible exact Kept.refl _ | with_reducible apply Kept.drew | with_reducible apply Kept.drewN | with_reducible apply Kept.alloc | (with_reducible refine Kept.setCellX ?_ ?_ _; focus (first | (simp; done) | (simp; omega))) | (with_reducible refine Kept.trans ?_ (by assumption))))⟩

set_option maxHeartbeats 1600000 in
set_option maxRecDepth 100000 in
theorem rparse_neg_frac_less (l : List UInt8) (P : Nat) (V : Nat → Nat) (R : Int × Int) (w : World) (hs : l.length ≤ 2001) (hl0 : 0 < l.length) (hP : 1 ≤ P)
    (hb : ∀ h, ((((ByteArray.mk l.toArray)[0]'h).toNat : Int) == 45) = true)
    (HD : Hid (∀ w, Calls Try.prog 64 #[.string ⟨l.toArray⟩, .int .i64 1] w fun e w' => e = .returned (.int .i64 (P : Int)) ∧ w = w'))
    (x1 : ((P : Int) == 1) = false) (hPl : P < l.length) (c0 : ∀ h, ((((ByteArray.mk l.toArray)[P]'h).toNat : Int) == 46) = true) (en : ((l.length : Int) == (P : Int) + 1) = false)
    (HD2 : Hid (∀ w, Calls Try.prog 64 #[.string ⟨l.toArray⟩, .int .i64 ((P : Int) + 1)] w fun e w' => e = .returned (.int .i64 (l.length : Int)) ∧ w = w')) (h5 : P + 5 < l.length) (f : Nat) (q5 : ∀ h, (((ByteArray.mk l.toArray)[P + 5]'h).toNat : Int) = f) (f5 : f < 53)
    (VD : Hid (∀ k (h : k < l.length), 1 ≤ k → k ≠ P → k < P + 5 → 48 ≤ l[k].toNat ∧ l[k].toNat ≤ 57 ∧ V (k + 1) = 10 * V k + (l[k].toNat - 48)))
    (VZ : Hid (∀ k, l.length ≤ k → k ≠ P → k < P + 5 → V (k + 1) = 10 * V k)) (VP : Hid (V (P + 1) = V P)) (V0 : Hid (V 1 = 0)) (VM : Hid (∀ k, k ≤ P + 5 → V k ≤ V (P + 5)))
    (E : Hid (R = if (V (P + 5) : Int) ≤ 9223372036854775807 then (sg true ((V (P + 5) : Int)), 0) else (0, 3))) :
    Calls Try.prog 43 #[.string ⟨l.toArray⟩] w fun e w' => e = .returned (.tuple #[.int .i64 R.1, .int .i64 R.2]) ∧ Kept w w' := by
  have X := ba_extract
  have Z := ba_size
  have pm : (P : Int) ≤ 2001 := by omega
  have pl : (P : Int) < (l.length : Int) := by omega
  go_enter Try.func43, Try.ntmps43
  go_wp2_with fail
  refine (HD.out _).mono ?_
  rintro e w' ⟨rfl, rfl⟩
  go_wp2_with fail
  refine (HD2.out _).mono ?_
  rintro e w' ⟨rfl, rfl⟩
  go_wp2_with fail
  go_loopw [8] (fun i wr => ∃ k : Nat, 1 ≤ k ∧ k ≤ P + 5 ∧ i = .int .i64 k ∧ Kept w wr ∧ V k ≤ 92233720368547758079 ∧ Box wr w.heap.size 56 #[.int .u64 (hi64 (V k)), .int .u64 (lo64 (V k))]) (fun i _ => P + 5 - (intOf i).toNat)
  case atStart => exact ⟨1, by omega, by omega, rfl, (by repeat (first | with_reducible exact Kept.refl _ | with_reducible apply Kept.drew | with_reducible apply Kept.drewN | with_reducible apply Kept.alloc | (with_reducible refine Kept.setCellX ?_ ?_ _; focus (first | (simp; done) | (simp; omega))) | (with_reducible refine Kept.trans ?_ (by assumption)))), by rw [V0.out]; omega, by rw [V0.out, show hi64 ((0 : Nat) : Int) = 0 from rfl, show lo64 ((0 : Nat) : Int) = 0 from rfl]; exact (by repeat (first | with_reducible assumption | (with_reducible refine Box.newAt ?_ _ _; (simp; done)) | with_reducible apply Box.drew | with_reducible apply Box.drewN | (with_reducible refine Box.alloc ?_ _) | (with_reducible apply Box.s20) | (with_reducible apply Box.s21) | (with_reducible apply Box.s1) | (with_reducible apply Box.s40) | (with_reducible apply Box.s41) | (with_reducible apply Box.s42) | (with_reducible apply Box.s43) | (with_reducible refine Box.farX ?_ ?_ _; focus (first | (simp; done) | (simp; omega)))))⟩
  case round =>
    obtain ⟨k, k1, k2, rfl, hk, vb, bx⟩ := hrel
    by_cases c : k < P + 5
    · by_cases g : 9223372036854775807 < V k
      · have E2 : Hid (R = (0, 3)) := by have := VM.out k (by omega); rw [E.out, if_neg (by omega)]; rfl
        have bx_0 := Box.c0 bx; have bx_1 := Box.c1 bx; have bx_f := Box.loose bx 0; have bx_g := Box.loose bx 1
        by_cases g2 : hi64 (V k) = 0
        · have l2 : lo64 (V k) = V k := by unfold hi64 at g2; unfold lo64; omega
          rw [l2] at bx_1
          rw [g2] at bx_0
          clear l2 g2 bx
          by_cases kp : k = P
          · subst kp
            have kq : ((k : Int) != (k : Int)) = false := by simp
            go_wp2_with fail
            go_ret2
            exact ⟨ret_ii (by rw [E2.out]) (by rw [E2.out]), (by repeat (first | with_reducible exact Kept.refl _ | with_reducible apply Kept.drew | with_reducible apply Kept.drewN | with_reducible apply Kept.alloc | (with_reducible refine Kept.setCellX ?_ ?_ _; focus (first | (simp; done) | (simp; omega))) | (with_reducible refine Kept.trans ?_ (by assumption))))⟩
          · have kq : ((k : Int) != (P : Int)) = true := by simp; omega
            by_cases kl : k < l.length
            · have D := VD.out k kl (by omega) kp c
              obtain ⟨d1, d2, d3⟩ := D
              have D3 := Lib.hid d3
              have ge : (ByteArray.mk l.toArray)[k] = l[k] := rfl
              obtain ⟨d, hd⟩ : ∃ d : Nat, d = l[k].toNat := ⟨_, rfl⟩
              rw [← hd] at d1 d2 D3
              have hd2 : ∀ h, (((ByteArray.mk l.toArray)[k]'h).toNat : Int) = d := fun h => by rw [hd]; rfl
              clear d3 hd ge
              go_wp2_with fail
              go_ret2
              exact ⟨ret_ii (by rw [E2.out]) (by rw [E2.out]), (by repeat (first | with_reducible exact Kept.refl _ | with_reducible apply Kept.drew | with_reducible apply Kept.drewN | with_reducible apply Kept.alloc | (with_reducible refine Kept.setCellX ?_ ?_ _; focus (first | (simp; done) | (simp; omega))) | (with_reducible refine Kept.trans ?_ (by assumption))))⟩
            · omega
        · have g3 : (hi64 (V k) != 0) = true := by rw [bne_iff_ne]; exact g2
          clear bx
          by_cases kp : k = P
          · subst kp
            have kq : ((k : Int) != (k : Int)) = false := by simp
            go_wp2_with fail
            go_ret2
            exact ⟨ret_ii (by rw [E2.out]) (by rw [E2.out]), (by repeat (first | with_reducible exact Kept.refl _ | with_reducible apply Kept.drew | with_reducible apply Kept.drewN | with_reducible apply Kept.alloc | (with_reducible refine Kept.setCellX ?_ ?_ _; focus (first | (simp; done) | (simp; omega))) | (with_reducible refine Kept.trans ?_ (by assumption))))⟩
          · have kq : ((k : Int) != (P : Int)) = true := by simp; omega
            by_cases kl : k < l.length
            · have D := VD.out k kl (by omega) kp c
              obtain ⟨d1, d2, d3⟩ := D
              have D3 := Lib.hid d3
              have ge : (ByteArray.mk l.toArray)[k] = l[k] := rfl
              obtain ⟨d, hd⟩ : ∃ d : Nat, d = l[k].toNat := ⟨_, rfl⟩
              rw [← hd] at d1 d2 D3
              have hd2 : ∀ h, (((ByteArray.mk l.toArray)[k]'h).toNat : Int) = d := fun h => by rw [hd]; rfl
              clear d3 hd ge
              go_wp2_with fail
              go_ret2
              exact ⟨ret_ii (by rw [E2.out]) (by rw [E2.out]), (by repeat (first | with_reducible exact Kept.refl _ | with_reducible apply Kept.drew | with_reducible apply Kept.drewN | with_reducible apply Kept.alloc | (with_reducible refine Kept.setCellX ?_ ?_ _; focus (first | (simp; done) | (simp; omega))) | (with_reducible refine Kept.trans ?_ (by assumption))))⟩
            · omega
      · have h1 : hi64 (V k) = 0 := by unfold hi64; omega
        have h2 : lo64 (V k) = V k := by unfold lo64; omega
        have HH := Lib.hid (And.intro h1 h2)
        rw [h1, h2] at bx
        clear h1 h2
        by_cases kp : k = P
        · subst kp
          have kq : ((k : Int) != (k : Int)) = false := by simp
          have bx_0 := Box.c0 bx; have bx_1 := Box.c1 bx; have bx_f := Box.loose bx 0; have bx_g := Box.loose bx 1
          go_wp2_with fail
          go_roundw
          case rel => exact ⟨k + 1, by omega, by omega, by go_num, (by repeat (first | with_reducible exact Kept.refl _ | with_reducible apply Kept.drew | with_reducible apply Kept.drewN | with_reducible apply Kept.alloc | (with_reducible refine Kept.setCellX ?_ ?_ _; focus (first | (simp; done) | (simp; omega))) | (with_reducible refine Kept.trans ?_ (by assumption)))), by rw [VP.out]; omega, by rw [VP.out, HH.out.1, HH.out.2]; exact bx⟩
          case measure => (simp [intOf]; try omega)
        · have kq : ((k : Int) != (P : Int)) = true := by simp; omega
          by_cases kl : k < l.length
          · have D := VD.out k kl (by omega) kp c
            obtain ⟨d1, d2, d3⟩ := D
            have D3 := Lib.hid d3
            have ge : (ByteArray.mk l.toArray)[k] = l[k] := rfl
            obtain ⟨d, hd⟩ : ∃ d : Nat, d = l[k].toNat := ⟨_, rfl⟩
            rw [← hd] at d1 d2 D3
            have hd2 : ∀ h, (((ByteArray.mk l.toArray)[k]'h).toNat : Int) = d := fun h => by rw [hd]; rfl
            clear d3 hd ge
            have SP := step_plus (v := V k) (d := (d - 48)) (u := V (k + 1)) (by omega) (by omega) (by have := D3.out; omega)
            have T := fun w => times_any (V k) 10 w ⟨by omega, by omega⟩ ⟨by omega, by omega⟩
            have PL := fun w => plus_any (hi64 ((V k : Int) * 10)) (lo64 ((V k : Int) * 10)) 0 (((d - 48) : Nat) : Int) w (hi64_u _) (lo64_u _) ⟨by omega, by omega⟩ ⟨by omega, by omega⟩
            rw [SP.1, SP.2] at PL
            rw [show (((d - 48 : Nat)) : Int) = (d : Int) - 48 by omega] at PL
            have HT := Lib.hid T
            have HPL := Lib.hid PL
            have NB : Hid (V (k + 1) ≤ 92233720368547758079) := by show _ ≤ _; rw [D3.out]; omega
            clear SP T PL
            have bx_0 := Box.c0 bx; have bx_1 := Box.c1 bx; have bx_f := Box.loose bx 0; have bx_g := Box.loose bx 1
            go_wp2_with fail
            refine (HT.out _).mono ?_
            rintro e w1 ⟨rfl, hk1⟩
            go_wp2_with fail
            refine (HPL.out _).mono ?_
            rintro e w2 ⟨rfl, hk2⟩
            have bx2 : Box w2 w.heap.size 56 #[.int .u64 0, .int .u64 (V k)] := Box.kept hk2 (Box.kept hk1 (by repeat (first | with_reducible assumption | (with_reducible refine Box.newAt ?_ _ _; (simp; done)) | with_reducible apply Box.drew | with_reducible apply Box.drewN | (with_reducible refine Box.alloc ?_ _) | (with_reducible apply Box.s20) | (with_reducible apply Box.s21) | (with_reducible apply Box.s1) | (with_reducible apply Box.s40) | (with_reducible apply Box.s41) | (with_reducible apply Box.s42) | (with_reducible apply Box.s43) | (with_reducible refine Box.farX ?_ ?_ _; focus (first | (simp; done) | (simp; omega))))))
            clear bx_0 bx_1 bx_f bx_g
            have bx2_0 := Box.c0 bx2; have bx2_1 := Box.c1 bx2; have bx2_f := Box.loose bx2 0; have bx2_g := Box.loose bx2 1
            go_wp2_with fail
            go_roundw
            case rel => exact ⟨k + 1, by omega, by omega, by go_num, (by repeat (first | with_reducible exact Kept.refl _ | with_reducible apply Kept.drew | with_reducible apply Kept.drewN | with_reducible apply Kept.alloc | (with_reducible refine Kept.setCellX ?_ ?_ _; focus (first | (simp; done) | (simp; omega))) | (with_reducible refine Kept.trans ?_ (by assumption)))), NB.out, (by repeat (first | with_reducible assumption | (with_reducible refine Box.newAt ?_ _ _; (simp; done)) | with_reducible apply Box.drew | with_reducible apply Box.drewN | (with_reducible refine Box.alloc ?_ _) | (with_reducible apply Box.s20) | (with_reducible apply Box.s21) | (with_reducible apply Box.s1) | (with_reducible apply Box.s40) | (with_reducible apply Box.s41) | (with_reducible apply Box.s42) | (with_reducible apply Box.s43) | (with_reducible refine Box.farX ?_ ?_ _; focus (first | (simp; done) | (simp; omega)))))⟩
            case measure => (simp [intOf]; try omega)
          · omega
    · obtain rfl : k = P + 5 := by omega
      clear VD VZ VP V0 VM
      generalize V (P + 5) = v at *
      by_cases g : (v : Int) ≤ 9223372036854775807
      · have E2 : Hid (R = (sg true ((v : Int)), 0)) := by rw [E.out, if_pos g]; rfl
        have Sg := fun w => rsigned_any (hi64 ((v : Int))) (lo64 ((v : Int))) true w (hi64_u _) (lo64_u _)
        rw [wd_in (by omega) (by omega), fit_in (by unfold sg; split <;> omega) (by unfold sg; split <;> omega)] at Sg
        have HS := Lib.hid Sg
        clear Sg g
        have bx_0 := Box.c0 bx; have bx_1 := Box.c1 bx; have bx_f := Box.loose bx 0; have bx_g := Box.loose bx 1
        go_wp2_with fail
        refine (HS.out _).mono ?_
        rintro e w3 ⟨rfl, hk3⟩
        go_wp2_with fail
        go_ret2
        exact ⟨ret_ii (by rw [E2.out]) (by rw [E2.out]), (by repeat (first | with_reducible exact Kept.refl _ | with_reducible apply Kept.drew | with_reducible apply Kept.drewN | with_reducible apply Kept.alloc | (with_reducible refine Kept.setCellX ?_ ?_ _; focus (first | (simp; done) | (simp; omega))) | (with_reducible refine Kept.trans ?_ (by assumption))))⟩
      · have E2 : Hid (R = (0, 3)) := by rw [E.out, if_neg g]; rfl
        have Sg := fun w => rsigned_any (hi64 ((v : Int))) (lo64 ((v : Int))) true w (hi64_u _) (lo64_u _)
        rw [wd_in (by omega) (by omega), fit_out (by unfold sg; simp; omega)] at Sg
        have HS := Lib.hid Sg
        clear Sg g
        have bx_0 := Box.c0 bx; have bx_1 := Box.c1 bx; have bx_f := Box.loose bx 0; have bx_g := Box.loose bx 1
        go_wp2_with fail
        refine (HS.out _).mono ?_
        rintro e w3 ⟨rfl, hk3⟩
        go_wp2_with fail
        go_ret2
        exact ⟨ret_ii (by rw [E2.out]) (by rw [E2.out]), (by repeat (first | with_reducible exact Kept.refl _ | with_reducible apply Kept.drew | with_reducible apply Kept.drewN | with_reducible apply Kept.alloc | (with_reducible refine Kept.setCellX ?_ ?_ _; focus (first | (simp; done) | (simp; omega))) | (with_reducible refine Kept.trans ?_ (by assumption))))⟩

set_option maxHeartbeats 1600000 in
set_option maxRecDepth 100000 in
theorem rparse_neg_frac_geq (l : List UInt8) (P : Nat) (V : Nat → Nat) (R : Int × Int) (w : World) (hs : l.length ≤ 2001) (hl0 : 0 < l.length) (hP : 1 ≤ P)
    (hb : ∀ h, ((((ByteArray.mk l.toArray)[0]'h).toNat : Int) == 45) = true)
    (HD : Hid (∀ w, Calls Try.prog 64 #[.string ⟨l.toArray⟩, .int .i64 1] w fun e w' => e = .returned (.int .i64 (P : Int)) ∧ w = w'))
    (x1 : ((P : Int) == 1) = false) (hPl : P < l.length) (c0 : ∀ h, ((((ByteArray.mk l.toArray)[P]'h).toNat : Int) == 46) = true) (en : ((l.length : Int) == (P : Int) + 1) = false)
    (HD2 : Hid (∀ w, Calls Try.prog 64 #[.string ⟨l.toArray⟩, .int .i64 ((P : Int) + 1)] w fun e w' => e = .returned (.int .i64 (l.length : Int)) ∧ w = w')) (h5 : P + 5 < l.length) (f : Nat) (q5 : ∀ h, (((ByteArray.mk l.toArray)[P + 5]'h).toNat : Int) = f) (f5 : 53 ≤ f)
    (VD : Hid (∀ k (h : k < l.length), 1 ≤ k → k ≠ P → k < P + 5 → 48 ≤ l[k].toNat ∧ l[k].toNat ≤ 57 ∧ V (k + 1) = 10 * V k + (l[k].toNat - 48)))
    (VZ : Hid (∀ k, l.length ≤ k → k ≠ P → k < P + 5 → V (k + 1) = 10 * V k)) (VP : Hid (V (P + 1) = V P)) (V0 : Hid (V 1 = 0)) (VM : Hid (∀ k, k ≤ P + 5 → V k ≤ V (P + 5)))
    (E : Hid (R = if (V (P + 5) : Int) + 1 ≤ 9223372036854775807 then (sg true ((V (P + 5) : Int) + 1), 0) else (0, 3))) :
    Calls Try.prog 43 #[.string ⟨l.toArray⟩] w fun e w' => e = .returned (.tuple #[.int .i64 R.1, .int .i64 R.2]) ∧ Kept w w' := by
  have X := ba_extract
  have Z := ba_size
  have pm : (P : Int) ≤ 2001 := by omega
  have pl : (P : Int) < (l.length : Int) := by omega
  go_enter Try.func43, Try.ntmps43
  go_wp2_with fail
  refine (HD.out _).mono ?_
  rintro e w' ⟨rfl, rfl⟩
  go_wp2_with fail
  refine (HD2.out _).mono ?_
  rintro e w' ⟨rfl, rfl⟩
  go_wp2_with fail
  go_loopw [8] (fun i wr => ∃ k : Nat, 1 ≤ k ∧ k ≤ P + 5 ∧ i = .int .i64 k ∧ Kept w wr ∧ V k ≤ 92233720368547758079 ∧ Box wr w.heap.size 56 #[.int .u64 (hi64 (V k)), .int .u64 (lo64 (V k))]) (fun i _ => P + 5 - (intOf i).toNat)
  case atStart => exact ⟨1, by omega, by omega, rfl, (by repeat (first | with_reducible exact Kept.refl _ | with_reducible apply Kept.drew | with_reducible apply Kept.drewN | with_reducible apply Kept.alloc | (with_reducible refine Kept.setCellX ?_ ?_ _; focus (first | (simp; done) | (simp; omega))) | (with_reducible refine Kept.trans ?_ (by assumption)))), by rw [V0.out]; omega, by rw [V0.out, show hi64 ((0 : Nat) : Int) = 0 from rfl, show lo64 ((0 : Nat) : Int) = 0 from rfl]; exact (by repeat (first | with_reducible assumption | (with_reducible refine Box.newAt ?_ _ _; (simp; done)) | with_reducible apply Box.drew | with_reducible apply Box.drewN | (with_reducible refine Box.alloc ?_ _) | (with_reducible apply Box.s20) | (with_reducible apply Box.s21) | (with_reducible apply Box.s1) | (with_reducible apply Box.s40) | (with_reducible apply Box.s41) | (with_reducible apply Box.s42) | (with_reducible apply Box.s43) | (with_reducible refine Box.farX ?_ ?_ _; focus (first | (simp; done) | (simp; omega)))))⟩
  case round =>
    obtain ⟨k, k1, k2, rfl, hk, vb, bx⟩ := hrel
    by_cases c : k < P + 5
    · by_cases g : 9223372036854775807 < V k
      · have E2 : Hid (R = (0, 3)) := by have := VM.out k (by omega); rw [E.out, if_neg (by omega)]; rfl
        have bx_0 := Box.c0 bx; have bx_1 := Box.c1 bx; have bx_f := Box.loose bx 0; have bx_g := Box.loose bx 1
        by_cases g2 : hi64 (V k) = 0
        · have l2 : lo64 (V k) = V k := by unfold hi64 at g2; unfold lo64; omega
          rw [l2] at bx_1
          rw [g2] at bx_0
          clear l2 g2 bx
          by_cases kp : k = P
          · subst kp
            have kq : ((k : Int) != (k : Int)) = false := by simp
            go_wp2_with fail
            go_ret2
            exact ⟨ret_ii (by rw [E2.out]) (by rw [E2.out]), (by repeat (first | with_reducible exact Kept.refl _ | with_reducible apply Kept.drew | with_reducible apply Kept.drewN | with_reducible apply Kept.alloc | (with_reducible refine Kept.setCellX ?_ ?_ _; focus (first | (simp; done) | (simp; omega))) | (with_reducible refine Kept.trans ?_ (by assumption))))⟩
          · have kq : ((k : Int) != (P : Int)) = true := by simp; omega
            by_cases kl : k < l.length
            · have D := VD.out k kl (by omega) kp c
              obtain ⟨d1, d2, d3⟩ := D
              have D3 := Lib.hid d3
              have ge : (ByteArray.mk l.toArray)[k] = l[k] := rfl
              obtain ⟨d, hd⟩ : ∃ d : Nat, d = l[k].toNat := ⟨_, rfl⟩
              rw [← hd] at d1 d2 D3
              have hd2 : ∀ h, (((ByteArray.mk l.toArray)[k]'h).toNat : Int) = d := fun h => by rw [hd]; rfl
              clear d3 hd ge
              go_wp2_with fail
              go_ret2
              exact ⟨ret_ii (by rw [E2.out]) (by rw [E2.out]), (by repeat (first | with_reducible exact Kept.refl _ | with_reducible apply Kept.drew | with_reducible apply Kept.drewN | with_reducible apply Kept.alloc | (with_reducible refine Kept.setCellX ?_ ?_ _; focus (first | (simp; done) | (simp; omega))) | (with_reducible refine Kept.trans ?_ (by assumption))))⟩
            · omega
        · have g3 : (hi64 (V k) != 0) = true := by rw [bne_iff_ne]; exact g2
          clear bx
          by_cases kp : k = P
          · subst kp
            have kq : ((k : Int) != (k : Int)) = false := by simp
            go_wp2_with fail
            go_ret2
            exact ⟨ret_ii (by rw [E2.out]) (by rw [E2.out]), (by repeat (first | with_reducible exact Kept.refl _ | with_reducible apply Kept.drew | with_reducible apply Kept.drewN | with_reducible apply Kept.alloc | (with_reducible refine Kept.setCellX ?_ ?_ _; focus (first | (simp; done) | (simp; omega))) | (with_reducible refine Kept.trans ?_ (by assumption))))⟩
          · have kq : ((k : Int) != (P : Int)) = true := by simp; omega
            by_cases kl : k < l.length
            · have D := VD.out k kl (by omega) kp c
              obtain ⟨d1, d2, d3⟩ := D
              have D3 := Lib.hid d3
              have ge : (ByteArray.mk l.toArray)[k] = l[k] := rfl
              obtain ⟨d, hd⟩ : ∃ d : Nat, d = l[k].toNat := ⟨_, rfl⟩
              rw [← hd] at d1 d2 D3
              have hd2 : ∀ h, (((ByteArray.mk l.toArray)[k]'h).toNat : Int) = d := fun h => by rw [hd]; rfl
              clear d3 hd ge
              go_wp2_with fail
              go_ret2
              exact ⟨ret_ii (by rw [E2.out]) (by rw [E2.out]), (by repeat (first | with_reducible exact Kept.refl _ | with_reducible apply Kept.drew | with_reducible apply Kept.drewN | with_reducible apply Kept.alloc | (with_reducible refine Kept.setCellX ?_ ?_ _; focus (first | (simp; done) | (simp; omega))) | (with_reducible refine Kept.trans ?_ (by assumption))))⟩
            · omega
      · have h1 : hi64 (V k) = 0 := by unfold hi64; omega
        have h2 : lo64 (V k) = V k := by unfold lo64; omega
        have HH := Lib.hid (And.intro h1 h2)
        rw [h1, h2] at bx
        clear h1 h2
        by_cases kp : k = P
        · subst kp
          have kq : ((k : Int) != (k : Int)) = false := by simp
          have bx_0 := Box.c0 bx; have bx_1 := Box.c1 bx; have bx_f := Box.loose bx 0; have bx_g := Box.loose bx 1
          go_wp2_with fail
          go_roundw
          case rel => exact ⟨k + 1, by omega, by omega, by go_num, (by repeat (first | with_reducible exact Kept.refl _ | with_reducible apply Kept.drew | with_reducible apply Kept.drewN | with_reducible apply Kept.alloc | (with_reducible refine Kept.setCellX ?_ ?_ _; focus (first | (simp; done) | (simp; omega))) | (with_reducible refine Kept.trans ?_ (by assumption)))), by rw [VP.out]; omega, by rw [VP.out, HH.out.1, HH.out.2]; exact bx⟩
          case measure => (simp [intOf]; try omega)
        · have kq : ((k : Int) != (P : Int)) = true := by simp; omega
          by_cases kl : k < l.length
          · have D := VD.out k kl (by omega) kp c
            obtain ⟨d1, d2, d3⟩ := D
            have D3 := Lib.hid d3
            have ge : (ByteArray.mk l.toArray)[k] = l[k] := rfl
            obtain ⟨d, hd⟩ : ∃ d : Nat, d = l[k].toNat := ⟨_, rfl⟩
            rw [← hd] at d1 d2 D3
            have hd2 : ∀ h, (((ByteArray.mk l.toArray)[k]'h).toNat : Int) = d := fun h => by rw [hd]; rfl
            clear d3 hd ge
            have SP := step_plus (v := V k) (d := (d - 48)) (u := V (k + 1)) (by omega) (by omega) (by have := D3.out; omega)
            have T := fun w => times_any (V k) 10 w ⟨by omega, by omega⟩ ⟨by omega, by omega⟩
            have PL := fun w => plus_any (hi64 ((V k : Int) * 10)) (lo64 ((V k : Int) * 10)) 0 (((d - 48) : Nat) : Int) w (hi64_u _) (lo64_u _) ⟨by omega, by omega⟩ ⟨by omega, by omega⟩
            rw [SP.1, SP.2] at PL
            rw [show (((d - 48 : Nat)) : Int) = (d : Int) - 48 by omega] at PL
            have HT := Lib.hid T
            have HPL := Lib.hid PL
            have NB : Hid (V (k + 1) ≤ 92233720368547758079) := by show _ ≤ _; rw [D3.out]; omega
            clear SP T PL
            have bx_0 := Box.c0 bx; have bx_1 := Box.c1 bx; have bx_f := Box.loose bx 0; have bx_g := Box.loose bx 1
            go_wp2_with fail
            refine (HT.out _).mono ?_
            rintro e w1 ⟨rfl, hk1⟩
            go_wp2_with fail
            refine (HPL.out _).mono ?_
            rintro e w2 ⟨rfl, hk2⟩
            have bx2 : Box w2 w.heap.size 56 #[.int .u64 0, .int .u64 (V k)] := Box.kept hk2 (Box.kept hk1 (by repeat (first | with_reducible assumption | (with_reducible refine Box.newAt ?_ _ _; (simp; done)) | with_reducible apply Box.drew | with_reducible apply Box.drewN | (with_reducible refine Box.alloc ?_ _) | (with_reducible apply Box.s20) | (with_reducible apply Box.s21) | (with_reducible apply Box.s1) | (with_reducible apply Box.s40) | (with_reducible apply Box.s41) | (with_reducible apply Box.s42) | (with_reducible apply Box.s43) | (with_reducible refine Box.farX ?_ ?_ _; focus (first | (simp; done) | (simp; omega))))))
            clear bx_0 bx_1 bx_f bx_g
            have bx2_0 := Box.c0 bx2; have bx2_1 := Box.c1 bx2; have bx2_f := Box.loose bx2 0; have bx2_g := Box.loose bx2 1
            go_wp2_with fail
            go_roundw
            case rel => exact ⟨k + 1, by omega, by omega, by go_num, (by repeat (first | with_reducible exact Kept.refl _ | with_reducible apply Kept.drew | with_reducible apply Kept.drewN | with_reducible apply Kept.alloc | (with_reducible refine Kept.setCellX ?_ ?_ _; focus (first | (simp; done) | (simp; omega))) | (with_reducible refine Kept.trans ?_ (by assumption)))), NB.out, (by repeat (first | with_reducible assumption | (with_reducible refine Box.newAt ?_ _ _; (simp; done)) | with_reducible apply Box.drew | with_reducible apply Box.drewN | (with_reducible refine Box.alloc ?_ _) | (with_reducible apply Box.s20) | (with_reducible apply Box.s21) | (with_reducible apply Box.s1) | (with_reducible apply Box.s40) | (with_reducible apply Box.s41) | (with_reducible apply Box.s42) | (with_reducible apply Box.s43) | (with_reducible refine Box.farX ?_ ?_ _; focus (first | (simp; done) | (simp; omega)))))⟩
            case measure => (simp [intOf]; try omega)
          · omega
    · obtain rfl : k = P + 5 := by omega
      clear VD VZ VP V0 VM
      generalize V (P + 5) = v at *
      have PL := fun w => plus_any (hi64 (v : Int)) (lo64 (v : Int)) 0 1 w (hi64_u _) (lo64_u _) ⟨by omega, by omega⟩ ⟨by omega, by omega⟩
      rw [wd_in (by omega) (by omega), show wd 0 1 = 1 by rfl] at PL
      have HPL := Lib.hid PL
      clear PL
      by_cases g : (v : Int) + 1 ≤ 9223372036854775807
      · have E2 : Hid (R = (sg true ((v : Int) + 1), 0)) := by rw [E.out, if_pos g]; rfl
        have Sg := fun w => rsigned_any (hi64 ((v : Int) + 1)) (lo64 ((v : Int) + 1)) true w (hi64_u _) (lo64_u _)
        rw [wd_in (by omega) (by omega), fit_in (by unfold sg; split <;> omega) (by unfold sg; split <;> omega)] at Sg
        have HS := Lib.hid Sg
        clear Sg g
        have bx_0 := Box.c0 bx; have bx_1 := Box.c1 bx; have bx_f := Box.loose bx 0; have bx_g := Box.loose bx 1
        go_wp2_with fail
        refine (HPL.out _).mono ?_
        rintro e w2 ⟨rfl, hk2⟩
        have bx2 : Box w2 w.heap.size 56 #[.int .u64 (hi64 (v : Int)), .int .u64 (lo64 (v : Int))] := Box.kept hk2 (by repeat (first | with_reducible assumption | (with_reducible refine Box.newAt ?_ _ _; (simp; done)) | with_reducible apply Box.drew | with_reducible apply Box.drewN | (with_reducible refine Box.alloc ?_ _) | (with_reducible apply Box.s20) | (with_reducible apply Box.s21) | (with_reducible apply Box.s1) | (with_reducible apply Box.s40) | (with_reducible apply Box.s41) | (with_reducible apply Box.s42) | (with_reducible apply Box.s43) | (with_reducible refine Box.farX ?_ ?_ _; focus (first | (simp; done) | (simp; omega)))))
        clear bx_0 bx_1 bx_f bx_g
        have bx2_0 := Box.c0 bx2; have bx2_1 := Box.c1 bx2; have bx2_f := Box.loose bx2 0; have bx2_g := Box.loose bx2 1
        go_wp2_with fail
        refine (HS.out _).mono ?_
        rintro e w3 ⟨rfl, hk3⟩
        go_wp2_with fail
        go_ret2
        exact ⟨ret_ii (by rw [E2.out]) (by rw [E2.out]), (by repeat (first | with_reducible exact Kept.refl _ | with_reducible apply Kept.drew | with_reducible apply Kept.drewN | with_reducible apply Kept.alloc | (with_reducible refine Kept.setCellX ?_ ?_ _; focus (first | (simp; done) | (simp; omega))) | (with_reducible refine Kept.trans ?_ (by assumption))))⟩
      · have E2 : Hid (R = (0, 3)) := by rw [E.out, if_neg g]; rfl
        have Sg := fun w => rsigned_any (hi64 ((v : Int) + 1)) (lo64 ((v : Int) + 1)) true w (hi64_u _) (lo64_u _)
        rw [wd_in (by omega) (by omega), fit_out (by unfold sg; simp; omega)] at Sg
        have HS := Lib.hid Sg
        clear Sg g
        have bx_0 := Box.c0 bx; have bx_1 := Box.c1 bx; have bx_f := Box.loose bx 0; have bx_g := Box.loose bx 1
        go_wp2_with fail
        refine (HPL.out _).mono ?_
        rintro e w2 ⟨rfl, hk2⟩
        have bx2 : Box w2 w.heap.size 56 #[.int .u64 (hi64 (v : Int)), .int .u64 (lo64 (v : Int))] := Box.kept hk2 (by repeat (first | with_reducible assumption | (with_reducible refine Box.newAt ?_ _ _; (simp; done)) | with_reducible apply Box.drew | with_reducible apply Box.drewN | (with_reducible refine Box.alloc ?_ _) | (with_reducible apply Box.s20) | (with_reducible apply Box.s21) | (with_reducible apply Box.s1) | (with_reducible apply Box.s40) | (with_reducible apply Box.s41) | (with_reducible apply Box.s42) | (with_reducible apply Box.s43) | (with_reducible refine Box.farX ?_ ?_ _; focus (first | (simp; done) | (simp; omega)))))
        clear bx_0 bx_1 bx_f bx_g
        have bx2_0 := Box.c0 bx2; have bx2_1 := Box.c1 bx2; have bx2_f := Box.loose bx2 0; have bx2_g := Box.loose bx2 1
        go_wp2_with fail
        refine (HS.out _).mono ?_
        rintro e w3 ⟨rfl, hk3⟩
        go_wp2_with fail
        go_ret2
        exact ⟨ret_ii (by rw [E2.out]) (by rw [E2.out]), (by repeat (first | with_reducible exact Kept.refl _ | with_reducible apply Kept.drew | with_reducible apply Kept.drewN | with_reducible apply Kept.alloc | (with_reducible refine Kept.setCellX ?_ ?_ _; focus (first | (simp; done) | (simp; omega))) | (with_reducible refine Kept.trans ?_ (by assumption))))⟩

set_option maxHeartbeats 1600000 in
set_option maxRecDepth 100000 in
theorem rparse_pos_whole_none (l : List UInt8) (P : Nat) (V : Nat → Nat) (R : Int × Int) (w : World) (hs : l.length ≤ 2001) (hl0 : 0 < l.length) (hP : 0 ≤ P)
    (hb : ∀ h, ((((ByteArray.mk l.toArray)[0]'h).toNat : Int) == 45) = false)
    (HD : Hid (∀ w, Calls Try.prog 64 #[.string ⟨l.toArray⟩, .int .i64 0] w fun e w' => e = .returned (.int .i64 (P : Int)) ∧ w = w'))
    (x1 : ((P : Int) == 0) = false) (hPl : P = l.length) (h5 : l.length ≤ P + 5)
    (VD : Hid (∀ k (h : k < l.length), 0 ≤ k → k ≠ P → k < P + 5 → 48 ≤ l[k].toNat ∧ l[k].toNat ≤ 57 ∧ V (k + 1) = 10 * V k + (l[k].toNat - 48)))
    (VZ : Hid (∀ k, l.length ≤ k → k ≠ P → k < P + 5 → V (k + 1) = 10 * V k)) (VP : Hid (V (P + 1) = V P)) (V0 : Hid (V 0 = 0)) (VM : Hid (∀ k, k ≤ P + 5 → V k ≤ V (P + 5)))
    (E : Hid (R = if (V (P + 5) : Int) ≤ 9223372036854775807 then (sg false ((V (P + 5) : Int)), 0) else (0, 3))) :
    Calls Try.prog 43 #[.string ⟨l.toArray⟩] w fun e w' => e = .returned (.tuple #[.int .i64 R.1, .int .i64 R.2]) ∧ Kept w w' := by
  have X := ba_extract
  have Z := ba_size
  have pm : (P : Int) ≤ 2001 := by omega
  have pl : ¬ (P : Int) < (l.length : Int) := by omega
  have x2 : ((P : Int) != (l.length : Int)) = false := by rw [hPl]; simp
  have x3 : ((P : Int) == (P : Int) + 1) = false := by rw [beq_eq_false_iff_ne]; omega
  have HPl := Lib.hid hPl
  clear hPl
  go_enter Try.func43, Try.ntmps43
  go_wp2_with fail
  refine (HD.out _).mono ?_
  rintro e w' ⟨rfl, rfl⟩
  go_wp2_with fail
  go_loopw [8] (fun i wr => ∃ k : Nat, 0 ≤ k ∧ k ≤ P + 5 ∧ i = .int .i64 k ∧ Kept w wr ∧ V k ≤ 92233720368547758079 ∧ Box wr w.heap.size 56 #[.int .u64 (hi64 (V k)), .int .u64 (lo64 (V k))]) (fun i _ => P + 5 - (intOf i).toNat)
  case atStart => exact ⟨0, by omega, by omega, rfl, (by repeat (first | with_reducible exact Kept.refl _ | with_reducible apply Kept.drew | with_reducible apply Kept.drewN | with_reducible apply Kept.alloc | (with_reducible refine Kept.setCellX ?_ ?_ _; focus (first | (simp; done) | (simp; omega))) | (with_reducible refine Kept.trans ?_ (by assumption)))), by rw [V0.out]; omega, by rw [V0.out, show hi64 ((0 : Nat) : Int) = 0 from rfl, show lo64 ((0 : Nat) : Int) = 0 from rfl]; exact (by repeat (first | with_reducible assumption | (with_reducible refine Box.newAt ?_ _ _; (simp; done)) | with_reducible apply Box.drew | with_reducible apply Box.drewN | (with_reducible refine Box.alloc ?_ _) | (with_reducible apply Box.s20) | (with_reducible apply Box.s21) | (with_reducible apply Box.s1) | (with_reducible apply Box.s40) | (with_reducible apply Box.s41) | (with_reducible apply Box.s42) | (with_reducible apply Box.s43) | (with_reducible refine Box.farX ?_ ?_ _; focus (first | (simp; done) | (simp; omega)))))⟩
  case round =>
    obtain ⟨k, k1, k2, rfl, hk, vb, bx⟩ := hrel
    by_cases c : k < P + 5
    · by_cases g : 9223372036854775807 < V k
      · have E2 : Hid (R = (0, 3)) := by have := VM.out k (by omega); rw [E.out, if_neg (by omega)]; rfl
        have bx_0 := Box.c0 bx; have bx_1 := Box.c1 bx; have bx_f := Box.loose bx 0; have bx_g := Box.loose bx 1
        by_cases g2 : hi64 (V k) = 0
        · have l2 : lo64 (V k) = V k := by unfold hi64 at g2; unfold lo64; omega
          rw [l2] at bx_1
          rw [g2] at bx_0
          clear l2 g2 bx
          by_cases kp : k = P
          · subst kp
            have kq : ((k : Int) != (k : Int)) = false := by simp
            go_wp2_with fail
            go_ret2
            exact ⟨ret_ii (by rw [E2.out]) (by rw [E2.out]), (by repeat (first | with_reducible exact Kept.refl _ | with_reducible apply Kept.drew | with_reducible apply Kept.drewN | with_reducible apply Kept.alloc | (with_reducible refine Kept.setCellX ?_ ?_ _; focus (first | (simp; done) | (simp; omega))) | (with_reducible refine Kept.trans ?_ (by assumption))))⟩
          · have kq : ((k : Int) != (P : Int)) = true := by simp; omega
            by_cases kl : k < l.length
            · have D := VD.out k kl (by omega) kp c
              obtain ⟨d1, d2, d3⟩ := D
              have D3 := Lib.hid d3
              have ge : (ByteArray.mk l.toArray)[k] = l[k] := rfl
              obtain ⟨d, hd⟩ : ∃ d : Nat, d = l[k].toNat := ⟨_, rfl⟩
              rw [← hd] at d1 d2 D3
              have hd2 : ∀ h, (((ByteArray.mk l.toArray)[k]'h).toNat : Int) = d := fun h => by rw [hd]; rfl
              clear d3 hd ge
              go_wp2_with fail
              go_ret2
              exact ⟨ret_ii (by rw [E2.out]) (by rw [E2.out]), (by repeat (first | with_reducible exact Kept.refl _ | with_reducible apply Kept.drew | with_reducible apply Kept.drewN | with_reducible apply Kept.alloc | (with_reducible refine Kept.setCellX ?_ ?_ _; focus (first | (simp; done) | (simp; omega))) | (with_reducible refine Kept.trans ?_ (by assumption))))⟩
            · have D3 := Lib.hid (VZ.out k (by omega) kp c)
              go_wp2_with fail
              go_ret2
              exact ⟨ret_ii (by rw [E2.out]) (by rw [E2.out]), (by repeat (first | with_reducible exact Kept.refl _ | with_reducible apply Kept.drew | with_reducible apply Kept.drewN | with_reducible apply Kept.alloc | (with_reducible refine Kept.setCellX ?_ ?_ _; focus (first | (simp; done) | (simp; omega))) | (with_reducible refine Kept.trans ?_ (by assumption))))⟩
        · have g3 : (hi64 (V k) != 0) = true := by rw [bne_iff_ne]; exact g2
          clear bx
          by_cases kp : k = P
          · subst kp
            have kq : ((k : Int) != (k : Int)) = false := by simp
            go_wp2_with fail
            go_ret2
            exact ⟨ret_ii (by rw [E2.out]) (by rw [E2.out]), (by repeat (first | with_reducible exact Kept.refl _ | with_reducible apply Kept.drew | with_reducible apply Kept.drewN | with_reducible apply Kept.alloc | (with_reducible refine Kept.setCellX ?_ ?_ _; focus (first | (simp; done) | (simp; omega))) | (with_reducible refine Kept.trans ?_ (by assumption))))⟩
          · have kq : ((k : Int) != (P : Int)) = true := by simp; omega
            by_cases kl : k < l.length
            · have D := VD.out k kl (by omega) kp c
              obtain ⟨d1, d2, d3⟩ := D
              have D3 := Lib.hid d3
              have ge : (ByteArray.mk l.toArray)[k] = l[k] := rfl
              obtain ⟨d, hd⟩ : ∃ d : Nat, d = l[k].toNat := ⟨_, rfl⟩
              rw [← hd] at d1 d2 D3
              have hd2 : ∀ h, (((ByteArray.mk l.toArray)[k]'h).toNat : Int) = d := fun h => by rw [hd]; rfl
              clear d3 hd ge
              go_wp2_with fail
              go_ret2
              exact ⟨ret_ii (by rw [E2.out]) (by rw [E2.out]), (by repeat (first | with_reducible exact Kept.refl _ | with_reducible apply Kept.drew | with_reducible apply Kept.drewN | with_reducible apply Kept.alloc | (with_reducible refine Kept.setCellX ?_ ?_ _; focus (first | (simp; done) | (simp; omega))) | (with_reducible refine Kept.trans ?_ (by assumption))))⟩
            · have D3 := Lib.hid (VZ.out k (by omega) kp c)
              go_wp2_with fail
              go_ret2
              exact ⟨ret_ii (by rw [E2.out]) (by rw [E2.out]), (by repeat (first | with_reducible exact Kept.refl _ | with_reducible apply Kept.drew | with_reducible apply Kept.drewN | with_reducible apply Kept.alloc | (with_reducible refine Kept.setCellX ?_ ?_ _; focus (first | (simp; done) | (simp; omega))) | (with_reducible refine Kept.trans ?_ (by assumption))))⟩
      · have h1 : hi64 (V k) = 0 := by unfold hi64; omega
        have h2 : lo64 (V k) = V k := by unfold lo64; omega
        have HH := Lib.hid (And.intro h1 h2)
        rw [h1, h2] at bx
        clear h1 h2
        by_cases kp : k = P
        · subst kp
          have kq : ((k : Int) != (k : Int)) = false := by simp
          have bx_0 := Box.c0 bx; have bx_1 := Box.c1 bx; have bx_f := Box.loose bx 0; have bx_g := Box.loose bx 1
          go_wp2_with fail
          go_roundw
          case rel => exact ⟨k + 1, by omega, by omega, by go_num, (by repeat (first | with_reducible exact Kept.refl _ | with_reducible apply Kept.drew | with_reducible apply Kept.drewN | with_reducible apply Kept.alloc | (with_reducible refine Kept.setCellX ?_ ?_ _; focus (first | (simp; done) | (simp; omega))) | (with_reducible refine Kept.trans ?_ (by assumption)))), by rw [VP.out]; omega, by rw [VP.out, HH.out.1, HH.out.2]; exact bx⟩
          case measure => (simp [intOf]; try omega)
        · have kq : ((k : Int) != (P : Int)) = true := by simp; omega
          by_cases kl : k < l.length
          · have D := VD.out k kl (by omega) kp c
            obtain ⟨d1, d2, d3⟩ := D
            have D3 := Lib.hid d3
            have ge : (ByteArray.mk l.toArray)[k] = l[k] := rfl
            obtain ⟨d, hd⟩ : ∃ d : Nat, d = l[k].toNat := ⟨_, rfl⟩
            rw [← hd] at d1 d2 D3
            have hd2 : ∀ h, (((ByteArray.mk l.toArray)[k]'h).toNat : Int) = d := fun h => by rw [hd]; rfl
            clear d3 hd ge
            have SP := step_plus (v := V k) (d := (d - 48)) (u := V (k + 1)) (by omega) (by omega) (by have := D3.out; omega)
            have T := fun w => times_any (V k) 10 w ⟨by omega, by omega⟩ ⟨by omega, by omega⟩
            have PL := fun w => plus_any (hi64 ((V k : Int) * 10)) (lo64 ((V k : Int) * 10)) 0 (((d - 48) : Nat) : Int) w (hi64_u _) (lo64_u _) ⟨by omega, by omega⟩ ⟨by omega, by omega⟩
            rw [SP.1, SP.2] at PL
            rw [show (((d - 48 : Nat)) : Int) = (d : Int) - 48 by omega] at PL
            have HT := Lib.hid T
            have HPL := Lib.hid PL
            have NB : Hid (V (k + 1) ≤ 92233720368547758079) := by show _ ≤ _; rw [D3.out]; omega
            clear SP T PL
            have bx_0 := Box.c0 bx; have bx_1 := Box.c1 bx; have bx_f := Box.loose bx 0; have bx_g := Box.loose bx 1
            go_wp2_with fail
            refine (HT.out _).mono ?_
            rintro e w1 ⟨rfl, hk1⟩
            go_wp2_with fail
            refine (HPL.out _).mono ?_
            rintro e w2 ⟨rfl, hk2⟩
            have bx2 : Box w2 w.heap.size 56 #[.int .u64 0, .int .u64 (V k)] := Box.kept hk2 (Box.kept hk1 (by repeat (first | with_reducible assumption | (with_reducible refine Box.newAt ?_ _ _; (simp; done)) | with_reducible apply Box.drew | with_reducible apply Box.drewN | (with_reducible refine Box.alloc ?_ _) | (with_reducible apply Box.s20) | (with_reducible apply Box.s21) | (with_reducible apply Box.s1) | (with_reducible apply Box.s40) | (with_reducible apply Box.s41) | (with_reducible apply Box.s42) | (with_reducible apply Box.s43) | (with_reducible refine Box.farX ?_ ?_ _; focus (first | (simp; done) | (simp; omega))))))
            clear bx_0 bx_1 bx_f bx_g
            have bx2_0 := Box.c0 bx2; have bx2_1 := Box.c1 bx2; have bx2_f := Box.loose bx2 0; have bx2_g := Box.loose bx2 1
            go_wp2_with fail
            go_roundw
            case rel => exact ⟨k + 1, by omega, by omega, by go_num, (by repeat (first | with_reducible exact Kept.refl _ | with_reducible apply Kept.drew | with_reducible apply Kept.drewN | with_reducible apply Kept.alloc | (with_reducible refine Kept.setCellX ?_ ?_ _; focus (first | (simp; done) | (simp; omega))) | (with_reducible refine Kept.trans ?_ (by assumption)))), NB.out, (by repeat (first | with_reducible assumption | (with_reducible refine Box.newAt ?_ _ _; (simp; done)) | with_reducible apply Box.drew | with_reducible apply Box.drewN | (with_reducible refine Box.alloc ?_ _) | (with_reducible apply Box.s20) | (with_reducible apply Box.s21) | (with_reducible apply Box.s1) | (with_reducible apply Box.s40) | (with_reducible apply Box.s41) | (with_reducible apply Box.s42) | (with_reducible apply Box.s43) | (with_reducible refine Box.farX ?_ ?_ _; focus (first | (simp; done) | (simp; omega)))))⟩
            case measure => (simp [intOf]; try omega)
          · have D3 := Lib.hid (VZ.out k (by omega) kp c)
            have SP := step_plus (v := V k) (d := 0) (u := V (k + 1)) (by omega) (by omega) (by have := D3.out; omega)
            have T := fun w => times_any (V k) 10 w ⟨by omega, by omega⟩ ⟨by omega, by omega⟩
            have PL := fun w => plus_any (hi64 ((V k : Int) * 10)) (lo64 ((V k : Int) * 10)) 0 ((0 : Nat) : Int) w (hi64_u _) (lo64_u _) ⟨by omega, by omega⟩ ⟨by omega, by omega⟩
            rw [SP.1, SP.2] at PL
            rw [show (((0 : Nat)) : Int) = 0 from rfl] at PL
            have HT := Lib.hid T
            have HPL := Lib.hid PL
            have NB : Hid (V (k + 1) ≤ 92233720368547758079) := by show _ ≤ _; rw [D3.out]; omega
            clear SP T PL
            have bx_0 := Box.c0 bx; have bx_1 := Box.c1 bx; have bx_f := Box.loose bx 0; have bx_g := Box.loose bx 1
            go_wp2_with fail
            refine (HT.out _).mono ?_
            rintro e w1 ⟨rfl, hk1⟩
            go_wp2_with fail
            refine (HPL.out _).mono ?_
            rintro e w2 ⟨rfl, hk2⟩
            have bx2 : Box w2 w.heap.size 56 #[.int .u64 0, .int .u64 (V k)] := Box.kept hk2 (Box.kept hk1 (by repeat (first | with_reducible assumption | (with_reducible refine Box.newAt ?_ _ _; (simp; done)) | with_reducible apply Box.drew | with_reducible apply Box.drewN | (with_reducible refine Box.alloc ?_ _) | (with_reducible apply Box.s20) | (with_reducible apply Box.s21) | (with_reducible apply Box.s1) | (with_reducible apply Box.s40) | (with_reducible apply Box.s41) | (with_reducible apply Box.s42) | (with_reducible apply Box.s43) | (with_reducible refine Box.farX ?_ ?_ _; focus (first | (simp; done) | (simp; omega))))))
            clear bx_0 bx_1 bx_f bx_g
            have bx2_0 := Box.c0 bx2; have bx2_1 := Box.c1 bx2; have bx2_f := Box.loose bx2 0; have bx2_g := Box.loose bx2 1
            go_wp2_with fail
            go_roundw
            case rel => exact ⟨k + 1, by omega, by omega, by go_num, (by repeat (first | with_reducible exact Kept.refl _ | with_reducible apply Kept.drew | with_reducible apply Kept.drewN | with_reducible apply Kept.alloc | (with_reducible refine Kept.setCellX ?_ ?_ _; focus (first | (simp; done) | (simp; omega))) | (with_reducible refine Kept.trans ?_ (by assumption)))), NB.out, (by repeat (first | with_reducible assumption | (with_reducible refine Box.newAt ?_ _ _; (simp; done)) | with_reducible apply Box.drew | with_reducible apply Box.drewN | (with_reducible refine Box.alloc ?_ _) | (with_reducible apply Box.s20) | (with_reducible apply Box.s21) | (with_reducible apply Box.s1) | (with_reducible apply Box.s40) | (with_reducible apply Box.s41) | (with_reducible apply Box.s42) | (with_reducible apply Box.s43) | (with_reducible refine Box.farX ?_ ?_ _; focus (first | (simp; done) | (simp; omega)))))⟩
            case measure => (simp [intOf]; try omega)
    · obtain rfl : k = P + 5 := by omega
      clear VD VZ VP V0 VM
      generalize V (P + 5) = v at *
      by_cases g : (v : Int) ≤ 9223372036854775807
      · have E2 : Hid (R = (sg false ((v : Int)), 0)) := by rw [E.out, if_pos g]; rfl
        have Sg := fun w => rsigned_any (hi64 ((v : Int))) (lo64 ((v : Int))) false w (hi64_u _) (lo64_u _)
        rw [wd_in (by omega) (by omega), fit_in (by unfold sg; split <;> omega) (by unfold sg; split <;> omega)] at Sg
        have HS := Lib.hid Sg
        clear Sg g
        have bx_0 := Box.c0 bx; have bx_1 := Box.c1 bx; have bx_f := Box.loose bx 0; have bx_g := Box.loose bx 1
        go_wp2_with fail
        refine (HS.out _).mono ?_
        rintro e w3 ⟨rfl, hk3⟩
        go_wp2_with fail
        go_ret2
        exact ⟨ret_ii (by rw [E2.out]) (by rw [E2.out]), (by repeat (first | with_reducible exact Kept.refl _ | with_reducible apply Kept.drew | with_reducible apply Kept.drewN | with_reducible apply Kept.alloc | (with_reducible refine Kept.setCellX ?_ ?_ _; focus (first | (simp; done) | (simp; omega))) | (with_reducible refine Kept.trans ?_ (by assumption))))⟩
      · have E2 : Hid (R = (0, 3)) := by rw [E.out, if_neg g]; rfl
        have Sg := fun w => rsigned_any (hi64 ((v : Int))) (lo64 ((v : Int))) false w (hi64_u _) (lo64_u _)
        rw [wd_in (by omega) (by omega), fit_out (by unfold sg; simp; omega)] at Sg
        have HS := Lib.hid Sg
        clear Sg g
        have bx_0 := Box.c0 bx; have bx_1 := Box.c1 bx; have bx_f := Box.loose bx 0; have bx_g := Box.loose bx 1
        go_wp2_with fail
        refine (HS.out _).mono ?_
        rintro e w3 ⟨rfl, hk3⟩
        go_wp2_with fail
        go_ret2
        exact ⟨ret_ii (by rw [E2.out]) (by rw [E2.out]), (by repeat (first | with_reducible exact Kept.refl _ | with_reducible apply Kept.drew | with_reducible apply Kept.drewN | with_reducible apply Kept.alloc | (with_reducible refine Kept.setCellX ?_ ?_ _; focus (first | (simp; done) | (simp; omega))) | (with_reducible refine Kept.trans ?_ (by assumption))))⟩

set_option maxHeartbeats 1600000 in
set_option maxRecDepth 100000 in
theorem rparse_pos_frac_none (l : List UInt8) (P : Nat) (V : Nat → Nat) (R : Int × Int) (w : World) (hs : l.length ≤ 2001) (hl0 : 0 < l.length) (hP : 0 ≤ P)
    (hb : ∀ h, ((((ByteArray.mk l.toArray)[0]'h).toNat : Int) == 45) = false)
    (HD : Hid (∀ w, Calls Try.prog 64 #[.string ⟨l.toArray⟩, .int .i64 0] w fun e w' => e = .returned (.int .i64 (P : Int)) ∧ w = w'))
    (x1 : ((P : Int) == 0) = false) (hPl : P < l.length) (c0 : ∀ h, ((((ByteArray.mk l.toArray)[P]'h).toNat : Int) == 46) = true) (en : ((l.length : Int) == (P : Int) + 1) = false)
    (HD2 : Hid (∀ w, Calls Try.prog 64 #[.string ⟨l.toArray⟩, .int .i64 ((P : Int) + 1)] w fun e w' => e = .returned (.int .i64 (l.length : Int)) ∧ w = w')) (h5 : l.length ≤ P + 5)
    (VD : Hid (∀ k (h : k < l.length), 0 ≤ k → k ≠ P → k < P + 5 → 48 ≤ l[k].toNat ∧ l[k].toNat ≤ 57 ∧ V (k + 1) = 10 * V k + (l[k].toNat - 48)))
    (VZ : Hid (∀ k, l.length ≤ k → k ≠ P → k < P + 5 → V (k + 1) = 10 * V k)) (VP : Hid (V (P + 1) = V P)) (V0 : Hid (V 0 = 0)) (VM : Hid (∀ k, k ≤ P + 5 → V k ≤ V (P + 5)))
    (E : Hid (R = if (V (P + 5) : Int) ≤ 9223372036854775807 then (sg false ((V (P + 5) : Int)), 0) else (0, 3))) :
    Calls Try.prog 43 #[.string ⟨l.toArray⟩] w fun e w' => e = .returned (.tuple #[.int .i64 R.1, .int .i64 R.2]) ∧ Kept w w' := by
  have X := ba_extract
  have Z := ba_size
  have pm : (P : Int) ≤ 2001 := by omega
  have pl : (P : Int) < (l.length : Int) := by omega
  go_enter Try.func43, Try.ntmps43
  go_wp2_with fail
  refine (HD.out _).mono ?_
  rintro e w' ⟨rfl, rfl⟩
  go_wp2_with fail
  refine (HD2.out _).mono ?_
  rintro e w' ⟨rfl, rfl⟩
  go_wp2_with fail
  go_loopw [8] (fun i wr => ∃ k : Nat, 0 ≤ k ∧ k ≤ P + 5 ∧ i = .int .i64 k ∧ Kept w wr ∧ V k ≤ 92233720368547758079 ∧ Box wr w.heap.size 56 #[.int .u64 (hi64 (V k)), .int .u64 (lo64 (V k))]) (fun i _ => P + 5 - (intOf i).toNat)
  case atStart => exact ⟨0, by omega, by omega, rfl, (by repeat (first | with_reducible exact Kept.refl _ | with_reducible apply Kept.drew | with_reducible apply Kept.drewN | with_reducible apply Kept.alloc | (with_reducible refine Kept.setCellX ?_ ?_ _; focus (first | (simp; done) | (simp; omega))) | (with_reducible refine Kept.trans ?_ (by assumption)))), by rw [V0.out]; omega, by rw [V0.out, show hi64 ((0 : Nat) : Int) = 0 from rfl, show lo64 ((0 : Nat) : Int) = 0 from rfl]; exact (by repeat (first | with_reducible assumption | (with_reducible refine Box.newAt ?_ _ _; (simp; done)) | with_reducible apply Box.drew | with_reducible apply Box.drewN | (with_reducible refine Box.alloc ?_ _) | (with_reducible apply Box.s20) | (with_reducible apply Box.s21) | (with_reducible apply Box.s1) | (with_reducible apply Box.s40) | (with_reducible apply Box.s41) | (with_reducible apply Box.s42) | (with_reducible apply Box.s43) | (with_reducible refine Box.farX ?_ ?_ _; focus (first | (simp; done) | (simp; omega)))))⟩
  case round =>
    obtain ⟨k, k1, k2, rfl, hk, vb, bx⟩ := hrel
    by_cases c : k < P + 5
    · by_cases g : 9223372036854775807 < V k
      · have E2 : Hid (R = (0, 3)) := by have := VM.out k (by omega); rw [E.out, if_neg (by omega)]; rfl
        have bx_0 := Box.c0 bx; have bx_1 := Box.c1 bx; have bx_f := Box.loose bx 0; have bx_g := Box.loose bx 1
        by_cases g2 : hi64 (V k) = 0
        · have l2 : lo64 (V k) = V k := by unfold hi64 at g2; unfold lo64; omega
          rw [l2] at bx_1
          rw [g2] at bx_0
          clear l2 g2 bx
          by_cases kp : k = P
          · subst kp
            have kq : ((k : Int) != (k : Int)) = false := by simp
            go_wp2_with fail
            go_ret2
            exact ⟨ret_ii (by rw [E2.out]) (by rw [E2.out]), (by repeat (first | with_reducible exact Kept.refl _ | with_reducible apply Kept.drew | with_reducible apply Kept.drewN | with_reducible apply Kept.alloc | (with_reducible refine Kept.setCellX ?_ ?_ _; focus (first | (simp; done) | (simp; omega))) | (with_reducible refine Kept.trans ?_ (by assumption))))⟩
          · have kq : ((k : Int) != (P : Int)) = true := by simp; omega
            by_cases kl : k < l.length
            · have D := VD.out k kl (by omega) kp c
              obtain ⟨d1, d2, d3⟩ := D
              have D3 := Lib.hid d3
              have ge : (ByteArray.mk l.toArray)[k] = l[k] := rfl
              obtain ⟨d, hd⟩ : ∃ d : Nat, d = l[k].toNat := ⟨_, rfl⟩
              rw [← hd] at d1 d2 D3
              have hd2 : ∀ h, (((ByteArray.mk l.toArray)[k]'h).toNat : Int) = d := fun h => by rw [hd]; rfl
              clear d3 hd ge
              go_wp2_with fail
              go_ret2
              exact ⟨ret_ii (by rw [E2.out]) (by rw [E2.out]), (by repeat (first | with_reducible exact Kept.refl _ | with_reducible apply Kept.drew | with_reducible apply Kept.drewN | with_reducible apply Kept.alloc | (with_reducible refine Kept.setCellX ?_ ?_ _; focus (first | (simp; done) | (simp; omega))) | (with_reducible refine Kept.trans ?_ (by assumption))))⟩
            · have D3 := Lib.hid (VZ.out k (by omega) kp c)
              go_wp2_with fail
              go_ret2
              exact ⟨ret_ii (by rw [E2.out]) (by rw [E2.out]), (by repeat (first | with_reducible exact Kept.refl _ | with_reducible apply Kept.drew | with_reducible apply Kept.drewN | with_reducible apply Kept.alloc | (with_reducible refine Kept.setCellX ?_ ?_ _; focus (first | (simp; done) | (simp; omega))) | (with_reducible refine Kept.trans ?_ (by assumption))))⟩
        · have g3 : (hi64 (V k) != 0) = true := by rw [bne_iff_ne]; exact g2
          clear bx
          by_cases kp : k = P
          · subst kp
            have kq : ((k : Int) != (k : Int)) = false := by simp
            go_wp2_with fail
            go_ret2
            exact ⟨ret_ii (by rw [E2.out]) (by rw [E2.out]), (by repeat (first | with_reducible exact Kept.refl _ | with_reducible apply Kept.drew | with_reducible apply Kept.drewN | with_reducible apply Kept.alloc | (with_reducible refine Kept.setCellX ?_ ?_ _; focus (first | (simp; done) | (simp; omega))) | (with_reducible refine Kept.trans ?_ (by assumption))))⟩
          · have kq : ((k : Int) != (P : Int)) = true := by simp; omega
            by_cases kl : k < l.length
            · have D := VD.out k kl (by omega) kp c
              obtain ⟨d1, d2, d3⟩ := D
              have D3 := Lib.hid d3
              have ge : (ByteArray.mk l.toArray)[k] = l[k] := rfl
              obtain ⟨d, hd⟩ : ∃ d : Nat, d = l[k].toNat := ⟨_, rfl⟩
              rw [← hd] at d1 d2 D3
              have hd2 : ∀ h, (((ByteArray.mk l.toArray)[k]'h).toNat : Int) = d := fun h => by rw [hd]; rfl
              clear d3 hd ge
              go_wp2_with fail
              go_ret2
              exact ⟨ret_ii (by rw [E2.out]) (by rw [E2.out]), (by repeat (first | with_reducible exact Kept.refl _ | with_reducible apply Kept.drew | with_reducible apply Kept.drewN | with_reducible apply Kept.alloc | (with_reducible refine Kept.setCellX ?_ ?_ _; focus (first | (simp; done) | (simp; omega))) | (with_reducible refine Kept.trans ?_ (by assumption))))⟩
            · have D3 := Lib.hid (VZ.out k (by omega) kp c)
              go_wp2_with fail
              go_ret2
              exact ⟨ret_ii (by rw [E2.out]) (by rw [E2.out]), (by repeat (first | with_reducible exact Kept.refl _ | with_reducible apply Kept.drew | with_reducible apply Kept.drewN | with_reducible apply Kept.alloc | (with_reducible refine Kept.setCellX ?_ ?_ _; focus (first | (simp; done) | (simp; omega))) | (with_reducible refine Kept.trans ?_ (by assumption))))⟩
      · have h1 : hi64 (V k) = 0 := by unfold hi64; omega
        have h2 : lo64 (V k) = V k := by unfold lo64; omega
        have HH := Lib.hid (And.intro h1 h2)
        rw [h1, h2] at bx
        clear h1 h2
        by_cases kp : k = P
        · subst kp
          have kq : ((k : Int) != (k : Int)) = false := by simp
          have bx_0 := Box.c0 bx; have bx_1 := Box.c1 bx; have bx_f := Box.loose bx 0; have bx_g := Box.loose bx 1
          go_wp2_with fail
          go_roundw
          case rel => exact ⟨k + 1, by omega, by omega, by go_num, (by repeat (first | with_reducible exact Kept.refl _ | with_reducible apply Kept.drew | with_reducible apply Kept.drewN | with_reducible apply Kept.alloc | (with_reducible refine Kept.setCellX ?_ ?_ _; focus (first | (simp; done) | (simp; omega))) | (with_reducible refine Kept.trans ?_ (by assumption)))), by rw [VP.out]; omega, by rw [VP.out, HH.out.1, HH.out.2]; exact bx⟩
          case measure => (simp [intOf]; try omega)
        · have kq : ((k : Int) != (P : Int)) = true := by simp; omega
          by_cases kl : k < l.length
          · have D := VD.out k kl (by omega) kp c
            obtain ⟨d1, d2, d3⟩ := D
            have D3 := Lib.hid d3
            have ge : (ByteArray.mk l.toArray)[k] = l[k] := rfl
            obtain ⟨d, hd⟩ : ∃ d : Nat, d = l[k].toNat := ⟨_, rfl⟩
            rw [← hd] at d1 d2 D3
            have hd2 : ∀ h, (((ByteArray.mk l.toArray)[k]'h).toNat : Int) = d := fun h => by rw [hd]; rfl
            clear d3 hd ge
            have SP := step_plus (v := V k) (d := (d - 48)) (u := V (k + 1)) (by omega) (by omega) (by have := D3.out; omega)
            have T := fun w => times_any (V k) 10 w ⟨by omega, by omega⟩ ⟨by omega, by omega⟩
            have PL := fun w => plus_any (hi64 ((V k : Int) * 10)) (lo64 ((V k : Int) * 10)) 0 (((d - 48) : Nat) : Int) w (hi64_u _) (lo64_u _) ⟨by omega, by omega⟩ ⟨by omega, by omega⟩
            rw [SP.1, SP.2] at PL
            rw [show (((d - 48 : Nat)) : Int) = (d : Int) - 48 by omega] at PL
            have HT := Lib.hid T
            have HPL := Lib.hid PL
            have NB : Hid (V (k + 1) ≤ 92233720368547758079) := by show _ ≤ _; rw [D3.out]; omega
            clear SP T PL
            have bx_0 := Box.c0 bx; have bx_1 := Box.c1 bx; have bx_f := Box.loose bx 0; have bx_g := Box.loose bx 1
            go_wp2_with fail
            refine (HT.out _).mono ?_
            rintro e w1 ⟨rfl, hk1⟩
            go_wp2_with fail
            refine (HPL.out _).mono ?_
            rintro e w2 ⟨rfl, hk2⟩
            have bx2 : Box w2 w.heap.size 56 #[.int .u64 0, .int .u64 (V k)] := Box.kept hk2 (Box.kept hk1 (by repeat (first | with_reducible assumption | (with_reducible refine Box.newAt ?_ _ _; (simp; done)) | with_reducible apply Box.drew | with_reducible apply Box.drewN | (with_reducible refine Box.alloc ?_ _) | (with_reducible apply Box.s20) | (with_reducible apply Box.s21) | (with_reducible apply Box.s1) | (with_reducible apply Box.s40) | (with_reducible apply Box.s41) | (with_reducible apply Box.s42) | (with_reducible apply Box.s43) | (with_reducible refine Box.farX ?_ ?_ _; focus (first | (simp; done) | (simp; omega))))))
            clear bx_0 bx_1 bx_f bx_g
            have bx2_0 := Box.c0 bx2; have bx2_1 := Box.c1 bx2; have bx2_f := Box.loose bx2 0; have bx2_g := Box.loose bx2 1
            go_wp2_with fail
            go_roundw
            case rel => exact ⟨k + 1, by omega, by omega, by go_num, (by repeat (first | with_reducible exact Kept.refl _ | with_reducible apply Kept.drew | with_reducible apply Kept.drewN | with_reducible apply Kept.alloc | (with_reducible refine Kept.setCellX ?_ ?_ _; focus (first | (simp; done) | (simp; omega))) | (with_reducible refine Kept.trans ?_ (by assumption)))), NB.out, (by repeat (first | with_reducible assumption | (with_reducible refine Box.newAt ?_ _ _; (simp; done)) | with_reducible apply Box.drew | with_reducible apply Box.drewN | (with_reducible refine Box.alloc ?_ _) | (with_reducible apply Box.s20) | (with_reducible apply Box.s21) | (with_reducible apply Box.s1) | (with_reducible apply Box.s40) | (with_reducible apply Box.s41) | (with_reducible apply Box.s42) | (with_reducible apply Box.s43) | (with_reducible refine Box.farX ?_ ?_ _; focus (first | (simp; done) | (simp; omega)))))⟩
            case measure => (simp [intOf]; try omega)
          · have D3 := Lib.hid (VZ.out k (by omega) kp c)
            have SP := step_plus (v := V k) (d := 0) (u := V (k + 1)) (by omega) (by omega) (by have := D3.out; omega)
            have T := fun w => times_any (V k) 10 w ⟨by omega, by omega⟩ ⟨by omega, by omega⟩
            have PL := fun w => plus_any (hi64 ((V k : Int) * 10)) (lo64 ((V k : Int) * 10)) 0 ((0 : Nat) : Int) w (hi64_u _) (lo64_u _) ⟨by omega, by omega⟩ ⟨by omega, by omega⟩
            rw [SP.1, SP.2] at PL
            rw [show (((0 : Nat)) : Int) = 0 from rfl] at PL
            have HT := Lib.hid T
            have HPL := Lib.hid PL
            have NB : Hid (V (k + 1) ≤ 92233720368547758079) := by show _ ≤ _; rw [D3.out]; omega
            clear SP T PL
            have bx_0 := Box.c0 bx; have bx_1 := Box.c1 bx; have bx_f := Box.loose bx 0; have bx_g := Box.loose bx 1
            go_wp2_with fail
            refine (HT.out _).mono ?_
            rintro e w1 ⟨rfl, hk1⟩
            go_wp2_with fail
            refine (HPL.out _).mono ?_
            rintro e w2 ⟨rfl, hk2⟩
            have bx2 : Box w2 w.heap.size 56 #[.int .u64 0, .int .u64 (V k)] := Box.kept hk2 (Box.kept hk1 (by repeat (first | with_reducible assumption | (with_reducible refine Box.newAt ?_ _ _; (simp; done)) | with_reducible apply Box.drew | with_reducible apply Box.drewN | (with_reducible refine Box.alloc ?_ _) | (with_reducible apply Box.s20) | (with_reducible apply Box.s21) | (with_reducible apply Box.s1) | (with_reducible apply Box.s40) | (with_reducible apply Box.s41) | (with_reducible apply Box.s42) | (with_reducible apply Box.s43) | (with_reducible refine Box.farX ?_ ?_ _; focus (first | (simp; done) | (simp; omega))))))
            clear bx_0 bx_1 bx_f bx_g
            have bx2_0 := Box.c0 bx2; have bx2_1 := Box.c1 bx2; have bx2_f := Box.loose bx2 0; have bx2_g := Box.loose bx2 1
            go_wp2_with fail
            go_roundw
            case rel => exact ⟨k + 1, by omega, by omega, by go_num, (by repeat (first | with_reducible exact Kept.refl _ | with_reducible apply Kept.drew | with_reducible apply Kept.drewN | with_reducible apply Kept.alloc | (with_reducible refine Kept.setCellX ?_ ?_ _; focus (first | (simp; done) | (simp; omega))) | (with_reducible refine Kept.trans ?_ (by assumption)))), NB.out, (by repeat (first | with_reducible assumption | (with_reducible refine Box.newAt ?_ _ _; (simp; done)) | with_reducible apply Box.drew | with_reducible apply Box.drewN | (with_reducible refine Box.alloc ?_ _) | (with_reducible apply Box.s20) | (with_reducible apply Box.s21) | (with_reducible apply Box.s1) | (with_reducible apply Box.s40) | (with_reducible apply Box.s41) | (with_reducible apply Box.s42) | (with_reducible apply Box.s43) | (with_reducible refine Box.farX ?_ ?_ _; focus (first | (simp; done) | (simp; omega)))))⟩
            case measure => (simp [intOf]; try omega)
    · obtain rfl : k = P + 5 := by omega
      clear VD VZ VP V0 VM
      generalize V (P + 5) = v at *
      by_cases g : (v : Int) ≤ 9223372036854775807
      · have E2 : Hid (R = (sg false ((v : Int)), 0)) := by rw [E.out, if_pos g]; rfl
        have Sg := fun w => rsigned_any (hi64 ((v : Int))) (lo64 ((v : Int))) false w (hi64_u _) (lo64_u _)
        rw [wd_in (by omega) (by omega), fit_in (by unfold sg; split <;> omega) (by unfold sg; split <;> omega)] at Sg
        have HS := Lib.hid Sg
        clear Sg g
        have bx_0 := Box.c0 bx; have bx_1 := Box.c1 bx; have bx_f := Box.loose bx 0; have bx_g := Box.loose bx 1
        go_wp2_with fail
        refine (HS.out _).mono ?_
        rintro e w3 ⟨rfl, hk3⟩
        go_wp2_with fail
        go_ret2
        exact ⟨ret_ii (by rw [E2.out]) (by rw [E2.out]), (by repeat (first | with_reducible exact Kept.refl _ | with_reducible apply Kept.drew | with_reducible apply Kept.drewN | with_reducible apply Kept.alloc | (with_reducible refine Kept.setCellX ?_ ?_ _; focus (first | (simp; done) | (simp; omega))) | (with_reducible refine Kept.trans ?_ (by assumption))))⟩
      · have E2 : Hid (R = (0, 3)) := by rw [E.out, if_neg g]; rfl
        have Sg := fun w => rsigned_any (hi64 ((v : Int))) (lo64 ((v : Int))) false w (hi64_u _) (lo64_u _)
        rw [wd_in (by omega) (by omega), fit_out (by unfold sg; simp; omega)] at Sg
        have HS := Lib.hid Sg
        clear Sg g
        have bx_0 := Box.c0 bx; have bx_1 := Box.c1 bx; have bx_f := Box.loose bx 0; have bx_g := Box.loose bx 1
        go_wp2_with fail
        refine (HS.out _).mono ?_
        rintro e w3 ⟨rfl, hk3⟩
        go_wp2_with fail
        go_ret2
        exact ⟨ret_ii (by rw [E2.out]) (by rw [E2.out]), (by repeat (first | with_reducible exact Kept.refl _ | with_reducible apply Kept.drew | with_reducible apply Kept.drewN | with_reducible apply Kept.alloc | (with_reducible refine Kept.setCellX ?_ ?_ _; focus (first | (simp; done) | (simp; omega))) | (with_reducible refine Kept.trans ?_ (by assumption))))⟩

set_option maxHeartbeats 1600000 in
set_option maxRecDepth 100000 in
theorem rparse_pos_frac_less (l : List UInt8) (P : Nat) (V : Nat → Nat) (R : Int × Int) (w : World) (hs : l.length ≤ 2001) (hl0 : 0 < l.length) (hP : 0 ≤ P)
    (hb : ∀ h, ((((ByteArray.mk l.toArray)[0]'h).toNat : Int) == 45) = false)
    (HD : Hid (∀ w, Calls Try.prog 64 #[.string ⟨l.toArray⟩, .int .i64 0] w fun e w' => e = .returned (.int .i64 (P : Int)) ∧ w = w'))
    (x1 : ((P : Int) == 0) = false) (hPl : P < l.length) (c0 : ∀ h, ((((ByteArray.mk l.toArray)[P]'h).toNat : Int) == 46) = true) (en : ((l.length : Int) == (P : Int) + 1) = false)
    (HD2 : Hid (∀ w, Calls Try.prog 64 #[.string ⟨l.toArray⟩, .int .i64 ((P : Int) + 1)] w fun e w' => e = .returned (.int .i64 (l.length : Int)) ∧ w = w')) (h5 : P + 5 < l.length) (f : Nat) (q5 : ∀ h, (((ByteArray.mk l.toArray)[P + 5]'h).toNat : Int) = f) (f5 : f < 53)
    (VD : Hid (∀ k (h : k < l.length), 0 ≤ k → k ≠ P → k < P + 5 → 48 ≤ l[k].toNat ∧ l[k].toNat ≤ 57 ∧ V (k + 1) = 10 * V k + (l[k].toNat - 48)))
    (VZ : Hid (∀ k, l.length ≤ k → k ≠ P → k < P + 5 → V (k + 1) = 10 * V k)) (VP : Hid (V (P + 1) = V P)) (V0 : Hid (V 0 = 0)) (VM : Hid (∀ k, k ≤ P + 5 → V k ≤ V (P + 5)))
    (E : Hid (R = if (V (P + 5) : Int) ≤ 9223372036854775807 then (sg false ((V (P + 5) : Int)), 0) else (0, 3))) :
    Calls Try.prog 43 #[.string ⟨l.toArray⟩] w fun e w' => e = .returned (.tuple #[.int .i64 R.1, .int .i64 R.2]) ∧ Kept w w' := by
  have X := ba_extract
  have Z := ba_size
  have pm : (P : Int) ≤ 2001 := by omega
  have pl : (P : Int) < (l.length : Int) := by omega
  go_enter Try.func43, Try.ntmps43
  go_wp2_with fail
  refine (HD.out _).mono ?_
  rintro e w' ⟨rfl, rfl⟩
  go_wp2_with fail
  refine (HD2.out _).mono ?_
  rintro e w' ⟨rfl, rfl⟩
  go_wp2_with fail
  go_loopw [8] (fun i wr => ∃ k : Nat, 0 ≤ k ∧ k ≤ P + 5 ∧ i = .int .i64 k ∧ Kept w wr ∧ V k ≤ 92233720368547758079 ∧ Box wr w.heap.size 56 #[.int .u64 (hi64 (V k)), .int .u64 (lo64 (V k))]) (fun i _ => P + 5 - (intOf i).toNat)
  case atStart => exact ⟨0, by omega, by omega, rfl, (by repeat (first | with_reducible exact Kept.refl _ | with_reducible apply Kept.drew | with_reducible apply Kept.drewN | with_reducible apply Kept.alloc | (with_reducible refine Kept.setCellX ?_ ?_ _; focus (first | (simp; done) | (simp; omega))) | (with_reducible refine Kept.trans ?_ (by assumption)))), by rw [V0.out]; omega, by rw [V0.out, show hi64 ((0 : Nat) : Int) = 0 from rfl, show lo64 ((0 : Nat) : Int) = 0 from rfl]; exact (by repeat (first | with_reducible assumption | (with_reducible refine Box.newAt ?_ _ _; (simp; done)) | with_reducible apply Box.drew | with_reducible apply Box.drewN | (with_reducible refine Box.alloc ?_ _) | (with_reducible apply Box.s20) | (with_reducible apply Box.s21) | (with_reducible apply Box.s1) | (with_reducible apply Box.s40) | (with_reducible apply Box.s41) | (with_reducible apply Box.s42) | (with_reducible apply Box.s43) | (with_reducible refine Box.farX ?_ ?_ _; focus (first | (simp; done) | (simp; omega)))))⟩
  case round =>
    obtain ⟨k, k1, k2, rfl, hk, vb, bx⟩ := hrel
    by_cases c : k < P + 5
    · by_cases g : 9223372036854775807 < V k
      · have E2 : Hid (R = (0, 3)) := by have := VM.out k (by omega); rw [E.out, if_neg (by omega)]; rfl
        have bx_0 := Box.c0 bx; have bx_1 := Box.c1 bx; have bx_f := Box.loose bx 0; have bx_g := Box.loose bx 1
        by_cases g2 : hi64 (V k) = 0
        · have l2 : lo64 (V k) = V k := by unfold hi64 at g2; unfold lo64; omega
          rw [l2] at bx_1
          rw [g2] at bx_0
          clear l2 g2 bx
          by_cases kp : k = P
          · subst kp
            have kq : ((k : Int) != (k : Int)) = false := by simp
            go_wp2_with fail
            go_ret2
            exact ⟨ret_ii (by rw [E2.out]) (by rw [E2.out]), (by repeat (first | with_reducible exact Kept.refl _ | with_reducible apply Kept.drew | with_reducible apply Kept.drewN | with_reducible apply Kept.alloc | (with_reducible refine Kept.setCellX ?_ ?_ _; focus (first | (simp; done) | (simp; omega))) | (with_reducible refine Kept.trans ?_ (by assumption))))⟩
          · have kq : ((k : Int) != (P : Int)) = true := by simp; omega
            by_cases kl : k < l.length
            · have D := VD.out k kl (by omega) kp c
              obtain ⟨d1, d2, d3⟩ := D
              have D3 := Lib.hid d3
              have ge : (ByteArray.mk l.toArray)[k] = l[k] := rfl
              obtain ⟨d, hd⟩ : ∃ d : Nat, d = l[k].toNat := ⟨_, rfl⟩
              rw [← hd] at d1 d2 D3
              have hd2 : ∀ h, (((ByteArray.mk l.toArray)[k]'h).toNat : Int) = d := fun h => by rw [hd]; rfl
              clear d3 hd ge
              go_wp2_with fail
              go_ret2
              exact ⟨ret_ii (by rw [E2.out]) (by rw [E2.out]), (by repeat (first | with_reducible exact Kept.refl _ | with_reducible apply Kept.drew | with_reducible apply Kept.drewN | with_reducible apply Kept.alloc | (with_reducible refine Kept.setCellX ?_ ?_ _; focus (first | (simp; done) | (simp; omega))) | (with_reducible refine Kept.trans ?_ (by assumption))))⟩
            · omega
        · have g3 : (hi64 (V k) != 0) = true := by rw [bne_iff_ne]; exact g2
          clear bx
          by_cases kp : k = P
          · subst kp
            have kq : ((k : Int) != (k : Int)) = false := by simp
            go_wp2_with fail
            go_ret2
            exact ⟨ret_ii (by rw [E2.out]) (by rw [E2.out]), (by repeat (first | with_reducible exact Kept.refl _ | with_reducible apply Kept.drew | with_reducible apply Kept.drewN | with_reducible apply Kept.alloc | (with_reducible refine Kept.setCellX ?_ ?_ _; focus (first | (simp; done) | (simp; omega))) | (with_reducible refine Kept.trans ?_ (by assumption))))⟩
          · have kq : ((k : Int) != (P : Int)) = true := by simp; omega
            by_cases kl : k < l.length
            · have D := VD.out k kl (by omega) kp c
              obtain ⟨d1, d2, d3⟩ := D
              have D3 := Lib.hid d3
              have ge : (ByteArray.mk l.toArray)[k] = l[k] := rfl
              obtain ⟨d, hd⟩ : ∃ d : Nat, d = l[k].toNat := ⟨_, rfl⟩
              rw [← hd] at d1 d2 D3
              have hd2 : ∀ h, (((ByteArray.mk l.toArray)[k]'h).toNat : Int) = d := fun h => by rw [hd]; rfl
              clear d3 hd ge
              go_wp2_with fail
              go_ret2
              exact ⟨ret_ii (by rw [E2.out]) (by rw [E2.out]), (by repeat (first | with_reducible exact Kept.refl _ | with_reducible apply Kept.drew | with_reducible apply Kept.drewN | with_reducible apply Kept.alloc | (with_reducible refine Kept.setCellX ?_ ?_ _; focus (first | (simp; done) | (simp; omega))) | (with_reducible refine Kept.trans ?_ (by assumption))))⟩
            · omega
      · have h1 : hi64 (V k) = 0 := by unfold hi64; omega
        have h2 : lo64 (V k) = V k := by unfold lo64; omega
        have HH := Lib.hid (And.intro h1 h2)
        rw [h1, h2] at bx
        clear h1 h2
        by_cases kp : k = P
        · subst kp
          have kq : ((k : Int) != (k : Int)) = false := by simp
          have bx_0 := Box.c0 bx; have bx_1 := Box.c1 bx; have bx_f := Box.loose bx 0; have bx_g := Box.loose bx 1
          go_wp2_with fail
          go_roundw
          case rel => exact ⟨k + 1, by omega, by omega, by go_num, (by repeat (first | with_reducible exact Kept.refl _ | with_reducible apply Kept.drew | with_reducible apply Kept.drewN | with_reducible apply Kept.alloc | (with_reducible refine Kept.setCellX ?_ ?_ _; focus (first | (simp; done) | (simp; omega))) | (with_reducible refine Kept.trans ?_ (by assumption)))), by rw [VP.out]; omega, by rw [VP.out, HH.out.1, HH.out.2]; exact bx⟩
          case measure => (simp [intOf]; try omega)
        · have kq : ((k : Int) != (P : Int)) = true := by simp; omega
          by_cases kl : k < l.length
          · have D := VD.out k kl (by omega) kp c
            obtain ⟨d1, d2, d3⟩ := D
            have D3 := Lib.hid d3
            have ge : (ByteArray.mk l.toArray)[k] = l[k] := rfl
            obtain ⟨d, hd⟩ : ∃ d : Nat, d = l[k].toNat := ⟨_, rfl⟩
            rw [← hd] at d1 d2 D3
            have hd2 : ∀ h, (((ByteArray.mk l.toArray)[k]'h).toNat : Int) = d := fun h => by rw [hd]; rfl
            clear d3 hd ge
            have SP := step_plus (v := V k) (d := (d - 48)) (u := V (k + 1)) (by omega) (by omega) (by have := D3.out; omega)
            have T := fun w => times_any (V k) 10 w ⟨by omega, by omega⟩ ⟨by omega, by omega⟩
            have PL := fun w => plus_any (hi64 ((V k : Int) * 10)) (lo64 ((V k : Int) * 10)) 0 (((d - 48) : Nat) : Int) w (hi64_u _) (lo64_u _) ⟨by omega, by omega⟩ ⟨by omega, by omega⟩
            rw [SP.1, SP.2] at PL
            rw [show (((d - 48 : Nat)) : Int) = (d : Int) - 48 by omega] at PL
            have HT := Lib.hid T
            have HPL := Lib.hid PL
            have NB : Hid (V (k + 1) ≤ 92233720368547758079) := by show _ ≤ _; rw [D3.out]; omega
            clear SP T PL
            have bx_0 := Box.c0 bx; have bx_1 := Box.c1 bx; have bx_f := Box.loose bx 0; have bx_g := Box.loose bx 1
            go_wp2_with fail
            refine (HT.out _).mono ?_
            rintro e w1 ⟨rfl, hk1⟩
            go_wp2_with fail
            refine (HPL.out _).mono ?_
            rintro e w2 ⟨rfl, hk2⟩
            have bx2 : Box w2 w.heap.size 56 #[.int .u64 0, .int .u64 (V k)] := Box.kept hk2 (Box.kept hk1 (by repeat (first | with_reducible assumption | (with_reducible refine Box.newAt ?_ _ _; (simp; done)) | with_reducible apply Box.drew | with_reducible apply Box.drewN | (with_reducible refine Box.alloc ?_ _) | (with_reducible apply Box.s20) | (with_reducible apply Box.s21) | (with_reducible apply Box.s1) | (with_reducible apply Box.s40) | (with_reducible apply Box.s41) | (with_reducible apply Box.s42) | (with_reducible apply Box.s43) | (with_reducible refine Box.farX ?_ ?_ _; focus (first | (simp; done) | (simp; omega))))))
            clear bx_0 bx_1 bx_f bx_g
            have bx2_0 := Box.c0 bx2; have bx2_1 := Box.c1 bx2; have bx2_f := Box.loose bx2 0; have bx2_g := Box.loose bx2 1
            go_wp2_with fail
            go_roundw
            case rel => exact ⟨k + 1, by omega, by omega, by go_num, (by repeat (first | with_reducible exact Kept.refl _ | with_reducible apply Kept.drew | with_reducible apply Kept.drewN | with_reducible apply Kept.alloc | (with_reducible refine Kept.setCellX ?_ ?_ _; focus (first | (simp; done) | (simp; omega))) | (with_reducible refine Kept.trans ?_ (by assumption)))), NB.out, (by repeat (first | with_reducible assumption | (with_reducible refine Box.newAt ?_ _ _; (simp; done)) | with_reducible apply Box.drew | with_reducible apply Box.drewN | (with_reducible refine Box.alloc ?_ _) | (with_reducible apply Box.s20) | (with_reducible apply Box.s21) | (with_reducible apply Box.s1) | (with_reducible apply Box.s40) | (with_reducible apply Box.s41) | (with_reducible apply Box.s42) | (with_reducible apply Box.s43) | (with_reducible refine Box.farX ?_ ?_ _; focus (first | (simp; done) | (simp; omega)))))⟩
            case measure => (simp [intOf]; try omega)
          · omega
    · obtain rfl : k = P + 5 := by omega
      clear VD VZ VP V0 VM
      generalize V (P + 5) = v at *
      by_cases g : (v : Int) ≤ 9223372036854775807
      · have E2 : Hid (R = (sg false ((v : Int)), 0)) := by rw [E.out, if_pos g]; rfl
        have Sg := fun w => rsigned_any (hi64 ((v : Int))) (lo64 ((v : Int))) false w (hi64_u _) (lo64_u _)
        rw [wd_in (by omega) (by omega), fit_in (by unfold sg; split <;> omega) (by unfold sg; split <;> omega)] at Sg
        have HS := Lib.hid Sg
        clear Sg g
        have bx_0 := Box.c0 bx; have bx_1 := Box.c1 bx; have bx_f := Box.loose bx 0; have bx_g := Box.loose bx 1
        go_wp2_with fail
        refine (HS.out _).mono ?_
        rintro e w3 ⟨rfl, hk3⟩
        go_wp2_with fail
        go_ret2
        exact ⟨ret_ii (by rw [E2.out]) (by rw [E2.out]), (by repeat (first | with_reducible exact Kept.refl _ | with_reducible apply Kept.drew | with_reducible apply Kept.drewN | with_reducible apply Kept.alloc | (with_reducible refine Kept.setCellX ?_ ?_ _; focus (first | (simp; done) | (simp; omega))) | (with_reducible refine Kept.trans ?_ (by assumption))))⟩
      · have E2 : Hid (R = (0, 3)) := by rw [E.out, if_neg g]; rfl
        have Sg := fun w => rsigned_any (hi64 ((v : Int))) (lo64 ((v : Int))) false w (hi64_u _) (lo64_u _)
        rw [wd_in (by omega) (by omega), fit_out (by unfold sg; simp; omega)] at Sg
        have HS := Lib.hid Sg
        clear Sg g
        have bx_0 := Box.c0 bx; have bx_1 := Box.c1 bx; have bx_f := Box.loose bx 0; have bx_g := Box.loose bx 1
        go_wp2_with fail
        refine (HS.out _).mono ?_
        rintro e w3 ⟨rfl, hk3⟩
        go_wp2_with fail
        go_ret2
        exact ⟨ret_ii (by rw [E2.out]) (by rw [E2.out]), (by repeat (first | with_reducible exact Kept.refl _ | with_reducible apply Kept.drew | with_reducible apply Kept.drewN | with_reducible apply Kept.alloc | (with_reducible refine Kept.setCellX ?_ ?_ _; focus (first | (simp; done) | (simp; omega))) | (with_reducible refine Kept.trans ?_ (by assumption))))⟩

set_option maxHeartbeats 1600000 in
set_option maxRecDepth 100000 in
theorem rparse_pos_frac_geq (l : List UInt8) (P : Nat) (V : Nat → Nat) (R : Int × Int) (w : World) (hs : l.length ≤ 2001) (hl0 : 0 < l.length) (hP : 0 ≤ P)
    (hb : ∀ h, ((((ByteArray.mk l.toArray)[0]'h).toNat : Int) == 45) = false)
    (HD : Hid (∀ w, Calls Try.prog 64 #[.string ⟨l.toArray⟩, .int .i64 0] w fun e w' => e = .returned (.int .i64 (P : Int)) ∧ w = w'))
    (x1 : ((P : Int) == 0) = false) (hPl : P < l.length) (c0 : ∀ h, ((((ByteArray.mk l.toArray)[P]'h).toNat : Int) == 46) = true) (en : ((l.length : Int) == (P : Int) + 1) = false)
    (HD2 : Hid (∀ w, Calls Try.prog 64 #[.string ⟨l.toArray⟩, .int .i64 ((P : Int) + 1)] w fun e w' => e = .returned (.int .i64 (l.length : Int)) ∧ w = w')) (h5 : P + 5 < l.length) (f : Nat) (q5 : ∀ h, (((ByteArray.mk l.toArray)[P + 5]'h).toNat : Int) = f) (f5 : 53 ≤ f)
    (VD : Hid (∀ k (h : k < l.length), 0 ≤ k → k ≠ P → k < P + 5 → 48 ≤ l[k].toNat ∧ l[k].toNat ≤ 57 ∧ V (k + 1) = 10 * V k + (l[k].toNat - 48)))
    (VZ : Hid (∀ k, l.length ≤ k → k ≠ P → k < P + 5 → V (k + 1) = 10 * V k)) (VP : Hid (V (P + 1) = V P)) (V0 : Hid (V 0 = 0)) (VM : Hid (∀ k, k ≤ P + 5 → V k ≤ V (P + 5)))
    (E : Hid (R = if (V (P + 5) : Int) + 1 ≤ 9223372036854775807 then (sg false ((V (P + 5) : Int) + 1), 0) else (0, 3))) :
    Calls Try.prog 43 #[.string ⟨l.toArray⟩] w fun e w' => e = .returned (.tuple #[.int .i64 R.1, .int .i64 R.2]) ∧ Kept w w' := by
  have X := ba_extract
  have Z := ba_size
  have pm : (P : Int) ≤ 2001 := by omega
  have pl : (P : Int) < (l.length : Int) := by omega
  go_enter Try.func43, Try.ntmps43
  go_wp2_with fail
  refine (HD.out _).mono ?_
  rintro e w' ⟨rfl, rfl⟩
  go_wp2_with fail
  refine (HD2.out _).mono ?_
  rintro e w' ⟨rfl, rfl⟩
  go_wp2_with fail
  go_loopw [8] (fun i wr => ∃ k : Nat, 0 ≤ k ∧ k ≤ P + 5 ∧ i = .int .i64 k ∧ Kept w wr ∧ V k ≤ 92233720368547758079 ∧ Box wr w.heap.size 56 #[.int .u64 (hi64 (V k)), .int .u64 (lo64 (V k))]) (fun i _ => P + 5 - (intOf i).toNat)
  case atStart => exact ⟨0, by omega, by omega, rfl, (by repeat (first | with_reducible exact Kept.refl _ | with_reducible apply Kept.drew | with_reducible apply Kept.drewN | with_reducible apply Kept.alloc | (with_reducible refine Kept.setCellX ?_ ?_ _; focus (first | (simp; done) | (simp; omega))) | (with_reducible refine Kept.trans ?_ (by assumption)))), by rw [V0.out]; omega, by rw [V0.out, show hi64 ((0 : Nat) : Int) = 0 from rfl, show lo64 ((0 : Nat) : Int) = 0 from rfl]; exact (by repeat (first | with_reducible assumption | (with_reducible refine Box.newAt ?_ _ _; (simp; done)) | with_reducible apply Box.drew | with_reducible apply Box.drewN | (with_reducible refine Box.alloc ?_ _) | (with_reducible apply Box.s20) | (with_reducible apply Box.s21) | (with_reducible apply Box.s1) | (with_reducible apply Box.s40) | (with_reducible apply Box.s41) | (with_reducible apply Box.s42) | (with_reducible apply Box.s43) | (with_reducible refine Box.farX ?_ ?_ _; focus (first | (simp; done) | (simp; omega)))))⟩
  case round =>
    obtain ⟨k, k1, k2, rfl, hk, vb, bx⟩ := hrel
    by_cases c : k < P + 5
    · by_cases g : 9223372036854775807 < V k
      · have E2 : Hid (R = (0, 3)) := by have := VM.out k (by omega); rw [E.out, if_neg (by omega)]; rfl
        have bx_0 := Box.c0 bx; have bx_1 := Box.c1 bx; have bx_f := Box.loose bx 0; have bx_g := Box.loose bx 1
        by_cases g2 : hi64 (V k) = 0
        · have l2 : lo64 (V k) = V k := by unfold hi64 at g2; unfold lo64; omega
          rw [l2] at bx_1
          rw [g2] at bx_0
          clear l2 g2 bx
          by_cases kp : k = P
          · subst kp
            have kq : ((k : Int) != (k : Int)) = false := by simp
            go_wp2_with fail
            go_ret2
            exact ⟨ret_ii (by rw [E2.out]) (by rw [E2.out]), (by repeat (first | with_reducible exact Kept.refl _ | with_reducible apply Kept.drew | with_reducible apply Kept.drewN | with_reducible apply Kept.alloc | (with_reducible refine Kept.setCellX ?_ ?_ _; focus (first | (simp; done) | (simp; omega))) | (with_reducible refine Kept.trans ?_ (by assumption))))⟩
          · have kq : ((k : Int) != (P : Int)) = true := by simp; omega
            by_cases kl : k < l.length
            · have D := VD.out k kl (by omega) kp c
              obtain ⟨d1, d2, d3⟩ := D
              have D3 := Lib.hid d3
              have ge : (ByteArray.mk l.toArray)[k] = l[k] := rfl
              obtain ⟨d, hd⟩ : ∃ d : Nat, d = l[k].toNat := ⟨_, rfl⟩
              rw [← hd] at d1 d2 D3
              have hd2 : ∀ h, (((ByteArray.mk l.toArray)[k]'h).toNat : Int) = d := fun h => by rw [hd]; rfl
              clear d3 hd ge
              go_wp2_with fail
              go_ret2
              exact ⟨ret_ii (by rw [E2.out]) (by rw [E2.out]), (by repeat (first | with_reducible exact Kept.refl _ | with_reducible apply Kept.drew | with_reducible apply Kept.drewN | with_reducible apply Kept.alloc | (with_reducible refine Kept.setCellX ?_ ?_ _; focus (first | (simp; done) | (simp; omega))) | (with_reducible refine Kept.trans ?_ (by assumption))))⟩
            · omega
        · have g3 : (hi64 (V k) != 0) = true := by rw [bne_iff_ne]; exact g2
          clear bx
          by_cases kp : k = P
          · subst kp
            have kq : ((k : Int) != (k : Int)) = false := by simp
            go_wp2_with fail
            go_ret2
            exact ⟨ret_ii (by rw [E2.out]) (by rw [E2.out]), (by repeat (first | with_reducible exact Kept.refl _ | with_reducible apply Kept.drew | with_reducible apply Kept.drewN | with_reducible apply Kept.alloc | (with_reducible refine Kept.setCellX ?_ ?_ _; focus (first | (simp; done) | (simp; omega))) | (with_reducible refine Kept.trans ?_ (by assumption))))⟩
          · have kq : ((k : Int) != (P : Int)) = true := by simp; omega
            by_cases kl : k < l.length
            · have D := VD.out k kl (by omega) kp c
              obtain ⟨d1, d2, d3⟩ := D
              have D3 := Lib.hid d3
              have ge : (ByteArray.mk l.toArray)[k] = l[k] := rfl
              obtain ⟨d, hd⟩ : ∃ d : Nat, d = l[k].toNat := ⟨_, rfl⟩
              rw [← hd] at d1 d2 D3
              have hd2 : ∀ h, (((ByteArray.mk l.toArray)[k]'h).toNat : Int) = d := fun h => by rw [hd]; rfl
              clear d3 hd ge
              go_wp2_with fail
              go_ret2
              exact ⟨ret_ii (by rw [E2.out]) (by rw [E2.out]), (by repeat (first | with_reducible exact Kept.refl _ | with_reducible apply Kept.drew | with_reducible apply Kept.drewN | with_reducible apply Kept.alloc | (with_reducible refine Kept.setCellX ?_ ?_ _; focus (first | (simp; done) | (simp; omega))) | (with_reducible refine Kept.trans ?_ (by assumption))))⟩
            · omega
      · have h1 : hi64 (V k) = 0 := by unfold hi64; omega
        have h2 : lo64 (V k) = V k := by unfold lo64; omega
        have HH := Lib.hid (And.intro h1 h2)
        rw [h1, h2] at bx
        clear h1 h2
        by_cases kp : k = P
        · subst kp
          have kq : ((k : Int) != (k : Int)) = false := by simp
          have bx_0 := Box.c0 bx; have bx_1 := Box.c1 bx; have bx_f := Box.loose bx 0; have bx_g := Box.loose bx 1
          go_wp2_with fail
          go_roundw
          case rel => exact ⟨k + 1, by omega, by omega, by go_num, (by repeat (first | with_reducible exact Kept.refl _ | with_reducible apply Kept.drew | with_reducible apply Kept.drewN | with_reducible apply Kept.alloc | (with_reducible refine Kept.setCellX ?_ ?_ _; focus (first | (simp; done) | (simp; omega))) | (with_reducible refine Kept.trans ?_ (by assumption)))), by rw [VP.out]; omega, by rw [VP.out, HH.out.1, HH.out.2]; exact bx⟩
          case measure => (simp [intOf]; try omega)
        · have kq : ((k : Int) != (P : Int)) = true := by simp; omega
          by_cases kl : k < l.length
          · have D := VD.out k kl (by omega) kp c
            obtain ⟨d1, d2, d3⟩ := D
            have D3 := Lib.hid d3
            have ge : (ByteArray.mk l.toArray)[k] = l[k] := rfl
            obtain ⟨d, hd⟩ : ∃ d : Nat, d = l[k].toNat := ⟨_, rfl⟩
            rw [← hd] at d1 d2 D3
            have hd2 : ∀ h, (((ByteArray.mk l.toArray)[k]'h).toNat : Int) = d := fun h => by rw [hd]; rfl
            clear d3 hd ge
            have SP := step_plus (v := V k) (d := (d - 48)) (u := V (k + 1)) (by omega) (by omega) (by have := D3.out; omega)
            have T := fun w => times_any (V k) 10 w ⟨by omega, by omega⟩ ⟨by omega, by omega⟩
            have PL := fun w => plus_any (hi64 ((V k : Int) * 10)) (lo64 ((V k : Int) * 10)) 0 (((d - 48) : Nat) : Int) w (hi64_u _) (lo64_u _) ⟨by omega, by omega⟩ ⟨by omega, by omega⟩
            rw [SP.1, SP.2] at PL
            rw [show (((d - 48 : Nat)) : Int) = (d : Int) - 48 by omega] at PL
            have HT := Lib.hid T
            have HPL := Lib.hid PL
            have NB : Hid (V (k + 1) ≤ 92233720368547758079) := by show _ ≤ _; rw [D3.out]; omega
            clear SP T PL
            have bx_0 := Box.c0 bx; have bx_1 := Box.c1 bx; have bx_f := Box.loose bx 0; have bx_g := Box.loose bx 1
            go_wp2_with fail
            refine (HT.out _).mono ?_
            rintro e w1 ⟨rfl, hk1⟩
            go_wp2_with fail
            refine (HPL.out _).mono ?_
            rintro e w2 ⟨rfl, hk2⟩
            have bx2 : Box w2 w.heap.size 56 #[.int .u64 0, .int .u64 (V k)] := Box.kept hk2 (Box.kept hk1 (by repeat (first | with_reducible assumption | (with_reducible refine Box.newAt ?_ _ _; (simp; done)) | with_reducible apply Box.drew | with_reducible apply Box.drewN | (with_reducible refine Box.alloc ?_ _) | (with_reducible apply Box.s20) | (with_reducible apply Box.s21) | (with_reducible apply Box.s1) | (with_reducible apply Box.s40) | (with_reducible apply Box.s41) | (with_reducible apply Box.s42) | (with_reducible apply Box.s43) | (with_reducible refine Box.farX ?_ ?_ _; focus (first | (simp; done) | (simp; omega))))))
            clear bx_0 bx_1 bx_f bx_g
            have bx2_0 := Box.c0 bx2; have bx2_1 := Box.c1 bx2; have bx2_f := Box.loose bx2 0; have bx2_g := Box.loose bx2 1
            go_wp2_with fail
            go_roundw
            case rel => exact ⟨k + 1, by omega, by omega, by go_num, (by repeat (first | with_reducible exact Kept.refl _ | with_reducible apply Kept.drew | with_reducible apply Kept.drewN | with_reducible apply Kept.alloc | (with_reducible refine Kept.setCellX ?_ ?_ _; focus (first | (simp; done) | (simp; omega))) | (with_reducible refine Kept.trans ?_ (by assumption)))), NB.out, (by repeat (first | with_reducible assumption | (with_reducible refine Box.newAt ?_ _ _; (simp; done)) | with_reducible apply Box.drew | with_reducible apply Box.drewN | (with_reducible refine Box.alloc ?_ _) | (with_reducible apply Box.s20) | (with_reducible apply Box.s21) | (with_reducible apply Box.s1) | (with_reducible apply Box.s40) | (with_reducible apply Box.s41) | (with_reducible apply Box.s42) | (with_reducible apply Box.s43) | (with_reducible refine Box.farX ?_ ?_ _; focus (first | (simp; done) | (simp; omega)))))⟩
            case measure => (simp [intOf]; try omega)
          · omega
    · obtain rfl : k = P + 5 := by omega
      clear VD VZ VP V0 VM
      generalize V (P + 5) = v at *
      have PL := fun w => plus_any (hi64 (v : Int)) (lo64 (v : Int)) 0 1 w (hi64_u _) (lo64_u _) ⟨by omega, by omega⟩ ⟨by omega, by omega⟩
      rw [wd_in (by omega) (by omega), show wd 0 1 = 1 by rfl] at PL
      have HPL := Lib.hid PL
      clear PL
      by_cases g : (v : Int) + 1 ≤ 9223372036854775807
      · have E2 : Hid (R = (sg false ((v : Int) + 1), 0)) := by rw [E.out, if_pos g]; rfl
        have Sg := fun w => rsigned_any (hi64 ((v : Int) + 1)) (lo64 ((v : Int) + 1)) false w (hi64_u _) (lo64_u _)
        rw [wd_in (by omega) (by omega), fit_in (by unfold sg; split <;> omega) (by unfold sg; split <;> omega)] at Sg
        have HS := Lib.hid Sg
        clear Sg g
        have bx_0 := Box.c0 bx; have bx_1 := Box.c1 bx; have bx_f := Box.loose bx 0; have bx_g := Box.loose bx 1
        go_wp2_with fail
        refine (HPL.out _).mono ?_
        rintro e w2 ⟨rfl, hk2⟩
        have bx2 : Box w2 w.heap.size 56 #[.int .u64 (hi64 (v : Int)), .int .u64 (lo64 (v : Int))] := Box.kept hk2 (by repeat (first | with_reducible assumption | (with_reducible refine Box.newAt ?_ _ _; (simp; done)) | with_reducible apply Box.drew | with_reducible apply Box.drewN | (with_reducible refine Box.alloc ?_ _) | (with_reducible apply Box.s20) | (with_reducible apply Box.s21) | (with_reducible apply Box.s1) | (with_reducible apply Box.s40) | (with_reducible apply Box.s41) | (with_reducible apply Box.s42) | (with_reducible apply Box.s43) | (with_reducible refine Box.farX ?_ ?_ _; focus (first | (simp; done) | (simp; omega)))))
        clear bx_0 bx_1 bx_f bx_g
        have bx2_0 := Box.c0 bx2; have bx2_1 := Box.c1 bx2; have bx2_f := Box.loose bx2 0; have bx2_g := Box.loose bx2 1
        go_wp2_with fail
        refine (HS.out _).mono ?_
        rintro e w3 ⟨rfl, hk3⟩
        go_wp2_with fail
        go_ret2
        exact ⟨ret_ii (by rw [E2.out]) (by rw [E2.out]), (by repeat (first | with_reducible exact Kept.refl _ | with_reducible apply Kept.drew | with_reducible apply Kept.drewN | with_reducible apply Kept.alloc | (with_reducible refine Kept.setCellX ?_ ?_ _; focus (first | (simp; done) | (simp; omega))) | (with_reducible refine Kept.trans ?_ (by assumption))))⟩
      · have E2 : Hid (R = (0, 3)) := by rw [E.out, if_neg g]; rfl
        have Sg := fun w => rsigned_any (hi64 ((v : Int) + 1)) (lo64 ((v : Int) + 1)) false w (hi64_u _) (lo64_u _)
        rw [wd_in (by omega) (by omega), fit_out (by unfold sg; simp; omega)] at Sg
        have HS := Lib.hid Sg
        clear Sg g
        have bx_0 := Box.c0 bx; have bx_1 := Box.c1 bx; have bx_f := Box.loose bx 0; have bx_g := Box.loose bx 1
        go_wp2_with fail
        refine (HPL.out _).mono ?_
        rintro e w2 ⟨rfl, hk2⟩
        have bx2 : Box w2 w.heap.size 56 #[.int .u64 (hi64 (v : Int)), .int .u64 (lo64 (v : Int))] := Box.kept hk2 (by repeat (first | with_reducible assumption | (with_reducible refine Box.newAt ?_ _ _; (simp; done)) | with_reducible apply Box.drew | with_reducible apply Box.drewN | (with_reducible refine Box.alloc ?_ _) | (with_reducible apply Box.s20) | (with_reducible apply Box.s21) | (with_reducible apply Box.s1) | (with_reducible apply Box.s40) | (with_reducible apply Box.s41) | (with_reducible apply Box.s42) | (with_reducible apply Box.s43) | (with_reducible refine Box.farX ?_ ?_ _; focus (first | (simp; done) | (simp; omega)))))
        clear bx_0 bx_1 bx_f bx_g
        have bx2_0 := Box.c0 bx2; have bx2_1 := Box.c1 bx2; have bx2_f := Box.loose bx2 0; have bx2_g := Box.loose bx2 1
        go_wp2_with fail
        refine (HS.out _).mono ?_
        rintro e w3 ⟨rfl, hk3⟩
        go_wp2_with fail
        go_ret2
        exact ⟨ret_ii (by rw [E2.out]) (by rw [E2.out]), (by repeat (first | with_reducible exact Kept.refl _ | with_reducible apply Kept.drew | with_reducible apply Kept.drewN | with_reducible apply Kept.alloc | (with_reducible refine Kept.setCellX ?_ ?_ _; focus (first | (simp; done) | (simp; omega))) | (with_reducible refine Kept.trans ?_ (by assumption))))⟩

end Go.Proofs.Ytingopdeckgpaaa
