/- BunR: the texts WRef8, WRef9 together. -/
import Derived.Test.YtbkjdcpfkepheaaGreatDoorCBunW
import Derived.Test.YtbkjdcpfkepheaaGreatDoorCBunM
set_option linter.unusedVariables false
set_option linter.unusedSimpArgs false
set_option maxHeartbeats 1600000
set_option maxRecDepth 100000
namespace Go.Proofs.YtbkjdcpfkepheaaGreatDoor
section
open Go.RowKit Lv
theorem cL {v d u : Nat} (hv : v ≤ 9223372036854775807) (hd : d ≤ 9) (hu : u = 10 * v + d) :
    aF (wd (aF ((v : Int) * 10)) (aK ((v : Int) * 10)) + wd 0 (d : Int)) = aF (u : Int) ∧ aK (wd (aF ((v : Int) * 10)) (aK ((v : Int) * 10)) + wd 0 (d : Int)) = aK (u : Int) := by
  rw [cV (by omega) (by omega), show wd 0 (d : Int) = d by unfold wd; omega, show (v : Int) * 10 + d = u by omega]; exact ⟨rfl, rfl⟩
theorem gF (l : List UInt8) (P : Nat) (V : Nat → Nat) (R : Int × Int) (w : World) (hs : l.length ≤ 2001) (hl0 : 0 < l.length) (hP : 1 ≤ P)
    (hb : ∀ h, ((((ByteArray.mk l.toArray)[0]'h).toNat : Int) == 45) = true)
    (HD : Hid (∀ w, Calls Tryz.prog 123 #[.string ⟨l.toArray⟩, .int .i64 1] w fun e w' => e = .returned (.int .i64 (P : Int)) ∧ w = w'))
    (x1 : ((P : Int) == 1) = false) (hPl : P = l.length) (h5 : l.length ≤ P + 5)
    (VD : Hid (∀ k (h : k < l.length), 1 ≤ k → k ≠ P → k < P + 5 → 48 ≤ l[k].toNat ∧ l[k].toNat ≤ 57 ∧ V (k + 1) = 10 * V k + (l[k].toNat - 48)))
    (VZ : Hid (∀ k, l.length ≤ k → k ≠ P → k < P + 5 → V (k + 1) = 10 * V k)) (VP : Hid (V (P + 1) = V P)) (V0 : Hid (V 1 = 0)) (VM : Hid (∀ k, k ≤ P + 5 → V k ≤ V (P + 5)))
    (E : Hid (R = if (V (P + 5) : Int) ≤ 9223372036854775807 then (sg true ((V (P + 5) : Int)), 0) else (0, 3))) :
    Calls Tryz.prog 90 #[.string ⟨l.toArray⟩] w fun e w' => e = .returned (.tuple #[.int .i64 R.1, .int .i64 R.2]) ∧ Kept w w' := by
  have X := am; have Z := af; have pm : (P : Int) ≤ 2001 := by omega
  have pl : ¬ (P : Int) < (l.length : Int) := by omega
  have x2 : ((P : Int) != (l.length : Int)) = false := by rw [hPl]; simp
  have x3 : ((P : Int) == (P : Int) + 1) = false := by rw [beq_eq_false_iff_ne]; omega
  have HPl := Lib.hid hPl; clear hPl; go_enter Tryz.func90, Tryz.ntmps90; go_wp2_with fail; refine (HD.out _).mono ?_; rintro e w' ⟨rfl, rfl⟩; go_wp2_with fail
  go_loopw [8] (fun i wr => ∃ k : Nat, 1 ≤ k ∧ k ≤ P + 5 ∧ i = .int .i64 k ∧ Kept w wr ∧ V k ≤ 92233720368547758079 ∧ Box wr w.heap.size 142 #[.int .u64 (aF (V k)), .int .u64 (aK (V k))]) (fun i _ => P + 5 - (intOf i).toNat)
  case atStart => exact ⟨1, by omega, by omega, rfl, kpt, by rw [V0.out]; omega, by rw [V0.out, show aF ((0 : Nat) : Int) = 0 from rfl, show aK ((0 : Nat) : Int) = 0 from rfl]; exact bxd⟩
  case round =>
    obtain ⟨k, k1, k2, rfl, hk, vb, bx⟩ := hrel
    by_cases c : k < P + 5
    · by_cases g : 9223372036854775807 < V k
      · have E2 : Hid (R = (0, 3)) := by have := VM.out k (by omega); rw [E.out, if_neg (by omega)]; rfl
        have bx_0 := Box.c0 bx; have bx_1 := Box.c1 bx; have bx_f := Box.loose bx 0; have bx_g := Box.loose bx 1
        by_cases g2 : aF (V k) = 0
        · have l2 : aK (V k) = V k := by unfold aF at g2; unfold aK; omega
          rw [l2] at bx_1; rw [g2] at bx_0; clear l2 g2 bx
          by_cases kp : k = P
          · subst kp
            have kq : ((k : Int) != (k : Int)) = false := by simp
            go_wp2_with fail; go_ret2; exact ⟨av (by rw [E2.out]) (by rw [E2.out]), kpt⟩
          · have kq : ((k : Int) != (P : Int)) = true := by simp; omega
            by_cases kl : k < l.length
            · have D := VD.out k kl (by omega) kp c
              obtain ⟨d1, d2, d3⟩ := D; have D3 := Lib.hid d3; have ge : (ByteArray.mk l.toArray)[k] = l[k] := rfl; obtain ⟨d, hd⟩ : ∃ d : Nat, d = l[k].toNat := ⟨_, rfl⟩; rw [← hd] at d1 d2 D3; have hd2 : ∀ h, (((ByteArray.mk l.toArray)[k]'h).toNat : Int) = d := fun h => by rw [hd]; rfl
              clear d3 hd ge; go_wp2_with fail; go_ret2; exact ⟨av (by rw [E2.out]) (by rw [E2.out]), kpt⟩
            · have D3 := Lib.hid (VZ.out k (by omega) kp c)
              go_wp2_with fail; go_ret2; exact ⟨av (by rw [E2.out]) (by rw [E2.out]), kpt⟩
        · have g3 : (aF (V k) != 0) = true := by rw [bne_iff_ne]; exact g2
          clear bx
          by_cases kp : k = P
          · subst kp
            have kq : ((k : Int) != (k : Int)) = false := by simp
            go_wp2_with fail; go_ret2; exact ⟨av (by rw [E2.out]) (by rw [E2.out]), kpt⟩
          · have kq : ((k : Int) != (P : Int)) = true := by simp; omega
            by_cases kl : k < l.length
            · have D := VD.out k kl (by omega) kp c
              obtain ⟨d1, d2, d3⟩ := D; have D3 := Lib.hid d3; have ge : (ByteArray.mk l.toArray)[k] = l[k] := rfl; obtain ⟨d, hd⟩ : ∃ d : Nat, d = l[k].toNat := ⟨_, rfl⟩; rw [← hd] at d1 d2 D3; have hd2 : ∀ h, (((ByteArray.mk l.toArray)[k]'h).toNat : Int) = d := fun h => by rw [hd]; rfl
              clear d3 hd ge; go_wp2_with fail; go_ret2; exact ⟨av (by rw [E2.out]) (by rw [E2.out]), kpt⟩
            · have D3 := Lib.hid (VZ.out k (by omega) kp c)
              go_wp2_with fail; go_ret2; exact ⟨av (by rw [E2.out]) (by rw [E2.out]), kpt⟩
      · have h1 : aF (V k) = 0 := by unfold aF; omega
        have h2 : aK (V k) = V k := by unfold aK; omega
        have HH := Lib.hid (And.intro h1 h2); rw [h1, h2] at bx; clear h1 h2
        by_cases kp : k = P
        · subst kp
          have kq : ((k : Int) != (k : Int)) = false := by simp
          have bx_0 := Box.c0 bx; have bx_1 := Box.c1 bx; have bx_f := Box.loose bx 0; have bx_g := Box.loose bx 1; go_wp2_with fail
          go_roundw
          case rel => exact ⟨k + 1, by omega, by omega, by go_num, kpt, by rw [VP.out]; omega, by rw [VP.out, HH.out.1, HH.out.2]; exact bx⟩
          case measure => (simp [intOf]; try omega)
        · have kq : ((k : Int) != (P : Int)) = true := by simp; omega
          by_cases kl : k < l.length
          · have D := VD.out k kl (by omega) kp c
            obtain ⟨d1, d2, d3⟩ := D; have D3 := Lib.hid d3; have ge : (ByteArray.mk l.toArray)[k] = l[k] := rfl; obtain ⟨d, hd⟩ : ∃ d : Nat, d = l[k].toNat := ⟨_, rfl⟩; rw [← hd] at d1 d2 D3; have hd2 : ∀ h, (((ByteArray.mk l.toArray)[k]'h).toNat : Int) = d := fun h => by rw [hd]; rfl
            clear d3 hd ge; have SP := cL (v := V k) (d := (d - 48)) (u := V (k + 1)) (by omega) (by omega) (by have := D3.out; omega); have T := fun w => cx (V k) 10 w ⟨by omega, by omega⟩ ⟨by omega, by omega⟩; have PL := fun w => bE (aF ((V k : Int) * 10)) (aK ((V k : Int) * 10)) 0 (((d - 48) : Nat) : Int) w (aQ _) (aO _) ⟨by omega, by omega⟩ ⟨by omega, by omega⟩; rw [SP.1, SP.2] at PL; rw [show (((d - 48 : Nat)) : Int) = (d : Int) - 48 by omega] at PL; have HT := Lib.hid T; have HPL := Lib.hid PL; have NB : Hid (V (k + 1) ≤ 92233720368547758079) := by show _ ≤ _; rw [D3.out]; omega
            clear SP T PL; have bx_0 := Box.c0 bx; have bx_1 := Box.c1 bx; have bx_f := Box.loose bx 0; have bx_g := Box.loose bx 1; go_wp2_with fail; refine (HT.out _).mono ?_; rintro e w1 ⟨rfl, hk1⟩; go_wp2_with fail; refine (HPL.out _).mono ?_; rintro e w2 ⟨rfl, hk2⟩; have bx2 : Box w2 w.heap.size 142 #[.int .u64 0, .int .u64 (V k)] := Box.kept hk2 (Box.kept hk1 bxd); clear bx_0 bx_1 bx_f bx_g; have bx2_0 := Box.c0 bx2; have bx2_1 := Box.c1 bx2; have bx2_f := Box.loose bx2 0; have bx2_g := Box.loose bx2 1; go_wp2_with fail
            go_roundw
            case rel => exact ⟨k + 1, by omega, by omega, by go_num, kpt, NB.out, bxd⟩
            case measure => (simp [intOf]; try omega)
          · have D3 := Lib.hid (VZ.out k (by omega) kp c)
            have SP := cL (v := V k) (d := 0) (u := V (k + 1)) (by omega) (by omega) (by have := D3.out; omega); have T := fun w => cx (V k) 10 w ⟨by omega, by omega⟩ ⟨by omega, by omega⟩; have PL := fun w => bE (aF ((V k : Int) * 10)) (aK ((V k : Int) * 10)) 0 ((0 : Nat) : Int) w (aQ _) (aO _) ⟨by omega, by omega⟩ ⟨by omega, by omega⟩; rw [SP.1, SP.2] at PL; rw [show (((0 : Nat)) : Int) = 0 from rfl] at PL; have HT := Lib.hid T; have HPL := Lib.hid PL; have NB : Hid (V (k + 1) ≤ 92233720368547758079) := by show _ ≤ _; rw [D3.out]; omega
            clear SP T PL; have bx_0 := Box.c0 bx; have bx_1 := Box.c1 bx; have bx_f := Box.loose bx 0; have bx_g := Box.loose bx 1; go_wp2_with fail; refine (HT.out _).mono ?_; rintro e w1 ⟨rfl, hk1⟩; go_wp2_with fail; refine (HPL.out _).mono ?_; rintro e w2 ⟨rfl, hk2⟩; have bx2 : Box w2 w.heap.size 142 #[.int .u64 0, .int .u64 (V k)] := Box.kept hk2 (Box.kept hk1 bxd); clear bx_0 bx_1 bx_f bx_g; have bx2_0 := Box.c0 bx2; have bx2_1 := Box.c1 bx2; have bx2_f := Box.loose bx2 0; have bx2_g := Box.loose bx2 1; go_wp2_with fail
            go_roundw
            case rel => exact ⟨k + 1, by omega, by omega, by go_num, kpt, NB.out, bxd⟩
            case measure => (simp [intOf]; try omega)
    · obtain rfl : k = P + 5 := by omega
      clear VD VZ VP V0 VM; generalize V (P + 5) = v at *
      by_cases g : (v : Int) ≤ 9223372036854775807
      · have E2 : Hid (R = (sg true ((v : Int)), 0)) := by rw [E.out, if_pos g]; rfl
        have Sg := fun w => bm (aF ((v : Int))) (aK ((v : Int))) true w (aQ _) (aO _); rw [cV (by omega) (by omega), dF (by unfold sg; split <;> omega) (by unfold sg; split <;> omega)] at Sg; have HS := Lib.hid Sg; clear Sg g; have bx_0 := Box.c0 bx; have bx_1 := Box.c1 bx; have bx_f := Box.loose bx 0; have bx_g := Box.loose bx 1; go_wp2_with fail; refine (HS.out _).mono ?_; rintro e w3 ⟨rfl, hk3⟩; go_wp2_with fail; go_ret2; exact ⟨av (by rw [E2.out]) (by rw [E2.out]), kpt⟩
      · have E2 : Hid (R = (0, 3)) := by rw [E.out, if_neg g]; rfl
        have Sg := fun w => bm (aF ((v : Int))) (aK ((v : Int))) true w (aQ _) (aO _); rw [cV (by omega) (by omega), dB (by unfold sg; simp; omega)] at Sg; have HS := Lib.hid Sg; clear Sg g; have bx_0 := Box.c0 bx; have bx_1 := Box.c1 bx; have bx_f := Box.loose bx 0; have bx_g := Box.loose bx 1; go_wp2_with fail; refine (HS.out _).mono ?_; rintro e w3 ⟨rfl, hk3⟩; go_wp2_with fail; go_ret2; exact ⟨av (by rw [E2.out]) (by rw [E2.out]), kpt⟩
theorem io (l : List UInt8) (P : Nat) (V : Nat → Nat) (R : Int × Int) (w : World) (hs : l.length ≤ 2001) (hl0 : 0 < l.length) (hP : 1 ≤ P)
    (hb : ∀ h, ((((ByteArray.mk l.toArray)[0]'h).toNat : Int) == 45) = true)
    (HD : Hid (∀ w, Calls Tryz.prog 123 #[.string ⟨l.toArray⟩, .int .i64 1] w fun e w' => e = .returned (.int .i64 (P : Int)) ∧ w = w'))
    (x1 : ((P : Int) == 1) = false) (hPl : P < l.length) (c0 : ∀ h, ((((ByteArray.mk l.toArray)[P]'h).toNat : Int) == 46) = true) (en : ((l.length : Int) == (P : Int) + 1) = false)
    (HD2 : Hid (∀ w, Calls Tryz.prog 123 #[.string ⟨l.toArray⟩, .int .i64 ((P : Int) + 1)] w fun e w' => e = .returned (.int .i64 (l.length : Int)) ∧ w = w')) (h5 : l.length ≤ P + 5)
    (VD : Hid (∀ k (h : k < l.length), 1 ≤ k → k ≠ P → k < P + 5 → 48 ≤ l[k].toNat ∧ l[k].toNat ≤ 57 ∧ V (k + 1) = 10 * V k + (l[k].toNat - 48)))
    (VZ : Hid (∀ k, l.length ≤ k → k ≠ P → k < P + 5 → V (k + 1) = 10 * V k)) (VP : Hid (V (P + 1) = V P)) (V0 : Hid (V 1 = 0)) (VM : Hid (∀ k, k ≤ P + 5 → V k ≤ V (P + 5)))
    (E : Hid (R = if (V (P + 5) : Int) ≤ 9223372036854775807 then (sg true ((V (P + 5) : Int)), 0) else (0, 3))) :
    Calls Tryz.prog 90 #[.string ⟨l.toArray⟩] w fun e w' => e = .returned (.tuple #[.int .i64 R.1, .int .i64 R.2]) ∧ Kept w w' := by
  have X := am; have Z := af; have pm : (P : Int) ≤ 2001 := by omega
  have pl : (P : Int) < (l.length : Int) := by omega
  go_enter Tryz.func90, Tryz.ntmps90; go_wp2_with fail; refine (HD.out _).mono ?_; rintro e w' ⟨rfl, rfl⟩; go_wp2_with fail; refine (HD2.out _).mono ?_; rintro e w' ⟨rfl, rfl⟩; go_wp2_with fail
  go_loopw [8] (fun i wr => ∃ k : Nat, 1 ≤ k ∧ k ≤ P + 5 ∧ i = .int .i64 k ∧ Kept w wr ∧ V k ≤ 92233720368547758079 ∧ Box wr w.heap.size 142 #[.int .u64 (aF (V k)), .int .u64 (aK (V k))]) (fun i _ => P + 5 - (intOf i).toNat)
  case atStart => exact ⟨1, by omega, by omega, rfl, kpt, by rw [V0.out]; omega, by rw [V0.out, show aF ((0 : Nat) : Int) = 0 from rfl, show aK ((0 : Nat) : Int) = 0 from rfl]; exact bxd⟩
  case round =>
    obtain ⟨k, k1, k2, rfl, hk, vb, bx⟩ := hrel
    by_cases c : k < P + 5
    · by_cases g : 9223372036854775807 < V k
      · have E2 : Hid (R = (0, 3)) := by have := VM.out k (by omega); rw [E.out, if_neg (by omega)]; rfl
        have bx_0 := Box.c0 bx; have bx_1 := Box.c1 bx; have bx_f := Box.loose bx 0; have bx_g := Box.loose bx 1
        by_cases g2 : aF (V k) = 0
        · have l2 : aK (V k) = V k := by unfold aF at g2; unfold aK; omega
          rw [l2] at bx_1; rw [g2] at bx_0; clear l2 g2 bx
          by_cases kp : k = P
          · subst kp
            have kq : ((k : Int) != (k : Int)) = false := by simp
            go_wp2_with fail; go_ret2; exact ⟨av (by rw [E2.out]) (by rw [E2.out]), kpt⟩
          · have kq : ((k : Int) != (P : Int)) = true := by simp; omega
            by_cases kl : k < l.length
            · have D := VD.out k kl (by omega) kp c
              obtain ⟨d1, d2, d3⟩ := D; have D3 := Lib.hid d3; have ge : (ByteArray.mk l.toArray)[k] = l[k] := rfl; obtain ⟨d, hd⟩ : ∃ d : Nat, d = l[k].toNat := ⟨_, rfl⟩; rw [← hd] at d1 d2 D3; have hd2 : ∀ h, (((ByteArray.mk l.toArray)[k]'h).toNat : Int) = d := fun h => by rw [hd]; rfl
              clear d3 hd ge; go_wp2_with fail; go_ret2; exact ⟨av (by rw [E2.out]) (by rw [E2.out]), kpt⟩
            · have D3 := Lib.hid (VZ.out k (by omega) kp c)
              go_wp2_with fail; go_ret2; exact ⟨av (by rw [E2.out]) (by rw [E2.out]), kpt⟩
        · have g3 : (aF (V k) != 0) = true := by rw [bne_iff_ne]; exact g2
          clear bx
          by_cases kp : k = P
          · subst kp
            have kq : ((k : Int) != (k : Int)) = false := by simp
            go_wp2_with fail; go_ret2; exact ⟨av (by rw [E2.out]) (by rw [E2.out]), kpt⟩
          · have kq : ((k : Int) != (P : Int)) = true := by simp; omega
            by_cases kl : k < l.length
            · have D := VD.out k kl (by omega) kp c
              obtain ⟨d1, d2, d3⟩ := D; have D3 := Lib.hid d3; have ge : (ByteArray.mk l.toArray)[k] = l[k] := rfl; obtain ⟨d, hd⟩ : ∃ d : Nat, d = l[k].toNat := ⟨_, rfl⟩; rw [← hd] at d1 d2 D3; have hd2 : ∀ h, (((ByteArray.mk l.toArray)[k]'h).toNat : Int) = d := fun h => by rw [hd]; rfl
              clear d3 hd ge; go_wp2_with fail; go_ret2; exact ⟨av (by rw [E2.out]) (by rw [E2.out]), kpt⟩
            · have D3 := Lib.hid (VZ.out k (by omega) kp c)
              go_wp2_with fail; go_ret2; exact ⟨av (by rw [E2.out]) (by rw [E2.out]), kpt⟩
      · have h1 : aF (V k) = 0 := by unfold aF; omega
        have h2 : aK (V k) = V k := by unfold aK; omega
        have HH := Lib.hid (And.intro h1 h2); rw [h1, h2] at bx; clear h1 h2
        by_cases kp : k = P
        · subst kp
          have kq : ((k : Int) != (k : Int)) = false := by simp
          have bx_0 := Box.c0 bx; have bx_1 := Box.c1 bx; have bx_f := Box.loose bx 0; have bx_g := Box.loose bx 1; go_wp2_with fail
          go_roundw
          case rel => exact ⟨k + 1, by omega, by omega, by go_num, kpt, by rw [VP.out]; omega, by rw [VP.out, HH.out.1, HH.out.2]; exact bx⟩
          case measure => (simp [intOf]; try omega)
        · have kq : ((k : Int) != (P : Int)) = true := by simp; omega
          by_cases kl : k < l.length
          · have D := VD.out k kl (by omega) kp c
            obtain ⟨d1, d2, d3⟩ := D; have D3 := Lib.hid d3; have ge : (ByteArray.mk l.toArray)[k] = l[k] := rfl; obtain ⟨d, hd⟩ : ∃ d : Nat, d = l[k].toNat := ⟨_, rfl⟩; rw [← hd] at d1 d2 D3; have hd2 : ∀ h, (((ByteArray.mk l.toArray)[k]'h).toNat : Int) = d := fun h => by rw [hd]; rfl
            clear d3 hd ge; have SP := cL (v := V k) (d := (d - 48)) (u := V (k + 1)) (by omega) (by omega) (by have := D3.out; omega); have T := fun w => cx (V k) 10 w ⟨by omega, by omega⟩ ⟨by omega, by omega⟩; have PL := fun w => bE (aF ((V k : Int) * 10)) (aK ((V k : Int) * 10)) 0 (((d - 48) : Nat) : Int) w (aQ _) (aO _) ⟨by omega, by omega⟩ ⟨by omega, by omega⟩; rw [SP.1, SP.2] at PL; rw [show (((d - 48 : Nat)) : Int) = (d : Int) - 48 by omega] at PL; have HT := Lib.hid T; have HPL := Lib.hid PL; have NB : Hid (V (k + 1) ≤ 92233720368547758079) := by show _ ≤ _; rw [D3.out]; omega
            clear SP T PL; have bx_0 := Box.c0 bx; have bx_1 := Box.c1 bx; have bx_f := Box.loose bx 0; have bx_g := Box.loose bx 1; go_wp2_with fail; refine (HT.out _).mono ?_; rintro e w1 ⟨rfl, hk1⟩; go_wp2_with fail; refine (HPL.out _).mono ?_; rintro e w2 ⟨rfl, hk2⟩; have bx2 : Box w2 w.heap.size 142 #[.int .u64 0, .int .u64 (V k)] := Box.kept hk2 (Box.kept hk1 bxd); clear bx_0 bx_1 bx_f bx_g; have bx2_0 := Box.c0 bx2; have bx2_1 := Box.c1 bx2; have bx2_f := Box.loose bx2 0; have bx2_g := Box.loose bx2 1; go_wp2_with fail
            go_roundw
            case rel => exact ⟨k + 1, by omega, by omega, by go_num, kpt, NB.out, bxd⟩
            case measure => (simp [intOf]; try omega)
          · have D3 := Lib.hid (VZ.out k (by omega) kp c)
            have SP := cL (v := V k) (d := 0) (u := V (k + 1)) (by omega) (by omega) (by have := D3.out; omega); have T := fun w => cx (V k) 10 w ⟨by omega, by omega⟩ ⟨by omega, by omega⟩; have PL := fun w => bE (aF ((V k : Int) * 10)) (aK ((V k : Int) * 10)) 0 ((0 : Nat) : Int) w (aQ _) (aO _) ⟨by omega, by omega⟩ ⟨by omega, by omega⟩; rw [SP.1, SP.2] at PL; rw [show (((0 : Nat)) : Int) = 0 from rfl] at PL; have HT := Lib.hid T; have HPL := Lib.hid PL; have NB : Hid (V (k + 1) ≤ 92233720368547758079) := by show _ ≤ _; rw [D3.out]; omega
            clear SP T PL; have bx_0 := Box.c0 bx; have bx_1 := Box.c1 bx; have bx_f := Box.loose bx 0; have bx_g := Box.loose bx 1; go_wp2_with fail; refine (HT.out _).mono ?_; rintro e w1 ⟨rfl, hk1⟩; go_wp2_with fail; refine (HPL.out _).mono ?_; rintro e w2 ⟨rfl, hk2⟩; have bx2 : Box w2 w.heap.size 142 #[.int .u64 0, .int .u64 (V k)] := Box.kept hk2 (Box.kept hk1 bxd); clear bx_0 bx_1 bx_f bx_g; have bx2_0 := Box.c0 bx2; have bx2_1 := Box.c1 bx2; have bx2_f := Box.loose bx2 0; have bx2_g := Box.loose bx2 1; go_wp2_with fail
            go_roundw
            case rel => exact ⟨k + 1, by omega, by omega, by go_num, kpt, NB.out, bxd⟩
            case measure => (simp [intOf]; try omega)
    · obtain rfl : k = P + 5 := by omega
      clear VD VZ VP V0 VM; generalize V (P + 5) = v at *
      by_cases g : (v : Int) ≤ 9223372036854775807
      · have E2 : Hid (R = (sg true ((v : Int)), 0)) := by rw [E.out, if_pos g]; rfl
        have Sg := fun w => bm (aF ((v : Int))) (aK ((v : Int))) true w (aQ _) (aO _); rw [cV (by omega) (by omega), dF (by unfold sg; split <;> omega) (by unfold sg; split <;> omega)] at Sg; have HS := Lib.hid Sg; clear Sg g; have bx_0 := Box.c0 bx; have bx_1 := Box.c1 bx; have bx_f := Box.loose bx 0; have bx_g := Box.loose bx 1; go_wp2_with fail; refine (HS.out _).mono ?_; rintro e w3 ⟨rfl, hk3⟩; go_wp2_with fail; go_ret2; exact ⟨av (by rw [E2.out]) (by rw [E2.out]), kpt⟩
      · have E2 : Hid (R = (0, 3)) := by rw [E.out, if_neg g]; rfl
        have Sg := fun w => bm (aF ((v : Int))) (aK ((v : Int))) true w (aQ _) (aO _); rw [cV (by omega) (by omega), dB (by unfold sg; simp; omega)] at Sg; have HS := Lib.hid Sg; clear Sg g; have bx_0 := Box.c0 bx; have bx_1 := Box.c1 bx; have bx_f := Box.loose bx 0; have bx_g := Box.loose bx 1; go_wp2_with fail; refine (HS.out _).mono ?_; rintro e w3 ⟨rfl, hk3⟩; go_wp2_with fail; go_ret2; exact ⟨av (by rw [E2.out]) (by rw [E2.out]), kpt⟩
theorem ip (l : List UInt8) (P : Nat) (V : Nat → Nat) (R : Int × Int) (w : World) (hs : l.length ≤ 2001) (hl0 : 0 < l.length) (hP : 1 ≤ P)
    (hb : ∀ h, ((((ByteArray.mk l.toArray)[0]'h).toNat : Int) == 45) = true)
    (HD : Hid (∀ w, Calls Tryz.prog 123 #[.string ⟨l.toArray⟩, .int .i64 1] w fun e w' => e = .returned (.int .i64 (P : Int)) ∧ w = w'))
    (x1 : ((P : Int) == 1) = false) (hPl : P < l.length) (c0 : ∀ h, ((((ByteArray.mk l.toArray)[P]'h).toNat : Int) == 46) = true) (en : ((l.length : Int) == (P : Int) + 1) = false)
    (HD2 : Hid (∀ w, Calls Tryz.prog 123 #[.string ⟨l.toArray⟩, .int .i64 ((P : Int) + 1)] w fun e w' => e = .returned (.int .i64 (l.length : Int)) ∧ w = w')) (h5 : P + 5 < l.length) (f : Nat) (q5 : ∀ h, (((ByteArray.mk l.toArray)[P + 5]'h).toNat : Int) = f) (f5 : f < 53)
    (VD : Hid (∀ k (h : k < l.length), 1 ≤ k → k ≠ P → k < P + 5 → 48 ≤ l[k].toNat ∧ l[k].toNat ≤ 57 ∧ V (k + 1) = 10 * V k + (l[k].toNat - 48)))
    (VZ : Hid (∀ k, l.length ≤ k → k ≠ P → k < P + 5 → V (k + 1) = 10 * V k)) (VP : Hid (V (P + 1) = V P)) (V0 : Hid (V 1 = 0)) (VM : Hid (∀ k, k ≤ P + 5 → V k ≤ V (P + 5)))
    (E : Hid (R = if (V (P + 5) : Int) ≤ 9223372036854775807 then (sg true ((V (P + 5) : Int)), 0) else (0, 3))) :
    Calls Tryz.prog 90 #[.string ⟨l.toArray⟩] w fun e w' => e = .returned (.tuple #[.int .i64 R.1, .int .i64 R.2]) ∧ Kept w w' := by
  have X := am; have Z := af; have pm : (P : Int) ≤ 2001 := by omega
  have pl : (P : Int) < (l.length : Int) := by omega
  go_enter Tryz.func90, Tryz.ntmps90; go_wp2_with fail; refine (HD.out _).mono ?_; rintro e w' ⟨rfl, rfl⟩; go_wp2_with fail; refine (HD2.out _).mono ?_; rintro e w' ⟨rfl, rfl⟩; go_wp2_with fail
  go_loopw [8] (fun i wr => ∃ k : Nat, 1 ≤ k ∧ k ≤ P + 5 ∧ i = .int .i64 k ∧ Kept w wr ∧ V k ≤ 92233720368547758079 ∧ Box wr w.heap.size 142 #[.int .u64 (aF (V k)), .int .u64 (aK (V k))]) (fun i _ => P + 5 - (intOf i).toNat)
  case atStart => exact ⟨1, by omega, by omega, rfl, kpt, by rw [V0.out]; omega, by rw [V0.out, show aF ((0 : Nat) : Int) = 0 from rfl, show aK ((0 : Nat) : Int) = 0 from rfl]; exact bxd⟩
  case round =>
    obtain ⟨k, k1, k2, rfl, hk, vb, bx⟩ := hrel
    by_cases c : k < P + 5
    · by_cases g : 9223372036854775807 < V k
      · have E2 : Hid (R = (0, 3)) := by have := VM.out k (by omega); rw [E.out, if_neg (by omega)]; rfl
        have bx_0 := Box.c0 bx; have bx_1 := Box.c1 bx; have bx_f := Box.loose bx 0; have bx_g := Box.loose bx 1
        by_cases g2 : aF (V k) = 0
        · have l2 : aK (V k) = V k := by unfold aF at g2; unfold aK; omega
          rw [l2] at bx_1; rw [g2] at bx_0; clear l2 g2 bx
          by_cases kp : k = P
          · subst kp
            have kq : ((k : Int) != (k : Int)) = false := by simp
            go_wp2_with fail; go_ret2; exact ⟨av (by rw [E2.out]) (by rw [E2.out]), kpt⟩
          · have kq : ((k : Int) != (P : Int)) = true := by simp; omega
            by_cases kl : k < l.length
            · have D := VD.out k kl (by omega) kp c
              obtain ⟨d1, d2, d3⟩ := D; have D3 := Lib.hid d3; have ge : (ByteArray.mk l.toArray)[k] = l[k] := rfl; obtain ⟨d, hd⟩ : ∃ d : Nat, d = l[k].toNat := ⟨_, rfl⟩; rw [← hd] at d1 d2 D3; have hd2 : ∀ h, (((ByteArray.mk l.toArray)[k]'h).toNat : Int) = d := fun h => by rw [hd]; rfl
              clear d3 hd ge; go_wp2_with fail; go_ret2; exact ⟨av (by rw [E2.out]) (by rw [E2.out]), kpt⟩
            · omega
        · have g3 : (aF (V k) != 0) = true := by rw [bne_iff_ne]; exact g2
          clear bx
          by_cases kp : k = P
          · subst kp
            have kq : ((k : Int) != (k : Int)) = false := by simp
            go_wp2_with fail; go_ret2; exact ⟨av (by rw [E2.out]) (by rw [E2.out]), kpt⟩
          · have kq : ((k : Int) != (P : Int)) = true := by simp; omega
            by_cases kl : k < l.length
            · have D := VD.out k kl (by omega) kp c
              obtain ⟨d1, d2, d3⟩ := D; have D3 := Lib.hid d3; have ge : (ByteArray.mk l.toArray)[k] = l[k] := rfl; obtain ⟨d, hd⟩ : ∃ d : Nat, d = l[k].toNat := ⟨_, rfl⟩; rw [← hd] at d1 d2 D3; have hd2 : ∀ h, (((ByteArray.mk l.toArray)[k]'h).toNat : Int) = d := fun h => by rw [hd]; rfl
              clear d3 hd ge; go_wp2_with fail; go_ret2; exact ⟨av (by rw [E2.out]) (by rw [E2.out]), kpt⟩
            · omega
      · have h1 : aF (V k) = 0 := by unfold aF; omega
        have h2 : aK (V k) = V k := by unfold aK; omega
        have HH := Lib.hid (And.intro h1 h2); rw [h1, h2] at bx; clear h1 h2
        by_cases kp : k = P
        · subst kp
          have kq : ((k : Int) != (k : Int)) = false := by simp
          have bx_0 := Box.c0 bx; have bx_1 := Box.c1 bx; have bx_f := Box.loose bx 0; have bx_g := Box.loose bx 1; go_wp2_with fail
          go_roundw
          case rel => exact ⟨k + 1, by omega, by omega, by go_num, kpt, by rw [VP.out]; omega, by rw [VP.out, HH.out.1, HH.out.2]; exact bx⟩
          case measure => (simp [intOf]; try omega)
        · have kq : ((k : Int) != (P : Int)) = true := by simp; omega
          by_cases kl : k < l.length
          · have D := VD.out k kl (by omega) kp c
            obtain ⟨d1, d2, d3⟩ := D; have D3 := Lib.hid d3; have ge : (ByteArray.mk l.toArray)[k] = l[k] := rfl; obtain ⟨d, hd⟩ : ∃ d : Nat, d = l[k].toNat := ⟨_, rfl⟩; rw [← hd] at d1 d2 D3; have hd2 : ∀ h, (((ByteArray.mk l.toArray)[k]'h).toNat : Int) = d := fun h => by rw [hd]; rfl
            clear d3 hd ge; have SP := cL (v := V k) (d := (d - 48)) (u := V (k + 1)) (by omega) (by omega) (by have := D3.out; omega); have T := fun w => cx (V k) 10 w ⟨by omega, by omega⟩ ⟨by omega, by omega⟩; have PL := fun w => bE (aF ((V k : Int) * 10)) (aK ((V k : Int) * 10)) 0 (((d - 48) : Nat) : Int) w (aQ _) (aO _) ⟨by omega, by omega⟩ ⟨by omega, by omega⟩; rw [SP.1, SP.2] at PL; rw [show (((d - 48 : Nat)) : Int) = (d : Int) - 48 by omega] at PL; have HT := Lib.hid T; have HPL := Lib.hid PL; have NB : Hid (V (k + 1) ≤ 92233720368547758079) := by show _ ≤ _; rw [D3.out]; omega
            clear SP T PL; have bx_0 := Box.c0 bx; have bx_1 := Box.c1 bx; have bx_f := Box.loose bx 0; have bx_g := Box.loose bx 1; go_wp2_with fail; refine (HT.out _).mono ?_; rintro e w1 ⟨rfl, hk1⟩; go_wp2_with fail; refine (HPL.out _).mono ?_; rintro e w2 ⟨rfl, hk2⟩; have bx2 : Box w2 w.heap.size 142 #[.int .u64 0, .int .u64 (V k)] := Box.kept hk2 (Box.kept hk1 bxd); clear bx_0 bx_1 bx_f bx_g; have bx2_0 := Box.c0 bx2; have bx2_1 := Box.c1 bx2; have bx2_f := Box.loose bx2 0; have bx2_g := Box.loose bx2 1; go_wp2_with fail
            go_roundw
            case rel => exact ⟨k + 1, by omega, by omega, by go_num, kpt, NB.out, bxd⟩
            case measure => (simp [intOf]; try omega)
          · omega
    · obtain rfl : k = P + 5 := by omega
      clear VD VZ VP V0 VM; generalize V (P + 5) = v at *
      by_cases g : (v : Int) ≤ 9223372036854775807
      · have E2 : Hid (R = (sg true ((v : Int)), 0)) := by rw [E.out, if_pos g]; rfl
        have Sg := fun w => bm (aF ((v : Int))) (aK ((v : Int))) true w (aQ _) (aO _); rw [cV (by omega) (by omega), dF (by unfold sg; split <;> omega) (by unfold sg; split <;> omega)] at Sg; have HS := Lib.hid Sg; clear Sg g; have bx_0 := Box.c0 bx; have bx_1 := Box.c1 bx; have bx_f := Box.loose bx 0; have bx_g := Box.loose bx 1; go_wp2_with fail; refine (HS.out _).mono ?_; rintro e w3 ⟨rfl, hk3⟩; go_wp2_with fail; go_ret2; exact ⟨av (by rw [E2.out]) (by rw [E2.out]), kpt⟩
      · have E2 : Hid (R = (0, 3)) := by rw [E.out, if_neg g]; rfl
        have Sg := fun w => bm (aF ((v : Int))) (aK ((v : Int))) true w (aQ _) (aO _); rw [cV (by omega) (by omega), dB (by unfold sg; simp; omega)] at Sg; have HS := Lib.hid Sg; clear Sg g; have bx_0 := Box.c0 bx; have bx_1 := Box.c1 bx; have bx_f := Box.loose bx 0; have bx_g := Box.loose bx 1; go_wp2_with fail; refine (HS.out _).mono ?_; rintro e w3 ⟨rfl, hk3⟩; go_wp2_with fail; go_ret2; exact ⟨av (by rw [E2.out]) (by rw [E2.out]), kpt⟩
theorem iH (l : List UInt8) (P : Nat) (V : Nat → Nat) (R : Int × Int) (w : World) (hs : l.length ≤ 2001) (hl0 : 0 < l.length) (hP : 1 ≤ P)
    (hb : ∀ h, ((((ByteArray.mk l.toArray)[0]'h).toNat : Int) == 45) = true)
    (HD : Hid (∀ w, Calls Tryz.prog 123 #[.string ⟨l.toArray⟩, .int .i64 1] w fun e w' => e = .returned (.int .i64 (P : Int)) ∧ w = w'))
    (x1 : ((P : Int) == 1) = false) (hPl : P < l.length) (c0 : ∀ h, ((((ByteArray.mk l.toArray)[P]'h).toNat : Int) == 46) = true) (en : ((l.length : Int) == (P : Int) + 1) = false)
    (HD2 : Hid (∀ w, Calls Tryz.prog 123 #[.string ⟨l.toArray⟩, .int .i64 ((P : Int) + 1)] w fun e w' => e = .returned (.int .i64 (l.length : Int)) ∧ w = w')) (h5 : P + 5 < l.length) (f : Nat) (q5 : ∀ h, (((ByteArray.mk l.toArray)[P + 5]'h).toNat : Int) = f) (f5 : 53 ≤ f)
    (VD : Hid (∀ k (h : k < l.length), 1 ≤ k → k ≠ P → k < P + 5 → 48 ≤ l[k].toNat ∧ l[k].toNat ≤ 57 ∧ V (k + 1) = 10 * V k + (l[k].toNat - 48)))
    (VZ : Hid (∀ k, l.length ≤ k → k ≠ P → k < P + 5 → V (k + 1) = 10 * V k)) (VP : Hid (V (P + 1) = V P)) (V0 : Hid (V 1 = 0)) (VM : Hid (∀ k, k ≤ P + 5 → V k ≤ V (P + 5)))
    (E : Hid (R = if (V (P + 5) : Int) + 1 ≤ 9223372036854775807 then (sg true ((V (P + 5) : Int) + 1), 0) else (0, 3))) :
    Calls Tryz.prog 90 #[.string ⟨l.toArray⟩] w fun e w' => e = .returned (.tuple #[.int .i64 R.1, .int .i64 R.2]) ∧ Kept w w' := by
  have X := am; have Z := af; have pm : (P : Int) ≤ 2001 := by omega
  have pl : (P : Int) < (l.length : Int) := by omega
  go_enter Tryz.func90, Tryz.ntmps90; go_wp2_with fail; refine (HD.out _).mono ?_; rintro e w' ⟨rfl, rfl⟩; go_wp2_with fail; refine (HD2.out _).mono ?_; rintro e w' ⟨rfl, rfl⟩; go_wp2_with fail
  go_loopw [8] (fun i wr => ∃ k : Nat, 1 ≤ k ∧ k ≤ P + 5 ∧ i = .int .i64 k ∧ Kept w wr ∧ V k ≤ 92233720368547758079 ∧ Box wr w.heap.size 142 #[.int .u64 (aF (V k)), .int .u64 (aK (V k))]) (fun i _ => P + 5 - (intOf i).toNat)
  case atStart => exact ⟨1, by omega, by omega, rfl, kpt, by rw [V0.out]; omega, by rw [V0.out, show aF ((0 : Nat) : Int) = 0 from rfl, show aK ((0 : Nat) : Int) = 0 from rfl]; exact bxd⟩
  case round =>
    obtain ⟨k, k1, k2, rfl, hk, vb, bx⟩ := hrel
    by_cases c : k < P + 5
    · by_cases g : 9223372036854775807 < V k
      · have E2 : Hid (R = (0, 3)) := by have := VM.out k (by omega); rw [E.out, if_neg (by omega)]; rfl
        have bx_0 := Box.c0 bx; have bx_1 := Box.c1 bx; have bx_f := Box.loose bx 0; have bx_g := Box.loose bx 1
        by_cases g2 : aF (V k) = 0
        · have l2 : aK (V k) = V k := by unfold aF at g2; unfold aK; omega
          rw [l2] at bx_1; rw [g2] at bx_0; clear l2 g2 bx
          by_cases kp : k = P
          · subst kp
            have kq : ((k : Int) != (k : Int)) = false := by simp
            go_wp2_with fail; go_ret2; exact ⟨av (by rw [E2.out]) (by rw [E2.out]), kpt⟩
          · have kq : ((k : Int) != (P : Int)) = true := by simp; omega
            by_cases kl : k < l.length
            · have D := VD.out k kl (by omega) kp c
              obtain ⟨d1, d2, d3⟩ := D; have D3 := Lib.hid d3; have ge : (ByteArray.mk l.toArray)[k] = l[k] := rfl; obtain ⟨d, hd⟩ : ∃ d : Nat, d = l[k].toNat := ⟨_, rfl⟩; rw [← hd] at d1 d2 D3; have hd2 : ∀ h, (((ByteArray.mk l.toArray)[k]'h).toNat : Int) = d := fun h => by rw [hd]; rfl
              clear d3 hd ge; go_wp2_with fail; go_ret2; exact ⟨av (by rw [E2.out]) (by rw [E2.out]), kpt⟩
            · omega
        · have g3 : (aF (V k) != 0) = true := by rw [bne_iff_ne]; exact g2
          clear bx
          by_cases kp : k = P
          · subst kp
            have kq : ((k : Int) != (k : Int)) = false := by simp
            go_wp2_with fail; go_ret2; exact ⟨av (by rw [E2.out]) (by rw [E2.out]), kpt⟩
          · have kq : ((k : Int) != (P : Int)) = true := by simp; omega
            by_cases kl : k < l.length
            · have D := VD.out k kl (by omega) kp c
              obtain ⟨d1, d2, d3⟩ := D; have D3 := Lib.hid d3; have ge : (ByteArray.mk l.toArray)[k] = l[k] := rfl; obtain ⟨d, hd⟩ : ∃ d : Nat, d = l[k].toNat := ⟨_, rfl⟩; rw [← hd] at d1 d2 D3; have hd2 : ∀ h, (((ByteArray.mk l.toArray)[k]'h).toNat : Int) = d := fun h => by rw [hd]; rfl
              clear d3 hd ge; go_wp2_with fail; go_ret2; exact ⟨av (by rw [E2.out]) (by rw [E2.out]), kpt⟩
            · omega
      · have h1 : aF (V k) = 0 := by unfold aF; omega
        have h2 : aK (V k) = V k := by unfold aK; omega
        have HH := Lib.hid (And.intro h1 h2); rw [h1, h2] at bx; clear h1 h2
        by_cases kp : k = P
        · subst kp
          have kq : ((k : Int) != (k : Int)) = false := by simp
          have bx_0 := Box.c0 bx; have bx_1 := Box.c1 bx; have bx_f := Box.loose bx 0; have bx_g := Box.loose bx 1; go_wp2_with fail
          go_roundw
          case rel => exact ⟨k + 1, by omega, by omega, by go_num, kpt, by rw [VP.out]; omega, by rw [VP.out, HH.out.1, HH.out.2]; exact bx⟩
          case measure => (simp [intOf]; try omega)
        · have kq : ((k : Int) != (P : Int)) = true := by simp; omega
          by_cases kl : k < l.length
          · have D := VD.out k kl (by omega) kp c
            obtain ⟨d1, d2, d3⟩ := D; have D3 := Lib.hid d3; have ge : (ByteArray.mk l.toArray)[k] = l[k] := rfl; obtain ⟨d, hd⟩ : ∃ d : Nat, d = l[k].toNat := ⟨_, rfl⟩; rw [← hd] at d1 d2 D3; have hd2 : ∀ h, (((ByteArray.mk l.toArray)[k]'h).toNat : Int) = d := fun h => by rw [hd]; rfl
            clear d3 hd ge; have SP := cL (v := V k) (d := (d - 48)) (u := V (k + 1)) (by omega) (by omega) (by have := D3.out; omega); have T := fun w => cx (V k) 10 w ⟨by omega, by omega⟩ ⟨by omega, by omega⟩; have PL := fun w => bE (aF ((V k : Int) * 10)) (aK ((V k : Int) * 10)) 0 (((d - 48) : Nat) : Int) w (aQ _) (aO _) ⟨by omega, by omega⟩ ⟨by omega, by omega⟩; rw [SP.1, SP.2] at PL; rw [show (((d - 48 : Nat)) : Int) = (d : Int) - 48 by omega] at PL; have HT := Lib.hid T; have HPL := Lib.hid PL; have NB : Hid (V (k + 1) ≤ 92233720368547758079) := by show _ ≤ _; rw [D3.out]; omega
            clear SP T PL; have bx_0 := Box.c0 bx; have bx_1 := Box.c1 bx; have bx_f := Box.loose bx 0; have bx_g := Box.loose bx 1; go_wp2_with fail; refine (HT.out _).mono ?_; rintro e w1 ⟨rfl, hk1⟩; go_wp2_with fail; refine (HPL.out _).mono ?_; rintro e w2 ⟨rfl, hk2⟩; have bx2 : Box w2 w.heap.size 142 #[.int .u64 0, .int .u64 (V k)] := Box.kept hk2 (Box.kept hk1 bxd); clear bx_0 bx_1 bx_f bx_g; have bx2_0 := Box.c0 bx2; have bx2_1 := Box.c1 bx2; have bx2_f := Box.loose bx2 0; have bx2_g := Box.loose bx2 1; go_wp2_with fail
            go_roundw
            case rel => exact ⟨k + 1, by omega, by omega, by go_num, kpt, NB.out, bxd⟩
            case measure => (simp [intOf]; try omega)
          · omega
    · obtain rfl : k = P + 5 := by omega
      clear VD VZ VP V0 VM; generalize V (P + 5) = v at *; have PL := fun w => bE (aF (v : Int)) (aK (v : Int)) 0 1 w (aQ _) (aO _) ⟨by omega, by omega⟩ ⟨by omega, by omega⟩; rw [cV (by omega) (by omega), show wd 0 1 = 1 by rfl] at PL; have HPL := Lib.hid PL; clear PL
      by_cases g : (v : Int) + 1 ≤ 9223372036854775807
      · have E2 : Hid (R = (sg true ((v : Int) + 1), 0)) := by rw [E.out, if_pos g]; rfl
        have Sg := fun w => bm (aF ((v : Int) + 1)) (aK ((v : Int) + 1)) true w (aQ _) (aO _); rw [cV (by omega) (by omega), dF (by unfold sg; split <;> omega) (by unfold sg; split <;> omega)] at Sg; have HS := Lib.hid Sg; clear Sg g; have bx_0 := Box.c0 bx; have bx_1 := Box.c1 bx; have bx_f := Box.loose bx 0; have bx_g := Box.loose bx 1; go_wp2_with fail; refine (HPL.out _).mono ?_; rintro e w2 ⟨rfl, hk2⟩; have bx2 : Box w2 w.heap.size 142 #[.int .u64 (aF (v : Int)), .int .u64 (aK (v : Int))] := Box.kept hk2 bxd; clear bx_0 bx_1 bx_f bx_g; have bx2_0 := Box.c0 bx2; have bx2_1 := Box.c1 bx2; have bx2_f := Box.loose bx2 0; have bx2_g := Box.loose bx2 1; go_wp2_with fail; refine (HS.out _).mono ?_; rintro e w3 ⟨rfl, hk3⟩; go_wp2_with fail; go_ret2; exact ⟨av (by rw [E2.out]) (by rw [E2.out]), kpt⟩
      · have E2 : Hid (R = (0, 3)) := by rw [E.out, if_neg g]; rfl
        have Sg := fun w => bm (aF ((v : Int) + 1)) (aK ((v : Int) + 1)) true w (aQ _) (aO _); rw [cV (by omega) (by omega), dB (by unfold sg; simp; omega)] at Sg; have HS := Lib.hid Sg; clear Sg g; have bx_0 := Box.c0 bx; have bx_1 := Box.c1 bx; have bx_f := Box.loose bx 0; have bx_g := Box.loose bx 1; go_wp2_with fail; refine (HPL.out _).mono ?_; rintro e w2 ⟨rfl, hk2⟩; have bx2 : Box w2 w.heap.size 142 #[.int .u64 (aF (v : Int)), .int .u64 (aK (v : Int))] := Box.kept hk2 bxd; clear bx_0 bx_1 bx_f bx_g; have bx2_0 := Box.c0 bx2; have bx2_1 := Box.c1 bx2; have bx2_f := Box.loose bx2 0; have bx2_g := Box.loose bx2 1; go_wp2_with fail; refine (HS.out _).mono ?_; rintro e w3 ⟨rfl, hk3⟩; go_wp2_with fail; go_ret2; exact ⟨av (by rw [E2.out]) (by rw [E2.out]), kpt⟩
theorem gG (l : List UInt8) (P : Nat) (V : Nat → Nat) (R : Int × Int) (w : World) (hs : l.length ≤ 2001) (hl0 : 0 < l.length) (hP : 0 ≤ P)
    (hb : ∀ h, ((((ByteArray.mk l.toArray)[0]'h).toNat : Int) == 45) = false)
    (HD : Hid (∀ w, Calls Tryz.prog 123 #[.string ⟨l.toArray⟩, .int .i64 0] w fun e w' => e = .returned (.int .i64 (P : Int)) ∧ w = w'))
    (x1 : ((P : Int) == 0) = false) (hPl : P = l.length) (h5 : l.length ≤ P + 5)
    (VD : Hid (∀ k (h : k < l.length), 0 ≤ k → k ≠ P → k < P + 5 → 48 ≤ l[k].toNat ∧ l[k].toNat ≤ 57 ∧ V (k + 1) = 10 * V k + (l[k].toNat - 48)))
    (VZ : Hid (∀ k, l.length ≤ k → k ≠ P → k < P + 5 → V (k + 1) = 10 * V k)) (VP : Hid (V (P + 1) = V P)) (V0 : Hid (V 0 = 0)) (VM : Hid (∀ k, k ≤ P + 5 → V k ≤ V (P + 5)))
    (E : Hid (R = if (V (P + 5) : Int) ≤ 9223372036854775807 then (sg false ((V (P + 5) : Int)), 0) else (0, 3))) :
    Calls Tryz.prog 90 #[.string ⟨l.toArray⟩] w fun e w' => e = .returned (.tuple #[.int .i64 R.1, .int .i64 R.2]) ∧ Kept w w' := by
  have X := am; have Z := af; have pm : (P : Int) ≤ 2001 := by omega
  have pl : ¬ (P : Int) < (l.length : Int) := by omega
  have x2 : ((P : Int) != (l.length : Int)) = false := by rw [hPl]; simp
  have x3 : ((P : Int) == (P : Int) + 1) = false := by rw [beq_eq_false_iff_ne]; omega
  have HPl := Lib.hid hPl; clear hPl; go_enter Tryz.func90, Tryz.ntmps90; go_wp2_with fail; refine (HD.out _).mono ?_; rintro e w' ⟨rfl, rfl⟩; go_wp2_with fail
  go_loopw [8] (fun i wr => ∃ k : Nat, 0 ≤ k ∧ k ≤ P + 5 ∧ i = .int .i64 k ∧ Kept w wr ∧ V k ≤ 92233720368547758079 ∧ Box wr w.heap.size 142 #[.int .u64 (aF (V k)), .int .u64 (aK (V k))]) (fun i _ => P + 5 - (intOf i).toNat)
  case atStart => exact ⟨0, by omega, by omega, rfl, kpt, by rw [V0.out]; omega, by rw [V0.out, show aF ((0 : Nat) : Int) = 0 from rfl, show aK ((0 : Nat) : Int) = 0 from rfl]; exact bxd⟩
  case round =>
    obtain ⟨k, k1, k2, rfl, hk, vb, bx⟩ := hrel
    by_cases c : k < P + 5
    · by_cases g : 9223372036854775807 < V k
      · have E2 : Hid (R = (0, 3)) := by have := VM.out k (by omega); rw [E.out, if_neg (by omega)]; rfl
        have bx_0 := Box.c0 bx; have bx_1 := Box.c1 bx; have bx_f := Box.loose bx 0; have bx_g := Box.loose bx 1
        by_cases g2 : aF (V k) = 0
        · have l2 : aK (V k) = V k := by unfold aF at g2; unfold aK; omega
          rw [l2] at bx_1; rw [g2] at bx_0; clear l2 g2 bx
          by_cases kp : k = P
          · subst kp
            have kq : ((k : Int) != (k : Int)) = false := by simp
            go_wp2_with fail; go_ret2; exact ⟨av (by rw [E2.out]) (by rw [E2.out]), kpt⟩
          · have kq : ((k : Int) != (P : Int)) = true := by simp; omega
            by_cases kl : k < l.length
            · have D := VD.out k kl (by omega) kp c
              obtain ⟨d1, d2, d3⟩ := D; have D3 := Lib.hid d3; have ge : (ByteArray.mk l.toArray)[k] = l[k] := rfl; obtain ⟨d, hd⟩ : ∃ d : Nat, d = l[k].toNat := ⟨_, rfl⟩; rw [← hd] at d1 d2 D3; have hd2 : ∀ h, (((ByteArray.mk l.toArray)[k]'h).toNat : Int) = d := fun h => by rw [hd]; rfl
              clear d3 hd ge; go_wp2_with fail; go_ret2; exact ⟨av (by rw [E2.out]) (by rw [E2.out]), kpt⟩
            · have D3 := Lib.hid (VZ.out k (by omega) kp c)
              go_wp2_with fail; go_ret2; exact ⟨av (by rw [E2.out]) (by rw [E2.out]), kpt⟩
        · have g3 : (aF (V k) != 0) = true := by rw [bne_iff_ne]; exact g2
          clear bx
          by_cases kp : k = P
          · subst kp
            have kq : ((k : Int) != (k : Int)) = false := by simp
            go_wp2_with fail; go_ret2; exact ⟨av (by rw [E2.out]) (by rw [E2.out]), kpt⟩
          · have kq : ((k : Int) != (P : Int)) = true := by simp; omega
            by_cases kl : k < l.length
            · have D := VD.out k kl (by omega) kp c
              obtain ⟨d1, d2, d3⟩ := D; have D3 := Lib.hid d3; have ge : (ByteArray.mk l.toArray)[k] = l[k] := rfl; obtain ⟨d, hd⟩ : ∃ d : Nat, d = l[k].toNat := ⟨_, rfl⟩; rw [← hd] at d1 d2 D3; have hd2 : ∀ h, (((ByteArray.mk l.toArray)[k]'h).toNat : Int) = d := fun h => by rw [hd]; rfl
              clear d3 hd ge; go_wp2_with fail; go_ret2; exact ⟨av (by rw [E2.out]) (by rw [E2.out]), kpt⟩
            · have D3 := Lib.hid (VZ.out k (by omega) kp c)
              go_wp2_with fail; go_ret2; exact ⟨av (by rw [E2.out]) (by rw [E2.out]), kpt⟩
      · have h1 : aF (V k) = 0 := by unfold aF; omega
        have h2 : aK (V k) = V k := by unfold aK; omega
        have HH := Lib.hid (And.intro h1 h2); rw [h1, h2] at bx; clear h1 h2
        by_cases kp : k = P
        · subst kp
          have kq : ((k : Int) != (k : Int)) = false := by simp
          have bx_0 := Box.c0 bx; have bx_1 := Box.c1 bx; have bx_f := Box.loose bx 0; have bx_g := Box.loose bx 1; go_wp2_with fail
          go_roundw
          case rel => exact ⟨k + 1, by omega, by omega, by go_num, kpt, by rw [VP.out]; omega, by rw [VP.out, HH.out.1, HH.out.2]; exact bx⟩
          case measure => (simp [intOf]; try omega)
        · have kq : ((k : Int) != (P : Int)) = true := by simp; omega
          by_cases kl : k < l.length
          · have D := VD.out k kl (by omega) kp c
            obtain ⟨d1, d2, d3⟩ := D; have D3 := Lib.hid d3; have ge : (ByteArray.mk l.toArray)[k] = l[k] := rfl; obtain ⟨d, hd⟩ : ∃ d : Nat, d = l[k].toNat := ⟨_, rfl⟩; rw [← hd] at d1 d2 D3; have hd2 : ∀ h, (((ByteArray.mk l.toArray)[k]'h).toNat : Int) = d := fun h => by rw [hd]; rfl
            clear d3 hd ge; have SP := cL (v := V k) (d := (d - 48)) (u := V (k + 1)) (by omega) (by omega) (by have := D3.out; omega); have T := fun w => cx (V k) 10 w ⟨by omega, by omega⟩ ⟨by omega, by omega⟩; have PL := fun w => bE (aF ((V k : Int) * 10)) (aK ((V k : Int) * 10)) 0 (((d - 48) : Nat) : Int) w (aQ _) (aO _) ⟨by omega, by omega⟩ ⟨by omega, by omega⟩; rw [SP.1, SP.2] at PL; rw [show (((d - 48 : Nat)) : Int) = (d : Int) - 48 by omega] at PL; have HT := Lib.hid T; have HPL := Lib.hid PL; have NB : Hid (V (k + 1) ≤ 92233720368547758079) := by show _ ≤ _; rw [D3.out]; omega
            clear SP T PL; have bx_0 := Box.c0 bx; have bx_1 := Box.c1 bx; have bx_f := Box.loose bx 0; have bx_g := Box.loose bx 1; go_wp2_with fail; refine (HT.out _).mono ?_; rintro e w1 ⟨rfl, hk1⟩; go_wp2_with fail; refine (HPL.out _).mono ?_; rintro e w2 ⟨rfl, hk2⟩; have bx2 : Box w2 w.heap.size 142 #[.int .u64 0, .int .u64 (V k)] := Box.kept hk2 (Box.kept hk1 bxd); clear bx_0 bx_1 bx_f bx_g; have bx2_0 := Box.c0 bx2; have bx2_1 := Box.c1 bx2; have bx2_f := Box.loose bx2 0; have bx2_g := Box.loose bx2 1; go_wp2_with fail
            go_roundw
            case rel => exact ⟨k + 1, by omega, by omega, by go_num, kpt, NB.out, bxd⟩
            case measure => (simp [intOf]; try omega)
          · have D3 := Lib.hid (VZ.out k (by omega) kp c)
            have SP := cL (v := V k) (d := 0) (u := V (k + 1)) (by omega) (by omega) (by have := D3.out; omega); have T := fun w => cx (V k) 10 w ⟨by omega, by omega⟩ ⟨by omega, by omega⟩; have PL := fun w => bE (aF ((V k : Int) * 10)) (aK ((V k : Int) * 10)) 0 ((0 : Nat) : Int) w (aQ _) (aO _) ⟨by omega, by omega⟩ ⟨by omega, by omega⟩; rw [SP.1, SP.2] at PL; rw [show (((0 : Nat)) : Int) = 0 from rfl] at PL; have HT := Lib.hid T; have HPL := Lib.hid PL; have NB : Hid (V (k + 1) ≤ 92233720368547758079) := by show _ ≤ _; rw [D3.out]; omega
            clear SP T PL; have bx_0 := Box.c0 bx; have bx_1 := Box.c1 bx; have bx_f := Box.loose bx 0; have bx_g := Box.loose bx 1; go_wp2_with fail; refine (HT.out _).mono ?_; rintro e w1 ⟨rfl, hk1⟩; go_wp2_with fail; refine (HPL.out _).mono ?_; rintro e w2 ⟨rfl, hk2⟩; have bx2 : Box w2 w.heap.size 142 #[.int .u64 0, .int .u64 (V k)] := Box.kept hk2 (Box.kept hk1 bxd); clear bx_0 bx_1 bx_f bx_g; have bx2_0 := Box.c0 bx2; have bx2_1 := Box.c1 bx2; have bx2_f := Box.loose bx2 0; have bx2_g := Box.loose bx2 1; go_wp2_with fail
            go_roundw
            case rel => exact ⟨k + 1, by omega, by omega, by go_num, kpt, NB.out, bxd⟩
            case measure => (simp [intOf]; try omega)
    · obtain rfl : k = P + 5 := by omega
      clear VD VZ VP V0 VM; generalize V (P + 5) = v at *
      by_cases g : (v : Int) ≤ 9223372036854775807
      · have E2 : Hid (R = (sg false ((v : Int)), 0)) := by rw [E.out, if_pos g]; rfl
        have Sg := fun w => bm (aF ((v : Int))) (aK ((v : Int))) false w (aQ _) (aO _); rw [cV (by omega) (by omega), dF (by unfold sg; split <;> omega) (by unfold sg; split <;> omega)] at Sg; have HS := Lib.hid Sg; clear Sg g; have bx_0 := Box.c0 bx; have bx_1 := Box.c1 bx; have bx_f := Box.loose bx 0; have bx_g := Box.loose bx 1; go_wp2_with fail; refine (HS.out _).mono ?_; rintro e w3 ⟨rfl, hk3⟩; go_wp2_with fail; go_ret2; exact ⟨av (by rw [E2.out]) (by rw [E2.out]), kpt⟩
      · have E2 : Hid (R = (0, 3)) := by rw [E.out, if_neg g]; rfl
        have Sg := fun w => bm (aF ((v : Int))) (aK ((v : Int))) false w (aQ _) (aO _); rw [cV (by omega) (by omega), dB (by unfold sg; simp; omega)] at Sg; have HS := Lib.hid Sg; clear Sg g; have bx_0 := Box.c0 bx; have bx_1 := Box.c1 bx; have bx_f := Box.loose bx 0; have bx_g := Box.loose bx 1; go_wp2_with fail; refine (HS.out _).mono ?_; rintro e w3 ⟨rfl, hk3⟩; go_wp2_with fail; go_ret2; exact ⟨av (by rw [E2.out]) (by rw [E2.out]), kpt⟩
theorem iq (l : List UInt8) (P : Nat) (V : Nat → Nat) (R : Int × Int) (w : World) (hs : l.length ≤ 2001) (hl0 : 0 < l.length) (hP : 0 ≤ P)
    (hb : ∀ h, ((((ByteArray.mk l.toArray)[0]'h).toNat : Int) == 45) = false)
    (HD : Hid (∀ w, Calls Tryz.prog 123 #[.string ⟨l.toArray⟩, .int .i64 0] w fun e w' => e = .returned (.int .i64 (P : Int)) ∧ w = w'))
    (x1 : ((P : Int) == 0) = false) (hPl : P < l.length) (c0 : ∀ h, ((((ByteArray.mk l.toArray)[P]'h).toNat : Int) == 46) = true) (en : ((l.length : Int) == (P : Int) + 1) = false)
    (HD2 : Hid (∀ w, Calls Tryz.prog 123 #[.string ⟨l.toArray⟩, .int .i64 ((P : Int) + 1)] w fun e w' => e = .returned (.int .i64 (l.length : Int)) ∧ w = w')) (h5 : l.length ≤ P + 5)
    (VD : Hid (∀ k (h : k < l.length), 0 ≤ k → k ≠ P → k < P + 5 → 48 ≤ l[k].toNat ∧ l[k].toNat ≤ 57 ∧ V (k + 1) = 10 * V k + (l[k].toNat - 48)))
    (VZ : Hid (∀ k, l.length ≤ k → k ≠ P → k < P + 5 → V (k + 1) = 10 * V k)) (VP : Hid (V (P + 1) = V P)) (V0 : Hid (V 0 = 0)) (VM : Hid (∀ k, k ≤ P + 5 → V k ≤ V (P + 5)))
    (E : Hid (R = if (V (P + 5) : Int) ≤ 9223372036854775807 then (sg false ((V (P + 5) : Int)), 0) else (0, 3))) :
    Calls Tryz.prog 90 #[.string ⟨l.toArray⟩] w fun e w' => e = .returned (.tuple #[.int .i64 R.1, .int .i64 R.2]) ∧ Kept w w' := by
  have X := am; have Z := af; have pm : (P : Int) ≤ 2001 := by omega
  have pl : (P : Int) < (l.length : Int) := by omega
  go_enter Tryz.func90, Tryz.ntmps90; go_wp2_with fail; refine (HD.out _).mono ?_; rintro e w' ⟨rfl, rfl⟩; go_wp2_with fail; refine (HD2.out _).mono ?_; rintro e w' ⟨rfl, rfl⟩; go_wp2_with fail
  go_loopw [8] (fun i wr => ∃ k : Nat, 0 ≤ k ∧ k ≤ P + 5 ∧ i = .int .i64 k ∧ Kept w wr ∧ V k ≤ 92233720368547758079 ∧ Box wr w.heap.size 142 #[.int .u64 (aF (V k)), .int .u64 (aK (V k))]) (fun i _ => P + 5 - (intOf i).toNat)
  case atStart => exact ⟨0, by omega, by omega, rfl, kpt, by rw [V0.out]; omega, by rw [V0.out, show aF ((0 : Nat) : Int) = 0 from rfl, show aK ((0 : Nat) : Int) = 0 from rfl]; exact bxd⟩
  case round =>
    obtain ⟨k, k1, k2, rfl, hk, vb, bx⟩ := hrel
    by_cases c : k < P + 5
    · by_cases g : 9223372036854775807 < V k
      · have E2 : Hid (R = (0, 3)) := by have := VM.out k (by omega); rw [E.out, if_neg (by omega)]; rfl
        have bx_0 := Box.c0 bx; have bx_1 := Box.c1 bx; have bx_f := Box.loose bx 0; have bx_g := Box.loose bx 1
        by_cases g2 : aF (V k) = 0
        · have l2 : aK (V k) = V k := by unfold aF at g2; unfold aK; omega
          rw [l2] at bx_1; rw [g2] at bx_0; clear l2 g2 bx
          by_cases kp : k = P
          · subst kp
            have kq : ((k : Int) != (k : Int)) = false := by simp
            go_wp2_with fail; go_ret2; exact ⟨av (by rw [E2.out]) (by rw [E2.out]), kpt⟩
          · have kq : ((k : Int) != (P : Int)) = true := by simp; omega
            by_cases kl : k < l.length
            · have D := VD.out k kl (by omega) kp c
              obtain ⟨d1, d2, d3⟩ := D; have D3 := Lib.hid d3; have ge : (ByteArray.mk l.toArray)[k] = l[k] := rfl; obtain ⟨d, hd⟩ : ∃ d : Nat, d = l[k].toNat := ⟨_, rfl⟩; rw [← hd] at d1 d2 D3; have hd2 : ∀ h, (((ByteArray.mk l.toArray)[k]'h).toNat : Int) = d := fun h => by rw [hd]; rfl
              clear d3 hd ge; go_wp2_with fail; go_ret2; exact ⟨av (by rw [E2.out]) (by rw [E2.out]), kpt⟩
            · have D3 := Lib.hid (VZ.out k (by omega) kp c)
              go_wp2_with fail; go_ret2; exact ⟨av (by rw [E2.out]) (by rw [E2.out]), kpt⟩
        · have g3 : (aF (V k) != 0) = true := by rw [bne_iff_ne]; exact g2
          clear bx
          by_cases kp : k = P
          · subst kp
            have kq : ((k : Int) != (k : Int)) = false := by simp
            go_wp2_with fail; go_ret2; exact ⟨av (by rw [E2.out]) (by rw [E2.out]), kpt⟩
          · have kq : ((k : Int) != (P : Int)) = true := by simp; omega
            by_cases kl : k < l.length
            · have D := VD.out k kl (by omega) kp c
              obtain ⟨d1, d2, d3⟩ := D; have D3 := Lib.hid d3; have ge : (ByteArray.mk l.toArray)[k] = l[k] := rfl; obtain ⟨d, hd⟩ : ∃ d : Nat, d = l[k].toNat := ⟨_, rfl⟩; rw [← hd] at d1 d2 D3; have hd2 : ∀ h, (((ByteArray.mk l.toArray)[k]'h).toNat : Int) = d := fun h => by rw [hd]; rfl
              clear d3 hd ge; go_wp2_with fail; go_ret2; exact ⟨av (by rw [E2.out]) (by rw [E2.out]), kpt⟩
            · have D3 := Lib.hid (VZ.out k (by omega) kp c)
              go_wp2_with fail; go_ret2; exact ⟨av (by rw [E2.out]) (by rw [E2.out]), kpt⟩
      · have h1 : aF (V k) = 0 := by unfold aF; omega
        have h2 : aK (V k) = V k := by unfold aK; omega
        have HH := Lib.hid (And.intro h1 h2); rw [h1, h2] at bx; clear h1 h2
        by_cases kp : k = P
        · subst kp
          have kq : ((k : Int) != (k : Int)) = false := by simp
          have bx_0 := Box.c0 bx; have bx_1 := Box.c1 bx; have bx_f := Box.loose bx 0; have bx_g := Box.loose bx 1; go_wp2_with fail
          go_roundw
          case rel => exact ⟨k + 1, by omega, by omega, by go_num, kpt, by rw [VP.out]; omega, by rw [VP.out, HH.out.1, HH.out.2]; exact bx⟩
          case measure => (simp [intOf]; try omega)
        · have kq : ((k : Int) != (P : Int)) = true := by simp; omega
          by_cases kl : k < l.length
          · have D := VD.out k kl (by omega) kp c
            obtain ⟨d1, d2, d3⟩ := D; have D3 := Lib.hid d3; have ge : (ByteArray.mk l.toArray)[k] = l[k] := rfl; obtain ⟨d, hd⟩ : ∃ d : Nat, d = l[k].toNat := ⟨_, rfl⟩; rw [← hd] at d1 d2 D3; have hd2 : ∀ h, (((ByteArray.mk l.toArray)[k]'h).toNat : Int) = d := fun h => by rw [hd]; rfl
            clear d3 hd ge; have SP := cL (v := V k) (d := (d - 48)) (u := V (k + 1)) (by omega) (by omega) (by have := D3.out; omega); have T := fun w => cx (V k) 10 w ⟨by omega, by omega⟩ ⟨by omega, by omega⟩; have PL := fun w => bE (aF ((V k : Int) * 10)) (aK ((V k : Int) * 10)) 0 (((d - 48) : Nat) : Int) w (aQ _) (aO _) ⟨by omega, by omega⟩ ⟨by omega, by omega⟩; rw [SP.1, SP.2] at PL; rw [show (((d - 48 : Nat)) : Int) = (d : Int) - 48 by omega] at PL; have HT := Lib.hid T; have HPL := Lib.hid PL; have NB : Hid (V (k + 1) ≤ 92233720368547758079) := by show _ ≤ _; rw [D3.out]; omega
            clear SP T PL; have bx_0 := Box.c0 bx; have bx_1 := Box.c1 bx; have bx_f := Box.loose bx 0; have bx_g := Box.loose bx 1; go_wp2_with fail; refine (HT.out _).mono ?_; rintro e w1 ⟨rfl, hk1⟩; go_wp2_with fail; refine (HPL.out _).mono ?_; rintro e w2 ⟨rfl, hk2⟩; have bx2 : Box w2 w.heap.size 142 #[.int .u64 0, .int .u64 (V k)] := Box.kept hk2 (Box.kept hk1 bxd); clear bx_0 bx_1 bx_f bx_g; have bx2_0 := Box.c0 bx2; have bx2_1 := Box.c1 bx2; have bx2_f := Box.loose bx2 0; have bx2_g := Box.loose bx2 1; go_wp2_with fail
            go_roundw
            case rel => exact ⟨k + 1, by omega, by omega, by go_num, kpt, NB.out, bxd⟩
            case measure => (simp [intOf]; try omega)
          · have D3 := Lib.hid (VZ.out k (by omega) kp c)
            have SP := cL (v := V k) (d := 0) (u := V (k + 1)) (by omega) (by omega) (by have := D3.out; omega); have T := fun w => cx (V k) 10 w ⟨by omega, by omega⟩ ⟨by omega, by omega⟩; have PL := fun w => bE (aF ((V k : Int) * 10)) (aK ((V k : Int) * 10)) 0 ((0 : Nat) : Int) w (aQ _) (aO _) ⟨by omega, by omega⟩ ⟨by omega, by omega⟩; rw [SP.1, SP.2] at PL; rw [show (((0 : Nat)) : Int) = 0 from rfl] at PL; have HT := Lib.hid T; have HPL := Lib.hid PL; have NB : Hid (V (k + 1) ≤ 92233720368547758079) := by show _ ≤ _; rw [D3.out]; omega
            clear SP T PL; have bx_0 := Box.c0 bx; have bx_1 := Box.c1 bx; have bx_f := Box.loose bx 0; have bx_g := Box.loose bx 1; go_wp2_with fail; refine (HT.out _).mono ?_; rintro e w1 ⟨rfl, hk1⟩; go_wp2_with fail; refine (HPL.out _).mono ?_; rintro e w2 ⟨rfl, hk2⟩; have bx2 : Box w2 w.heap.size 142 #[.int .u64 0, .int .u64 (V k)] := Box.kept hk2 (Box.kept hk1 bxd); clear bx_0 bx_1 bx_f bx_g; have bx2_0 := Box.c0 bx2; have bx2_1 := Box.c1 bx2; have bx2_f := Box.loose bx2 0; have bx2_g := Box.loose bx2 1; go_wp2_with fail
            go_roundw
            case rel => exact ⟨k + 1, by omega, by omega, by go_num, kpt, NB.out, bxd⟩
            case measure => (simp [intOf]; try omega)
    · obtain rfl : k = P + 5 := by omega
      clear VD VZ VP V0 VM; generalize V (P + 5) = v at *
      by_cases g : (v : Int) ≤ 9223372036854775807
      · have E2 : Hid (R = (sg false ((v : Int)), 0)) := by rw [E.out, if_pos g]; rfl
        have Sg := fun w => bm (aF ((v : Int))) (aK ((v : Int))) false w (aQ _) (aO _); rw [cV (by omega) (by omega), dF (by unfold sg; split <;> omega) (by unfold sg; split <;> omega)] at Sg; have HS := Lib.hid Sg; clear Sg g; have bx_0 := Box.c0 bx; have bx_1 := Box.c1 bx; have bx_f := Box.loose bx 0; have bx_g := Box.loose bx 1; go_wp2_with fail; refine (HS.out _).mono ?_; rintro e w3 ⟨rfl, hk3⟩; go_wp2_with fail; go_ret2; exact ⟨av (by rw [E2.out]) (by rw [E2.out]), kpt⟩
      · have E2 : Hid (R = (0, 3)) := by rw [E.out, if_neg g]; rfl
        have Sg := fun w => bm (aF ((v : Int))) (aK ((v : Int))) false w (aQ _) (aO _); rw [cV (by omega) (by omega), dB (by unfold sg; simp; omega)] at Sg; have HS := Lib.hid Sg; clear Sg g; have bx_0 := Box.c0 bx; have bx_1 := Box.c1 bx; have bx_f := Box.loose bx 0; have bx_g := Box.loose bx 1; go_wp2_with fail; refine (HS.out _).mono ?_; rintro e w3 ⟨rfl, hk3⟩; go_wp2_with fail; go_ret2; exact ⟨av (by rw [E2.out]) (by rw [E2.out]), kpt⟩
theorem ir (l : List UInt8) (P : Nat) (V : Nat → Nat) (R : Int × Int) (w : World) (hs : l.length ≤ 2001) (hl0 : 0 < l.length) (hP : 0 ≤ P)
    (hb : ∀ h, ((((ByteArray.mk l.toArray)[0]'h).toNat : Int) == 45) = false)
    (HD : Hid (∀ w, Calls Tryz.prog 123 #[.string ⟨l.toArray⟩, .int .i64 0] w fun e w' => e = .returned (.int .i64 (P : Int)) ∧ w = w'))
    (x1 : ((P : Int) == 0) = false) (hPl : P < l.length) (c0 : ∀ h, ((((ByteArray.mk l.toArray)[P]'h).toNat : Int) == 46) = true) (en : ((l.length : Int) == (P : Int) + 1) = false)
    (HD2 : Hid (∀ w, Calls Tryz.prog 123 #[.string ⟨l.toArray⟩, .int .i64 ((P : Int) + 1)] w fun e w' => e = .returned (.int .i64 (l.length : Int)) ∧ w = w')) (h5 : P + 5 < l.length) (f : Nat) (q5 : ∀ h, (((ByteArray.mk l.toArray)[P + 5]'h).toNat : Int) = f) (f5 : f < 53)
    (VD : Hid (∀ k (h : k < l.length), 0 ≤ k → k ≠ P → k < P + 5 → 48 ≤ l[k].toNat ∧ l[k].toNat ≤ 57 ∧ V (k + 1) = 10 * V k + (l[k].toNat - 48)))
    (VZ : Hid (∀ k, l.length ≤ k → k ≠ P → k < P + 5 → V (k + 1) = 10 * V k)) (VP : Hid (V (P + 1) = V P)) (V0 : Hid (V 0 = 0)) (VM : Hid (∀ k, k ≤ P + 5 → V k ≤ V (P + 5)))
    (E : Hid (R = if (V (P + 5) : Int) ≤ 9223372036854775807 then (sg false ((V (P + 5) : Int)), 0) else (0, 3))) :
    Calls Tryz.prog 90 #[.string ⟨l.toArray⟩] w fun e w' => e = .returned (.tuple #[.int .i64 R.1, .int .i64 R.2]) ∧ Kept w w' := by
  have X := am; have Z := af; have pm : (P : Int) ≤ 2001 := by omega
  have pl : (P : Int) < (l.length : Int) := by omega
  go_enter Tryz.func90, Tryz.ntmps90; go_wp2_with fail; refine (HD.out _).mono ?_; rintro e w' ⟨rfl, rfl⟩; go_wp2_with fail; refine (HD2.out _).mono ?_; rintro e w' ⟨rfl, rfl⟩; go_wp2_with fail
  go_loopw [8] (fun i wr => ∃ k : Nat, 0 ≤ k ∧ k ≤ P + 5 ∧ i = .int .i64 k ∧ Kept w wr ∧ V k ≤ 92233720368547758079 ∧ Box wr w.heap.size 142 #[.int .u64 (aF (V k)), .int .u64 (aK (V k))]) (fun i _ => P + 5 - (intOf i).toNat)
  case atStart => exact ⟨0, by omega, by omega, rfl, kpt, by rw [V0.out]; omega, by rw [V0.out, show aF ((0 : Nat) : Int) = 0 from rfl, show aK ((0 : Nat) : Int) = 0 from rfl]; exact bxd⟩
  case round =>
    obtain ⟨k, k1, k2, rfl, hk, vb, bx⟩ := hrel
    by_cases c : k < P + 5
    · by_cases g : 9223372036854775807 < V k
      · have E2 : Hid (R = (0, 3)) := by have := VM.out k (by omega); rw [E.out, if_neg (by omega)]; rfl
        have bx_0 := Box.c0 bx; have bx_1 := Box.c1 bx; have bx_f := Box.loose bx 0; have bx_g := Box.loose bx 1
        by_cases g2 : aF (V k) = 0
        · have l2 : aK (V k) = V k := by unfold aF at g2; unfold aK; omega
          rw [l2] at bx_1; rw [g2] at bx_0; clear l2 g2 bx
          by_cases kp : k = P
          · subst kp
            have kq : ((k : Int) != (k : Int)) = false := by simp
            go_wp2_with fail; go_ret2; exact ⟨av (by rw [E2.out]) (by rw [E2.out]), kpt⟩
          · have kq : ((k : Int) != (P : Int)) = true := by simp; omega
            by_cases kl : k < l.length
            · have D := VD.out k kl (by omega) kp c
              obtain ⟨d1, d2, d3⟩ := D; have D3 := Lib.hid d3; have ge : (ByteArray.mk l.toArray)[k] = l[k] := rfl; obtain ⟨d, hd⟩ : ∃ d : Nat, d = l[k].toNat := ⟨_, rfl⟩; rw [← hd] at d1 d2 D3; have hd2 : ∀ h, (((ByteArray.mk l.toArray)[k]'h).toNat : Int) = d := fun h => by rw [hd]; rfl
              clear d3 hd ge; go_wp2_with fail; go_ret2; exact ⟨av (by rw [E2.out]) (by rw [E2.out]), kpt⟩
            · omega
        · have g3 : (aF (V k) != 0) = true := by rw [bne_iff_ne]; exact g2
          clear bx
          by_cases kp : k = P
          · subst kp
            have kq : ((k : Int) != (k : Int)) = false := by simp
            go_wp2_with fail; go_ret2; exact ⟨av (by rw [E2.out]) (by rw [E2.out]), kpt⟩
          · have kq : ((k : Int) != (P : Int)) = true := by simp; omega
            by_cases kl : k < l.length
            · have D := VD.out k kl (by omega) kp c
              obtain ⟨d1, d2, d3⟩ := D; have D3 := Lib.hid d3; have ge : (ByteArray.mk l.toArray)[k] = l[k] := rfl; obtain ⟨d, hd⟩ : ∃ d : Nat, d = l[k].toNat := ⟨_, rfl⟩; rw [← hd] at d1 d2 D3; have hd2 : ∀ h, (((ByteArray.mk l.toArray)[k]'h).toNat : Int) = d := fun h => by rw [hd]; rfl
              clear d3 hd ge; go_wp2_with fail; go_ret2; exact ⟨av (by rw [E2.out]) (by rw [E2.out]), kpt⟩
            · omega
      · have h1 : aF (V k) = 0 := by unfold aF; omega
        have h2 : aK (V k) = V k := by unfold aK; omega
        have HH := Lib.hid (And.intro h1 h2); rw [h1, h2] at bx; clear h1 h2
        by_cases kp : k = P
        · subst kp
          have kq : ((k : Int) != (k : Int)) = false := by simp
          have bx_0 := Box.c0 bx; have bx_1 := Box.c1 bx; have bx_f := Box.loose bx 0; have bx_g := Box.loose bx 1; go_wp2_with fail
          go_roundw
          case rel => exact ⟨k + 1, by omega, by omega, by go_num, kpt, by rw [VP.out]; omega, by rw [VP.out, HH.out.1, HH.out.2]; exact bx⟩
          case measure => (simp [intOf]; try omega)
        · have kq : ((k : Int) != (P : Int)) = true := by simp; omega
          by_cases kl : k < l.length
          · have D := VD.out k kl (by omega) kp c
            obtain ⟨d1, d2, d3⟩ := D; have D3 := Lib.hid d3; have ge : (ByteArray.mk l.toArray)[k] = l[k] := rfl; obtain ⟨d, hd⟩ : ∃ d : Nat, d = l[k].toNat := ⟨_, rfl⟩; rw [← hd] at d1 d2 D3; have hd2 : ∀ h, (((ByteArray.mk l.toArray)[k]'h).toNat : Int) = d := fun h => by rw [hd]; rfl
            clear d3 hd ge; have SP := cL (v := V k) (d := (d - 48)) (u := V (k + 1)) (by omega) (by omega) (by have := D3.out; omega); have T := fun w => cx (V k) 10 w ⟨by omega, by omega⟩ ⟨by omega, by omega⟩; have PL := fun w => bE (aF ((V k : Int) * 10)) (aK ((V k : Int) * 10)) 0 (((d - 48) : Nat) : Int) w (aQ _) (aO _) ⟨by omega, by omega⟩ ⟨by omega, by omega⟩; rw [SP.1, SP.2] at PL; rw [show (((d - 48 : Nat)) : Int) = (d : Int) - 48 by omega] at PL; have HT := Lib.hid T; have HPL := Lib.hid PL; have NB : Hid (V (k + 1) ≤ 92233720368547758079) := by show _ ≤ _; rw [D3.out]; omega
            clear SP T PL; have bx_0 := Box.c0 bx; have bx_1 := Box.c1 bx; have bx_f := Box.loose bx 0; have bx_g := Box.loose bx 1; go_wp2_with fail; refine (HT.out _).mono ?_; rintro e w1 ⟨rfl, hk1⟩; go_wp2_with fail; refine (HPL.out _).mono ?_; rintro e w2 ⟨rfl, hk2⟩; have bx2 : Box w2 w.heap.size 142 #[.int .u64 0, .int .u64 (V k)] := Box.kept hk2 (Box.kept hk1 bxd); clear bx_0 bx_1 bx_f bx_g; have bx2_0 := Box.c0 bx2; have bx2_1 := Box.c1 bx2; have bx2_f := Box.loose bx2 0; have bx2_g := Box.loose bx2 1; go_wp2_with fail
            go_roundw
            case rel => exact ⟨k + 1, by omega, by omega, by go_num, kpt, NB.out, bxd⟩
            case measure => (simp [intOf]; try omega)
          · omega
    · obtain rfl : k = P + 5 := by omega
      clear VD VZ VP V0 VM; generalize V (P + 5) = v at *
      by_cases g : (v : Int) ≤ 9223372036854775807
      · have E2 : Hid (R = (sg false ((v : Int)), 0)) := by rw [E.out, if_pos g]; rfl
        have Sg := fun w => bm (aF ((v : Int))) (aK ((v : Int))) false w (aQ _) (aO _); rw [cV (by omega) (by omega), dF (by unfold sg; split <;> omega) (by unfold sg; split <;> omega)] at Sg; have HS := Lib.hid Sg; clear Sg g; have bx_0 := Box.c0 bx; have bx_1 := Box.c1 bx; have bx_f := Box.loose bx 0; have bx_g := Box.loose bx 1; go_wp2_with fail; refine (HS.out _).mono ?_; rintro e w3 ⟨rfl, hk3⟩; go_wp2_with fail; go_ret2; exact ⟨av (by rw [E2.out]) (by rw [E2.out]), kpt⟩
      · have E2 : Hid (R = (0, 3)) := by rw [E.out, if_neg g]; rfl
        have Sg := fun w => bm (aF ((v : Int))) (aK ((v : Int))) false w (aQ _) (aO _); rw [cV (by omega) (by omega), dB (by unfold sg; simp; omega)] at Sg; have HS := Lib.hid Sg; clear Sg g; have bx_0 := Box.c0 bx; have bx_1 := Box.c1 bx; have bx_f := Box.loose bx 0; have bx_g := Box.loose bx 1; go_wp2_with fail; refine (HS.out _).mono ?_; rintro e w3 ⟨rfl, hk3⟩; go_wp2_with fail; go_ret2; exact ⟨av (by rw [E2.out]) (by rw [E2.out]), kpt⟩
theorem iI (l : List UInt8) (P : Nat) (V : Nat → Nat) (R : Int × Int) (w : World) (hs : l.length ≤ 2001) (hl0 : 0 < l.length) (hP : 0 ≤ P)
    (hb : ∀ h, ((((ByteArray.mk l.toArray)[0]'h).toNat : Int) == 45) = false)
    (HD : Hid (∀ w, Calls Tryz.prog 123 #[.string ⟨l.toArray⟩, .int .i64 0] w fun e w' => e = .returned (.int .i64 (P : Int)) ∧ w = w'))
    (x1 : ((P : Int) == 0) = false) (hPl : P < l.length) (c0 : ∀ h, ((((ByteArray.mk l.toArray)[P]'h).toNat : Int) == 46) = true) (en : ((l.length : Int) == (P : Int) + 1) = false)
    (HD2 : Hid (∀ w, Calls Tryz.prog 123 #[.string ⟨l.toArray⟩, .int .i64 ((P : Int) + 1)] w fun e w' => e = .returned (.int .i64 (l.length : Int)) ∧ w = w')) (h5 : P + 5 < l.length) (f : Nat) (q5 : ∀ h, (((ByteArray.mk l.toArray)[P + 5]'h).toNat : Int) = f) (f5 : 53 ≤ f)
    (VD : Hid (∀ k (h : k < l.length), 0 ≤ k → k ≠ P → k < P + 5 → 48 ≤ l[k].toNat ∧ l[k].toNat ≤ 57 ∧ V (k + 1) = 10 * V k + (l[k].toNat - 48)))
    (VZ : Hid (∀ k, l.length ≤ k → k ≠ P → k < P + 5 → V (k + 1) = 10 * V k)) (VP : Hid (V (P + 1) = V P)) (V0 : Hid (V 0 = 0)) (VM : Hid (∀ k, k ≤ P + 5 → V k ≤ V (P + 5)))
    (E : Hid (R = if (V (P + 5) : Int) + 1 ≤ 9223372036854775807 then (sg false ((V (P + 5) : Int) + 1), 0) else (0, 3))) :
    Calls Tryz.prog 90 #[.string ⟨l.toArray⟩] w fun e w' => e = .returned (.tuple #[.int .i64 R.1, .int .i64 R.2]) ∧ Kept w w' := by
  have X := am; have Z := af; have pm : (P : Int) ≤ 2001 := by omega
  have pl : (P : Int) < (l.length : Int) := by omega
  go_enter Tryz.func90, Tryz.ntmps90; go_wp2_with fail; refine (HD.out _).mono ?_; rintro e w' ⟨rfl, rfl⟩; go_wp2_with fail; refine (HD2.out _).mono ?_; rintro e w' ⟨rfl, rfl⟩; go_wp2_with fail
  go_loopw [8] (fun i wr => ∃ k : Nat, 0 ≤ k ∧ k ≤ P + 5 ∧ i = .int .i64 k ∧ Kept w wr ∧ V k ≤ 92233720368547758079 ∧ Box wr w.heap.size 142 #[.int .u64 (aF (V k)), .int .u64 (aK (V k))]) (fun i _ => P + 5 - (intOf i).toNat)
  case atStart => exact ⟨0, by omega, by omega, rfl, kpt, by rw [V0.out]; omega, by rw [V0.out, show aF ((0 : Nat) : Int) = 0 from rfl, show aK ((0 : Nat) : Int) = 0 from rfl]; exact bxd⟩
  case round =>
    obtain ⟨k, k1, k2, rfl, hk, vb, bx⟩ := hrel
    by_cases c : k < P + 5
    · by_cases g : 9223372036854775807 < V k
      · have E2 : Hid (R = (0, 3)) := by have := VM.out k (by omega); rw [E.out, if_neg (by omega)]; rfl
        have bx_0 := Box.c0 bx; have bx_1 := Box.c1 bx; have bx_f := Box.loose bx 0; have bx_g := Box.loose bx 1
        by_cases g2 : aF (V k) = 0
        · have l2 : aK (V k) = V k := by unfold aF at g2; unfold aK; omega
          rw [l2] at bx_1; rw [g2] at bx_0; clear l2 g2 bx
          by_cases kp : k = P
          · subst kp
            have kq : ((k : Int) != (k : Int)) = false := by simp
            go_wp2_with fail; go_ret2; exact ⟨av (by rw [E2.out]) (by rw [E2.out]), kpt⟩
          · have kq : ((k : Int) != (P : Int)) = true := by simp; omega
            by_cases kl : k < l.length
            · have D := VD.out k kl (by omega) kp c
              obtain ⟨d1, d2, d3⟩ := D; have D3 := Lib.hid d3; have ge : (ByteArray.mk l.toArray)[k] = l[k] := rfl; obtain ⟨d, hd⟩ : ∃ d : Nat, d = l[k].toNat := ⟨_, rfl⟩; rw [← hd] at d1 d2 D3; have hd2 : ∀ h, (((ByteArray.mk l.toArray)[k]'h).toNat : Int) = d := fun h => by rw [hd]; rfl
              clear d3 hd ge; go_wp2_with fail; go_ret2; exact ⟨av (by rw [E2.out]) (by rw [E2.out]), kpt⟩
            · omega
        · have g3 : (aF (V k) != 0) = true := by rw [bne_iff_ne]; exact g2
          clear bx
          by_cases kp : k = P
          · subst kp
            have kq : ((k : Int) != (k : Int)) = false := by simp
            go_wp2_with fail; go_ret2; exact ⟨av (by rw [E2.out]) (by rw [E2.out]), kpt⟩
          · have kq : ((k : Int) != (P : Int)) = true := by simp; omega
            by_cases kl : k < l.length
            · have D := VD.out k kl (by omega) kp c
              obtain ⟨d1, d2, d3⟩ := D; have D3 := Lib.hid d3; have ge : (ByteArray.mk l.toArray)[k] = l[k] := rfl; obtain ⟨d, hd⟩ : ∃ d : Nat, d = l[k].toNat := ⟨_, rfl⟩; rw [← hd] at d1 d2 D3; have hd2 : ∀ h, (((ByteArray.mk l.toArray)[k]'h).toNat : Int) = d := fun h => by rw [hd]; rfl
              clear d3 hd ge; go_wp2_with fail; go_ret2; exact ⟨av (by rw [E2.out]) (by rw [E2.out]), kpt⟩
            · omega
      · have h1 : aF (V k) = 0 := by unfold aF; omega
        have h2 : aK (V k) = V k := by unfold aK; omega
        have HH := Lib.hid (And.intro h1 h2); rw [h1, h2] at bx; clear h1 h2
        by_cases kp : k = P
        · subst kp
          have kq : ((k : Int) != (k : Int)) = false := by simp
          have bx_0 := Box.c0 bx; have bx_1 := Box.c1 bx; have bx_f := Box.loose bx 0; have bx_g := Box.loose bx 1; go_wp2_with fail
          go_roundw
          case rel => exact ⟨k + 1, by omega, by omega, by go_num, kpt, by rw [VP.out]; omega, by rw [VP.out, HH.out.1, HH.out.2]; exact bx⟩
          case measure => (simp [intOf]; try omega)
        · have kq : ((k : Int) != (P : Int)) = true := by simp; omega
          by_cases kl : k < l.length
          · have D := VD.out k kl (by omega) kp c
            obtain ⟨d1, d2, d3⟩ := D; have D3 := Lib.hid d3; have ge : (ByteArray.mk l.toArray)[k] = l[k] := rfl; obtain ⟨d, hd⟩ : ∃ d : Nat, d = l[k].toNat := ⟨_, rfl⟩; rw [← hd] at d1 d2 D3; have hd2 : ∀ h, (((ByteArray.mk l.toArray)[k]'h).toNat : Int) = d := fun h => by rw [hd]; rfl
            clear d3 hd ge; have SP := cL (v := V k) (d := (d - 48)) (u := V (k + 1)) (by omega) (by omega) (by have := D3.out; omega); have T := fun w => cx (V k) 10 w ⟨by omega, by omega⟩ ⟨by omega, by omega⟩; have PL := fun w => bE (aF ((V k : Int) * 10)) (aK ((V k : Int) * 10)) 0 (((d - 48) : Nat) : Int) w (aQ _) (aO _) ⟨by omega, by omega⟩ ⟨by omega, by omega⟩; rw [SP.1, SP.2] at PL; rw [show (((d - 48 : Nat)) : Int) = (d : Int) - 48 by omega] at PL; have HT := Lib.hid T; have HPL := Lib.hid PL; have NB : Hid (V (k + 1) ≤ 92233720368547758079) := by show _ ≤ _; rw [D3.out]; omega
            clear SP T PL; have bx_0 := Box.c0 bx; have bx_1 := Box.c1 bx; have bx_f := Box.loose bx 0; have bx_g := Box.loose bx 1; go_wp2_with fail; refine (HT.out _).mono ?_; rintro e w1 ⟨rfl, hk1⟩; go_wp2_with fail; refine (HPL.out _).mono ?_; rintro e w2 ⟨rfl, hk2⟩; have bx2 : Box w2 w.heap.size 142 #[.int .u64 0, .int .u64 (V k)] := Box.kept hk2 (Box.kept hk1 bxd); clear bx_0 bx_1 bx_f bx_g; have bx2_0 := Box.c0 bx2; have bx2_1 := Box.c1 bx2; have bx2_f := Box.loose bx2 0; have bx2_g := Box.loose bx2 1; go_wp2_with fail
            go_roundw
            case rel => exact ⟨k + 1, by omega, by omega, by go_num, kpt, NB.out, bxd⟩
            case measure => (simp [intOf]; try omega)
          · omega
    · obtain rfl : k = P + 5 := by omega
      clear VD VZ VP V0 VM; generalize V (P + 5) = v at *; have PL := fun w => bE (aF (v : Int)) (aK (v : Int)) 0 1 w (aQ _) (aO _) ⟨by omega, by omega⟩ ⟨by omega, by omega⟩; rw [cV (by omega) (by omega), show wd 0 1 = 1 by rfl] at PL; have HPL := Lib.hid PL; clear PL
      by_cases g : (v : Int) + 1 ≤ 9223372036854775807
      · have E2 : Hid (R = (sg false ((v : Int) + 1), 0)) := by rw [E.out, if_pos g]; rfl
        have Sg := fun w => bm (aF ((v : Int) + 1)) (aK ((v : Int) + 1)) false w (aQ _) (aO _); rw [cV (by omega) (by omega), dF (by unfold sg; split <;> omega) (by unfold sg; split <;> omega)] at Sg; have HS := Lib.hid Sg; clear Sg g; have bx_0 := Box.c0 bx; have bx_1 := Box.c1 bx; have bx_f := Box.loose bx 0; have bx_g := Box.loose bx 1; go_wp2_with fail; refine (HPL.out _).mono ?_; rintro e w2 ⟨rfl, hk2⟩; have bx2 : Box w2 w.heap.size 142 #[.int .u64 (aF (v : Int)), .int .u64 (aK (v : Int))] := Box.kept hk2 bxd; clear bx_0 bx_1 bx_f bx_g; have bx2_0 := Box.c0 bx2; have bx2_1 := Box.c1 bx2; have bx2_f := Box.loose bx2 0; have bx2_g := Box.loose bx2 1; go_wp2_with fail; refine (HS.out _).mono ?_; rintro e w3 ⟨rfl, hk3⟩; go_wp2_with fail; go_ret2; exact ⟨av (by rw [E2.out]) (by rw [E2.out]), kpt⟩
      · have E2 : Hid (R = (0, 3)) := by rw [E.out, if_neg g]; rfl
        have Sg := fun w => bm (aF ((v : Int) + 1)) (aK ((v : Int) + 1)) false w (aQ _) (aO _); rw [cV (by omega) (by omega), dB (by unfold sg; simp; omega)] at Sg; have HS := Lib.hid Sg; clear Sg g; have bx_0 := Box.c0 bx; have bx_1 := Box.c1 bx; have bx_f := Box.loose bx 0; have bx_g := Box.loose bx 1; go_wp2_with fail; refine (HPL.out _).mono ?_; rintro e w2 ⟨rfl, hk2⟩; have bx2 : Box w2 w.heap.size 142 #[.int .u64 (aF (v : Int)), .int .u64 (aK (v : Int))] := Box.kept hk2 bxd; clear bx_0 bx_1 bx_f bx_g; have bx2_0 := Box.c0 bx2; have bx2_1 := Box.c1 bx2; have bx2_f := Box.loose bx2 0; have bx2_g := Box.loose bx2 1; go_wp2_with fail; refine (HS.out _).mono ?_; rintro e w3 ⟨rfl, hk3⟩; go_wp2_with fail; go_ret2; exact ⟨av (by rw [E2.out]) (by rw [E2.out]), kpt⟩
end
section
open Go.RowKit Lv
theorem iJ (l : List UInt8) (P : Nat) (w : World) (hs : l.length ≤ 2001) (hl0 : 0 < l.length) (hP : 1 ≤ P)
    (hb : ∀ h, ((((ByteArray.mk l.toArray)[0]'h).toNat : Int) == 45) = true)
    (HD : Hid (∀ w, Calls Tryz.prog 123 #[.string ⟨l.toArray⟩, .int .i64 1] w fun e w' => e = .returned (.int .i64 (P : Int)) ∧ w = w'))
    (x1 : ((P : Int) == 1) = true) (hPl : P = l.length) :
    Calls Tryz.prog 90 #[.string ⟨l.toArray⟩] w fun e w' => e = .returned (.tuple #[.int .i64 0, .int .i64 4]) ∧ Kept w w' := by
  have X := am; have Z := af; have pm : (P : Int) ≤ 2001 := by omega
  have pl : ¬ (P : Int) < (l.length : Int) := by omega
  have HPl := Lib.hid hPl; clear hPl; go_enter Tryz.func90, Tryz.ntmps90; go_wp2_with fail; refine (HD.out _).mono ?_; rintro e w' ⟨rfl, rfl⟩; go_wp2_with fail; go_ret2; exact ⟨rfl, kpt⟩
theorem iK (l : List UInt8) (P : Nat) (w : World) (hs : l.length ≤ 2001) (hl0 : 0 < l.length) (hP : 1 ≤ P)
    (hb : ∀ h, ((((ByteArray.mk l.toArray)[0]'h).toNat : Int) == 45) = true)
    (HD : Hid (∀ w, Calls Tryz.prog 123 #[.string ⟨l.toArray⟩, .int .i64 1] w fun e w' => e = .returned (.int .i64 (P : Int)) ∧ w = w'))
    (x1 : ((P : Int) == 1) = true) (hPl : P < l.length) (c0 : ∀ h, ((((ByteArray.mk l.toArray)[P]'h).toNat : Int) == 46) = false) :
    Calls Tryz.prog 90 #[.string ⟨l.toArray⟩] w fun e w' => e = .returned (.tuple #[.int .i64 0, .int .i64 4]) ∧ Kept w w' := by
  have X := am; have Z := af; have pm : (P : Int) ≤ 2001 := by omega
  have pl : (P : Int) < (l.length : Int) := by omega
  have x2 : ((P : Int) != (l.length : Int)) = true := by simp; omega
  go_enter Tryz.func90, Tryz.ntmps90; go_wp2_with fail; refine (HD.out _).mono ?_; rintro e w' ⟨rfl, rfl⟩; go_wp2_with fail; go_ret2; exact ⟨rfl, kpt⟩
theorem iL (l : List UInt8) (P : Nat) (w : World) (hs : l.length ≤ 2001) (hl0 : 0 < l.length) (hP : 1 ≤ P)
    (hb : ∀ h, ((((ByteArray.mk l.toArray)[0]'h).toNat : Int) == 45) = true)
    (HD : Hid (∀ w, Calls Tryz.prog 123 #[.string ⟨l.toArray⟩, .int .i64 1] w fun e w' => e = .returned (.int .i64 (P : Int)) ∧ w = w'))
    (x1 : ((P : Int) == 1) = false) (hPl : P < l.length) (c0 : ∀ h, ((((ByteArray.mk l.toArray)[P]'h).toNat : Int) == 46) = false) :
    Calls Tryz.prog 90 #[.string ⟨l.toArray⟩] w fun e w' => e = .returned (.tuple #[.int .i64 0, .int .i64 4]) ∧ Kept w w' := by
  have X := am; have Z := af; have pm : (P : Int) ≤ 2001 := by omega
  have pl : (P : Int) < (l.length : Int) := by omega
  have x2 : ((P : Int) != (l.length : Int)) = true := by simp; omega
  go_enter Tryz.func90, Tryz.ntmps90; go_wp2_with fail; refine (HD.out _).mono ?_; rintro e w' ⟨rfl, rfl⟩; go_wp2_with fail; go_ret2; exact ⟨rfl, kpt⟩
theorem jV (l : List UInt8) (P : Nat) (w : World) (hs : l.length ≤ 2001) (hl0 : 0 < l.length) (hP : 1 ≤ P)
    (hb : ∀ h, ((((ByteArray.mk l.toArray)[0]'h).toNat : Int) == 45) = true)
    (HD : Hid (∀ w, Calls Tryz.prog 123 #[.string ⟨l.toArray⟩, .int .i64 1] w fun e w' => e = .returned (.int .i64 (P : Int)) ∧ w = w'))
    (x1 : ((P : Int) == 1) = true) (hPl : P < l.length) (c0 : ∀ h, ((((ByteArray.mk l.toArray)[P]'h).toNat : Int) == 46) = true) (E : Nat)
    (HD2 : Hid (∀ w, Calls Tryz.prog 123 #[.string ⟨l.toArray⟩, .int .i64 ((P : Int) + 1)] w fun e w' => e = .returned (.int .i64 (E : Int)) ∧ w = w')) :
    Calls Tryz.prog 90 #[.string ⟨l.toArray⟩] w fun e w' => e = .returned (.tuple #[.int .i64 0, .int .i64 4]) ∧ Kept w w' := by
  have X := am; have Z := af; have pm : (P : Int) ≤ 2001 := by omega
  have pl : (P : Int) < (l.length : Int) := by omega
  go_enter Tryz.func90, Tryz.ntmps90; go_wp2_with fail; refine (HD.out _).mono ?_; rintro e w' ⟨rfl, rfl⟩; go_wp2_with fail; refine (HD2.out _).mono ?_; rintro e w' ⟨rfl, rfl⟩; go_wp2_with fail; go_ret2; exact ⟨rfl, kpt⟩
theorem jW (l : List UInt8) (P : Nat) (w : World) (hs : l.length ≤ 2001) (hl0 : 0 < l.length) (hP : 1 ≤ P)
    (hb : ∀ h, ((((ByteArray.mk l.toArray)[0]'h).toNat : Int) == 45) = true)
    (HD : Hid (∀ w, Calls Tryz.prog 123 #[.string ⟨l.toArray⟩, .int .i64 1] w fun e w' => e = .returned (.int .i64 (P : Int)) ∧ w = w'))
    (x1 : ((P : Int) == 1) = false) (hPl : P < l.length) (c0 : ∀ h, ((((ByteArray.mk l.toArray)[P]'h).toNat : Int) == 46) = true) (E : Nat)
    (HD2 : Hid (∀ w, Calls Tryz.prog 123 #[.string ⟨l.toArray⟩, .int .i64 ((P : Int) + 1)] w fun e w' => e = .returned (.int .i64 (E : Int)) ∧ w = w')) (x2 : ((E : Int) != (l.length : Int)) = true) :
    Calls Tryz.prog 90 #[.string ⟨l.toArray⟩] w fun e w' => e = .returned (.tuple #[.int .i64 0, .int .i64 4]) ∧ Kept w w' := by
  have X := am; have Z := af; have pm : (P : Int) ≤ 2001 := by omega
  have pl : (P : Int) < (l.length : Int) := by omega
  go_enter Tryz.func90, Tryz.ntmps90; go_wp2_with fail; refine (HD.out _).mono ?_; rintro e w' ⟨rfl, rfl⟩; go_wp2_with fail; refine (HD2.out _).mono ?_; rintro e w' ⟨rfl, rfl⟩; go_wp2_with fail; go_ret2; exact ⟨rfl, kpt⟩
theorem jX (l : List UInt8) (P : Nat) (w : World) (hs : l.length ≤ 2001) (hl0 : 0 < l.length) (hP : 1 ≤ P)
    (hb : ∀ h, ((((ByteArray.mk l.toArray)[0]'h).toNat : Int) == 45) = true)
    (HD : Hid (∀ w, Calls Tryz.prog 123 #[.string ⟨l.toArray⟩, .int .i64 1] w fun e w' => e = .returned (.int .i64 (P : Int)) ∧ w = w'))
    (x1 : ((P : Int) == 1) = false) (hPl : P < l.length) (c0 : ∀ h, ((((ByteArray.mk l.toArray)[P]'h).toNat : Int) == 46) = true)
    (HD2 : Hid (∀ w, Calls Tryz.prog 123 #[.string ⟨l.toArray⟩, .int .i64 ((P : Int) + 1)] w fun e w' => e = .returned (.int .i64 (l.length : Int)) ∧ w = w')) (x3 : ((l.length : Int) == (P : Int) + 1) = true) :
    Calls Tryz.prog 90 #[.string ⟨l.toArray⟩] w fun e w' => e = .returned (.tuple #[.int .i64 0, .int .i64 4]) ∧ Kept w w' := by
  have X := am; have Z := af; have pm : (P : Int) ≤ 2001 := by omega
  have pl : (P : Int) < (l.length : Int) := by omega
  go_enter Tryz.func90, Tryz.ntmps90; go_wp2_with fail; refine (HD.out _).mono ?_; rintro e w' ⟨rfl, rfl⟩; go_wp2_with fail; refine (HD2.out _).mono ?_; rintro e w' ⟨rfl, rfl⟩; go_wp2_with fail; go_ret2; exact ⟨rfl, kpt⟩
theorem iM (l : List UInt8) (P : Nat) (w : World) (hs : l.length ≤ 2001) (hl0 : 0 < l.length) (hP : 0 ≤ P)
    (hb : ∀ h, ((((ByteArray.mk l.toArray)[0]'h).toNat : Int) == 45) = false)
    (HD : Hid (∀ w, Calls Tryz.prog 123 #[.string ⟨l.toArray⟩, .int .i64 0] w fun e w' => e = .returned (.int .i64 (P : Int)) ∧ w = w'))
    (x1 : ((P : Int) == 0) = true) (hPl : P = l.length) :
    Calls Tryz.prog 90 #[.string ⟨l.toArray⟩] w fun e w' => e = .returned (.tuple #[.int .i64 0, .int .i64 4]) ∧ Kept w w' := by
  have X := am; have Z := af; have pm : (P : Int) ≤ 2001 := by omega
  have pl : ¬ (P : Int) < (l.length : Int) := by omega
  have HPl := Lib.hid hPl; clear hPl; go_enter Tryz.func90, Tryz.ntmps90; go_wp2_with fail; refine (HD.out _).mono ?_; rintro e w' ⟨rfl, rfl⟩; go_wp2_with fail; go_ret2; exact ⟨rfl, kpt⟩
theorem iO (l : List UInt8) (P : Nat) (w : World) (hs : l.length ≤ 2001) (hl0 : 0 < l.length) (hP : 0 ≤ P)
    (hb : ∀ h, ((((ByteArray.mk l.toArray)[0]'h).toNat : Int) == 45) = false)
    (HD : Hid (∀ w, Calls Tryz.prog 123 #[.string ⟨l.toArray⟩, .int .i64 0] w fun e w' => e = .returned (.int .i64 (P : Int)) ∧ w = w'))
    (x1 : ((P : Int) == 0) = true) (hPl : P < l.length) (c0 : ∀ h, ((((ByteArray.mk l.toArray)[P]'h).toNat : Int) == 46) = false) :
    Calls Tryz.prog 90 #[.string ⟨l.toArray⟩] w fun e w' => e = .returned (.tuple #[.int .i64 0, .int .i64 4]) ∧ Kept w w' := by
  have X := am; have Z := af; have pm : (P : Int) ≤ 2001 := by omega
  have pl : (P : Int) < (l.length : Int) := by omega
  have x2 : ((P : Int) != (l.length : Int)) = true := by simp; omega
  go_enter Tryz.func90, Tryz.ntmps90; go_wp2_with fail; refine (HD.out _).mono ?_; rintro e w' ⟨rfl, rfl⟩; go_wp2_with fail; go_ret2; exact ⟨rfl, kpt⟩
theorem iP (l : List UInt8) (P : Nat) (w : World) (hs : l.length ≤ 2001) (hl0 : 0 < l.length) (hP : 0 ≤ P)
    (hb : ∀ h, ((((ByteArray.mk l.toArray)[0]'h).toNat : Int) == 45) = false)
    (HD : Hid (∀ w, Calls Tryz.prog 123 #[.string ⟨l.toArray⟩, .int .i64 0] w fun e w' => e = .returned (.int .i64 (P : Int)) ∧ w = w'))
    (x1 : ((P : Int) == 0) = false) (hPl : P < l.length) (c0 : ∀ h, ((((ByteArray.mk l.toArray)[P]'h).toNat : Int) == 46) = false) :
    Calls Tryz.prog 90 #[.string ⟨l.toArray⟩] w fun e w' => e = .returned (.tuple #[.int .i64 0, .int .i64 4]) ∧ Kept w w' := by
  have X := am; have Z := af; have pm : (P : Int) ≤ 2001 := by omega
  have pl : (P : Int) < (l.length : Int) := by omega
  have x2 : ((P : Int) != (l.length : Int)) = true := by simp; omega
  go_enter Tryz.func90, Tryz.ntmps90; go_wp2_with fail; refine (HD.out _).mono ?_; rintro e w' ⟨rfl, rfl⟩; go_wp2_with fail; go_ret2; exact ⟨rfl, kpt⟩
theorem jY (l : List UInt8) (P : Nat) (w : World) (hs : l.length ≤ 2001) (hl0 : 0 < l.length) (hP : 0 ≤ P)
    (hb : ∀ h, ((((ByteArray.mk l.toArray)[0]'h).toNat : Int) == 45) = false)
    (HD : Hid (∀ w, Calls Tryz.prog 123 #[.string ⟨l.toArray⟩, .int .i64 0] w fun e w' => e = .returned (.int .i64 (P : Int)) ∧ w = w'))
    (x1 : ((P : Int) == 0) = true) (hPl : P < l.length) (c0 : ∀ h, ((((ByteArray.mk l.toArray)[P]'h).toNat : Int) == 46) = true) (E : Nat)
    (HD2 : Hid (∀ w, Calls Tryz.prog 123 #[.string ⟨l.toArray⟩, .int .i64 ((P : Int) + 1)] w fun e w' => e = .returned (.int .i64 (E : Int)) ∧ w = w')) :
    Calls Tryz.prog 90 #[.string ⟨l.toArray⟩] w fun e w' => e = .returned (.tuple #[.int .i64 0, .int .i64 4]) ∧ Kept w w' := by
  have X := am; have Z := af; have pm : (P : Int) ≤ 2001 := by omega
  have pl : (P : Int) < (l.length : Int) := by omega
  go_enter Tryz.func90, Tryz.ntmps90; go_wp2_with fail; refine (HD.out _).mono ?_; rintro e w' ⟨rfl, rfl⟩; go_wp2_with fail; refine (HD2.out _).mono ?_; rintro e w' ⟨rfl, rfl⟩; go_wp2_with fail; go_ret2; exact ⟨rfl, kpt⟩
theorem jZ (l : List UInt8) (P : Nat) (w : World) (hs : l.length ≤ 2001) (hl0 : 0 < l.length) (hP : 0 ≤ P)
    (hb : ∀ h, ((((ByteArray.mk l.toArray)[0]'h).toNat : Int) == 45) = false)
    (HD : Hid (∀ w, Calls Tryz.prog 123 #[.string ⟨l.toArray⟩, .int .i64 0] w fun e w' => e = .returned (.int .i64 (P : Int)) ∧ w = w'))
    (x1 : ((P : Int) == 0) = false) (hPl : P < l.length) (c0 : ∀ h, ((((ByteArray.mk l.toArray)[P]'h).toNat : Int) == 46) = true) (E : Nat)
    (HD2 : Hid (∀ w, Calls Tryz.prog 123 #[.string ⟨l.toArray⟩, .int .i64 ((P : Int) + 1)] w fun e w' => e = .returned (.int .i64 (E : Int)) ∧ w = w')) (x2 : ((E : Int) != (l.length : Int)) = true) :
    Calls Tryz.prog 90 #[.string ⟨l.toArray⟩] w fun e w' => e = .returned (.tuple #[.int .i64 0, .int .i64 4]) ∧ Kept w w' := by
  have X := am; have Z := af; have pm : (P : Int) ≤ 2001 := by omega
  have pl : (P : Int) < (l.length : Int) := by omega
  go_enter Tryz.func90, Tryz.ntmps90; go_wp2_with fail; refine (HD.out _).mono ?_; rintro e w' ⟨rfl, rfl⟩; go_wp2_with fail; refine (HD2.out _).mono ?_; rintro e w' ⟨rfl, rfl⟩; go_wp2_with fail; go_ret2; exact ⟨rfl, kpt⟩
theorem kd (l : List UInt8) (P : Nat) (w : World) (hs : l.length ≤ 2001) (hl0 : 0 < l.length) (hP : 0 ≤ P)
    (hb : ∀ h, ((((ByteArray.mk l.toArray)[0]'h).toNat : Int) == 45) = false)
    (HD : Hid (∀ w, Calls Tryz.prog 123 #[.string ⟨l.toArray⟩, .int .i64 0] w fun e w' => e = .returned (.int .i64 (P : Int)) ∧ w = w'))
    (x1 : ((P : Int) == 0) = false) (hPl : P < l.length) (c0 : ∀ h, ((((ByteArray.mk l.toArray)[P]'h).toNat : Int) == 46) = true)
    (HD2 : Hid (∀ w, Calls Tryz.prog 123 #[.string ⟨l.toArray⟩, .int .i64 ((P : Int) + 1)] w fun e w' => e = .returned (.int .i64 (l.length : Int)) ∧ w = w')) (x3 : ((l.length : Int) == (P : Int) + 1) = true) :
    Calls Tryz.prog 90 #[.string ⟨l.toArray⟩] w fun e w' => e = .returned (.tuple #[.int .i64 0, .int .i64 4]) ∧ Kept w w' := by
  have X := am; have Z := af; have pm : (P : Int) ≤ 2001 := by omega
  have pl : (P : Int) < (l.length : Int) := by omega
  go_enter Tryz.func90, Tryz.ntmps90; go_wp2_with fail; refine (HD.out _).mono ?_; rintro e w' ⟨rfl, rfl⟩; go_wp2_with fail; refine (HD2.out _).mono ?_; rintro e w' ⟨rfl, rfl⟩; go_wp2_with fail; go_ret2; exact ⟨rfl, kpt⟩
theorem qm (w : World) : Calls Tryz.prog 90 #[.string ⟨([] : List UInt8).toArray⟩] w fun e w' => e = .returned (.tuple #[.int .i64 0, .int .i64 4]) ∧ Kept w w' := by
  have X := am; have Z := af; have D := fun w => eM ⟨([] : List UInt8).toArray⟩ 0 w (by rw [af]; simp) (by simp); rw [show (0 + nd ((ByteArray.mk ([] : List UInt8).toArray).data.toList.drop 0)) = 0 from rfl] at D; have HD := Lib.hid D; clear D; go_enter Tryz.func90, Tryz.ntmps90; go_wp2_with fail; refine (HD.out _).mono ?_; rintro e w' ⟨rfl, rfl⟩; go_wp2_with fail; go_ret2; exact ⟨rfl, kpt⟩
theorem em {b : Bool} {m : List UInt8} (h : nd m = 0 ∨ xi (m.drop (nd m)) = none) : Lv.bw b m = (0, 4) := by
  unfold Lv.bw; rcases h with h | h
  · rw [if_pos h]
  · split
    · rfl
    · rw [h]
theorem fl {l : List UInt8} {P : Nat} {c : UInt8} {r : List UInt8} (h : l.drop P = c :: r) : l.drop (P + 1) = r := by
  rw [show P + 1 = P + 1 from rfl, ← List.drop_drop, h]; rfl
theorem vM (m : List UInt8) (w : World) (hs : m.length ≤ 2000) : Calls Tryz.prog 90 #[.string ⟨(45 :: m).toArray⟩] w fun e w' => e = .returned (.tuple #[.int .i64 (Lv.bw true m).1, .int .i64 (Lv.bw true m).2]) ∧ Kept w w' := by
  suffices H : ∀ l, l = (45 :: m) → Calls Tryz.prog 90 #[.string ⟨l.toArray⟩] w fun e w' => e = .returned (.tuple #[.int .i64 (Lv.bw true m).1, .int .i64 (Lv.bw true m).2]) ∧ Kept w w' from H _ rfl
  intro l hl; have ll : l.length = m.length + 1 := by rw [hl]; rfl
  have ln : nd m ≤ m.length := dL m; obtain ⟨P, hP⟩ : ∃ P, P = 1 + nd m := ⟨_, rfl⟩; have hdm : l.drop 1 = m := by rw [hl]; rfl
  have HD : Hid (∀ w, Calls Tryz.prog 123 #[.string ⟨l.toArray⟩, .int .i64 1] w fun e w' => e = .returned (.int .i64 (P : Int)) ∧ w = w') := fun w => by
    have D := eM ⟨l.toArray⟩ 1 w (by rw [af]; omega) (by rw [af]; omega); rw [show (ByteArray.mk l.toArray).data.toList.drop 1 = m from hdm, ← hP] at D; exact D
  have hb0 : ∀ h, ((((ByteArray.mk l.toArray)[0]'h).toNat : Int) == 45) = true := by intro h; subst hl; rfl
  have hdp : l.drop P = m.drop (nd m) := by rw [hP, ← List.drop_drop, hdm]
  have hsp : l = [45] ++ (m.take (nd m) ++ m.drop (nd m)) := by rw [List.take_append_drop, hl]; rfl
  have lw : (m.take (nd m)).length = nd m := by rw [List.length_take]; omega
  have hw := eN m; have l0 : 0 < l.length := by omega
  have wn : ∀ (h : nd m = 0), ((P : Int) == 1) = true := fun h => by rw [hP, h]; rfl
  have wp : ∀ (h : nd m ≠ 0), ((P : Int) == 1) = false := fun h => by rw [beq_eq_false_iff_ne]; omega
  rcases ht : m.drop (nd m) with _ | ⟨c, r⟩
  · have lm : m.length = nd m := by have := List.drop_eq_nil_iff.1 ht; omega
    by_cases n0 : nd m = 0
    · rw [em (Or.inl n0)]
      exact iJ l P w (by omega) l0 (by omega) hb0 HD (wn n0) (by omega)
    · rw [ht] at hsp
      have rw_ := gY (b := true) (m := m) (by omega) ht; have e4 : m.take (nd m) ++ br [] = m ++ [48, 48, 48, 48] := by rw [lm.symm, List.take_length]; rfl
      refine gF l P (jg 1 P (m.take (nd m) ++ br [])) (Lv.bw true m) w (by omega) l0 (by omega) hb0 HD (wp n0) (by omega) (by omega) (fun k h h1 h2 h3 => ?_) (fun k h h2 h3 => ?_) (dI (by omega)) (dH (by omega)) (fun k _ => gD (by omega) (by rw [List.length_append, lw, dG]; omega) k) ?_
      · subst hsp; exact gX (pre := [45]) (t := []) (r := []) hw (by simp) (Or.inl ⟨rfl, rfl⟩) rfl (by rw [lw]; exact hP) k h h1 h2 h3
      · rw [hsp] at h; exact ji (pre := [45]) (t := []) (r := []) (Or.inl ⟨rfl, rfl⟩) rfl (by rw [lw]; exact hP) k h h2 h3
      · show _ = _
        rw [jh (by omega) (by rw [List.length_append, lw, dG]; omega), e4]; exact rw_
  · have lr : l.length = P + 1 + r.length := by have := congrArg List.length ht; simp at this; omega
    have cP : ∀ h, (ByteArray.mk l.toArray)[P]'h = c := fun h => by
      have e : l[P]? = some c := by have e := congrArg (fun x => x[0]?) (hdp.trans ht); simpa using e
      show l[P]'h = c; rw [List.getElem?_eq_getElem h] at e; exact Option.some.inj e
    by_cases hc : c = 46
    · have c1 : ∀ h, ((((ByteArray.mk l.toArray)[P]'h).toNat : Int) == 46) = true := fun h => by rw [cP h, hc]; rfl
      have HD2 : Hid (∀ w, Calls Tryz.prog 123 #[.string ⟨l.toArray⟩, .int .i64 ((P : Int) + 1)] w fun e w' => e = .returned (.int .i64 ((P + 1 + nd r : Nat) : Int)) ∧ w = w') := fun w => by
        have D := eM ⟨l.toArray⟩ (P + 1) w (by rw [af]; omega) (by rw [af]; omega); rw [show (ByteArray.mk l.toArray).data.toList.drop (P + 1) = r from fl (hdp.trans ht), Int.natCast_add P 1] at D; exact D
      have lnr : nd r ≤ r.length := dL r
      by_cases n0 : nd m = 0
      · rw [em (Or.inl n0)]
        exact jV l P w (by omega) l0 (by omega) hb0 HD (wn n0) (by omega) c1 _ HD2
      · by_cases hd : nd r = r.length
        · rw [show P + 1 + nd r = l.length by omega] at HD2
          by_cases r0 : r.length = 0
          · rw [em (Or.inr (by rw [ht]; exact if_neg (fun h => h.2.1 (List.eq_nil_of_length_eq_zero r0))))]
            exact jX l P w (by omega) l0 (by omega) hb0 HD (wp n0) (by omega) c1 HD2 (by rw [beq_iff_eq]; omega)
          · subst hc
            have rp := fO (b := true) (by omega) ht (by omega) hd; have hr := lG hd; have en : ((l.length : Int) == (P : Int) + 1) = false := by rw [beq_eq_false_iff_ne]; omega
            have LL : (m.take (nd m) ++ br r).length = P - 1 + 4 := by rw [List.length_append, lw, dG]; omega
            rw [ht] at hsp
            have VD : Hid (∀ k (h : k < l.length), 1 ≤ k → k ≠ P → k < P + 5 → 48 ≤ l[k].toNat ∧ l[k].toNat ≤ 57 ∧ jg 1 P (m.take (nd m) ++ br r) (k + 1) = 10 * jg 1 P (m.take (nd m) ++ br r) k + (l[k].toNat - 48)) := fun k h h1 h2 h3 => by
              subst hsp; exact gX (pre := [45]) (t := 46 :: r) (r := r) hw hr (Or.inr rfl) rfl (by rw [lw]; exact hP) k h h1 h2 h3
            have VZ : Hid (∀ k, l.length ≤ k → k ≠ P → k < P + 5 → jg 1 P (m.take (nd m) ++ br r) (k + 1) = 10 * jg 1 P (m.take (nd m) ++ br r) k) := fun k h h2 h3 => by
              rw [hsp] at h; exact ji (pre := [45]) (t := 46 :: r) (r := r) (Or.inr rfl) rfl (by rw [lw]; exact hP) k h h2 h3
            rw [← jh (f := 1) (P := P) (by omega) LL] at rp
            by_cases r4 : r.length ≤ 4
            · exact io l P _ (Lv.bw true m) w (by omega) l0 (by omega) hb0 HD (wp n0) (by omega) c1 en HD2 (by omega) VD VZ (dI (by omega)) (dH (by omega)) (fun k _ => gD (by omega) LL k) (rp.2 (by rw [lH r r4]; decide))
            · have r5 : r[4]? = some (ed r) := np r (by omega)
              have q5 : ∀ h, (((ByteArray.mk l.toArray)[P + 5]'h).toNat : Int) = (ed r).toNat := fun h => by
                have e : l[P + 5]? = some (ed r) := by rw [← r5, ← fl (hdp.trans ht), List.getElem?_drop]
                have e2 : (ByteArray.mk l.toArray)[P + 5]'h = ed r := by show l[P + 5]'h = _; rw [List.getElem?_eq_getElem h] at e; exact Option.some.inj e
                rw [e2]
              by_cases h5 : 53 ≤ (ed r).toNat
              · exact iH l P _ (Lv.bw true m) w (by omega) l0 (by omega) hb0 HD (wp n0) (by omega) c1 en HD2 (by omega) _ q5 h5 VD VZ (dI (by omega)) (dH (by omega)) (fun k _ => gD (by omega) LL k) (rp.1 h5)
              · exact ip l P _ (Lv.bw true m) w (by omega) l0 (by omega) hb0 HD (wp n0) (by omega) c1 en HD2 (by omega) _ q5 (by omega) VD VZ (dI (by omega)) (dH (by omega)) (fun k _ => gD (by omega) LL k) (rp.2 h5)
        · rw [em (Or.inr (by rw [ht]; exact lx hd))]
          exact jW l P w (by omega) l0 (by omega) hb0 HD (wp n0) (by omega) c1 _ HD2 (by rw [bne_iff_ne]; omega)
    · have c1 : ∀ h, ((((ByteArray.mk l.toArray)[P]'h).toNat : Int) == 46) = false := fun h => by
        rw [cP h, beq_eq_false_iff_ne]; intro e; apply hc; apply UInt8.toNat_inj.1; exact Int.ofNat_inj.1 e
      rw [em (Or.inr (by rw [ht]; exact oh hc))]
      by_cases n0 : nd m = 0
      · exact iK l P w (by omega) l0 (by omega) hb0 HD (wn n0) (by omega) c1
      · exact iL l P w (by omega) l0 (by omega) hb0 HD (wp n0) (by omega) c1
theorem vN (m : List UInt8) (w : World) (hs : m.length ≤ 2000) (hb : ∀ h, ((((ByteArray.mk m.toArray)[0]'h).toNat : Int) == 45) = false) (hl0 : 0 < m.length) : Calls Tryz.prog 90 #[.string ⟨m.toArray⟩] w fun e w' => e = .returned (.tuple #[.int .i64 (Lv.bw false m).1, .int .i64 (Lv.bw false m).2]) ∧ Kept w w' := by
  suffices H : ∀ l, l = m → Calls Tryz.prog 90 #[.string ⟨l.toArray⟩] w fun e w' => e = .returned (.tuple #[.int .i64 (Lv.bw false m).1, .int .i64 (Lv.bw false m).2]) ∧ Kept w w' from H _ rfl
  intro l hl; have ll : l.length = m.length + 0 := by rw [hl]; rfl
  have ln : nd m ≤ m.length := dL m; obtain ⟨P, hP⟩ : ∃ P, P = 0 + nd m := ⟨_, rfl⟩; have hdm : l.drop 0 = m := by rw [hl]; rfl
  have HD : Hid (∀ w, Calls Tryz.prog 123 #[.string ⟨l.toArray⟩, .int .i64 0] w fun e w' => e = .returned (.int .i64 (P : Int)) ∧ w = w') := fun w => by
    have D := eM ⟨l.toArray⟩ 0 w (by rw [af]; omega) (by rw [af]; omega); rw [show (ByteArray.mk l.toArray).data.toList.drop 0 = m from hdm, ← hP] at D; exact D
  have hb0 : ∀ h, ((((ByteArray.mk l.toArray)[0]'h).toNat : Int) == 45) = false := by subst hl; exact hb
  have hdp : l.drop P = m.drop (nd m) := by rw [hP, ← List.drop_drop, hdm]
  have hsp : l = ([] : List UInt8) ++ (m.take (nd m) ++ m.drop (nd m)) := by rw [List.take_append_drop, hl]; rfl
  have lw : (m.take (nd m)).length = nd m := by rw [List.length_take]; omega
  have hw := eN m; have l0 : 0 < l.length := by omega
  have wn : ∀ (h : nd m = 0), ((P : Int) == 0) = true := fun h => by rw [hP, h]; rfl
  have wp : ∀ (h : nd m ≠ 0), ((P : Int) == 0) = false := fun h => by rw [beq_eq_false_iff_ne]; omega
  rcases ht : m.drop (nd m) with _ | ⟨c, r⟩
  · have lm : m.length = nd m := by have := List.drop_eq_nil_iff.1 ht; omega
    by_cases n0 : nd m = 0
    · rw [em (Or.inl n0)]
      exact iM l P w (by omega) l0 (by omega) hb0 HD (wn n0) (by omega)
    · rw [ht] at hsp
      have rw_ := gY (b := false) (m := m) (by omega) ht; have e4 : m.take (nd m) ++ br [] = m ++ [48, 48, 48, 48] := by rw [lm.symm, List.take_length]; rfl
      refine gG l P (jg 0 P (m.take (nd m) ++ br [])) (Lv.bw false m) w (by omega) l0 (by omega) hb0 HD (wp n0) (by omega) (by omega) (fun k h h1 h2 h3 => ?_) (fun k h h2 h3 => ?_) (dI (by omega)) (dH (by omega)) (fun k _ => gD (by omega) (by rw [List.length_append, lw, dG]; omega) k) ?_
      · subst hsp; exact gX (pre := ([] : List UInt8)) (t := []) (r := []) hw (by simp) (Or.inl ⟨rfl, rfl⟩) rfl (by rw [lw]; exact hP) k h h1 h2 h3
      · rw [hsp] at h; exact ji (pre := ([] : List UInt8)) (t := []) (r := []) (Or.inl ⟨rfl, rfl⟩) rfl (by rw [lw]; exact hP) k h h2 h3
      · show _ = _
        rw [jh (by omega) (by rw [List.length_append, lw, dG]; omega), e4]; exact rw_
  · have lr : l.length = P + 1 + r.length := by have := congrArg List.length ht; simp at this; omega
    have cP : ∀ h, (ByteArray.mk l.toArray)[P]'h = c := fun h => by
      have e : l[P]? = some c := by have e := congrArg (fun x => x[0]?) (hdp.trans ht); simpa using e
      show l[P]'h = c; rw [List.getElem?_eq_getElem h] at e; exact Option.some.inj e
    by_cases hc : c = 46
    · have c1 : ∀ h, ((((ByteArray.mk l.toArray)[P]'h).toNat : Int) == 46) = true := fun h => by rw [cP h, hc]; rfl
      have HD2 : Hid (∀ w, Calls Tryz.prog 123 #[.string ⟨l.toArray⟩, .int .i64 ((P : Int) + 1)] w fun e w' => e = .returned (.int .i64 ((P + 1 + nd r : Nat) : Int)) ∧ w = w') := fun w => by
        have D := eM ⟨l.toArray⟩ (P + 1) w (by rw [af]; omega) (by rw [af]; omega); rw [show (ByteArray.mk l.toArray).data.toList.drop (P + 1) = r from fl (hdp.trans ht), Int.natCast_add P 1] at D; exact D
      have lnr : nd r ≤ r.length := dL r
      by_cases n0 : nd m = 0
      · rw [em (Or.inl n0)]
        exact jY l P w (by omega) l0 (by omega) hb0 HD (wn n0) (by omega) c1 _ HD2
      · by_cases hd : nd r = r.length
        · rw [show P + 1 + nd r = l.length by omega] at HD2
          by_cases r0 : r.length = 0
          · rw [em (Or.inr (by rw [ht]; exact if_neg (fun h => h.2.1 (List.eq_nil_of_length_eq_zero r0))))]
            exact kd l P w (by omega) l0 (by omega) hb0 HD (wp n0) (by omega) c1 HD2 (by rw [beq_iff_eq]; omega)
          · subst hc
            have rp := fO (b := false) (by omega) ht (by omega) hd; have hr := lG hd; have en : ((l.length : Int) == (P : Int) + 1) = false := by rw [beq_eq_false_iff_ne]; omega
            have LL : (m.take (nd m) ++ br r).length = P - 0 + 4 := by rw [List.length_append, lw, dG]; omega
            rw [ht] at hsp
            have VD : Hid (∀ k (h : k < l.length), 0 ≤ k → k ≠ P → k < P + 5 → 48 ≤ l[k].toNat ∧ l[k].toNat ≤ 57 ∧ jg 0 P (m.take (nd m) ++ br r) (k + 1) = 10 * jg 0 P (m.take (nd m) ++ br r) k + (l[k].toNat - 48)) := fun k h h1 h2 h3 => by
              subst hsp; exact gX (pre := ([] : List UInt8)) (t := 46 :: r) (r := r) hw hr (Or.inr rfl) rfl (by rw [lw]; exact hP) k h h1 h2 h3
            have VZ : Hid (∀ k, l.length ≤ k → k ≠ P → k < P + 5 → jg 0 P (m.take (nd m) ++ br r) (k + 1) = 10 * jg 0 P (m.take (nd m) ++ br r) k) := fun k h h2 h3 => by
              rw [hsp] at h; exact ji (pre := ([] : List UInt8)) (t := 46 :: r) (r := r) (Or.inr rfl) rfl (by rw [lw]; exact hP) k h h2 h3
            rw [← jh (f := 0) (P := P) (by omega) LL] at rp
            by_cases r4 : r.length ≤ 4
            · exact iq l P _ (Lv.bw false m) w (by omega) l0 (by omega) hb0 HD (wp n0) (by omega) c1 en HD2 (by omega) VD VZ (dI (by omega)) (dH (by omega)) (fun k _ => gD (by omega) LL k) (rp.2 (by rw [lH r r4]; decide))
            · have r5 : r[4]? = some (ed r) := np r (by omega)
              have q5 : ∀ h, (((ByteArray.mk l.toArray)[P + 5]'h).toNat : Int) = (ed r).toNat := fun h => by
                have e : l[P + 5]? = some (ed r) := by rw [← r5, ← fl (hdp.trans ht), List.getElem?_drop]
                have e2 : (ByteArray.mk l.toArray)[P + 5]'h = ed r := by show l[P + 5]'h = _; rw [List.getElem?_eq_getElem h] at e; exact Option.some.inj e
                rw [e2]
              by_cases h5 : 53 ≤ (ed r).toNat
              · exact iI l P _ (Lv.bw false m) w (by omega) l0 (by omega) hb0 HD (wp n0) (by omega) c1 en HD2 (by omega) _ q5 h5 VD VZ (dI (by omega)) (dH (by omega)) (fun k _ => gD (by omega) LL k) (rp.1 h5)
              · exact ir l P _ (Lv.bw false m) w (by omega) l0 (by omega) hb0 HD (wp n0) (by omega) c1 en HD2 (by omega) _ q5 (by omega) VD VZ (dI (by omega)) (dH (by omega)) (fun k _ => gD (by omega) LL k) (rp.2 h5)
        · rw [em (Or.inr (by rw [ht]; exact lx hd))]
          exact jZ l P w (by omega) l0 (by omega) hb0 HD (wp n0) (by omega) c1 _ HD2 (by rw [bne_iff_ne]; omega)
    · have c1 : ∀ h, ((((ByteArray.mk l.toArray)[P]'h).toNat : Int) == 46) = false := fun h => by
        rw [cP h, beq_eq_false_iff_ne]; intro e; apply hc; apply UInt8.toNat_inj.1; exact Int.ofNat_inj.1 e
      rw [em (Or.inr (by rw [ht]; exact oh hc))]
      by_cases n0 : nd m = 0
      · exact iO l P w (by omega) l0 (by omega) hb0 HD (wn n0) (by omega) c1
      · exact iP l P w (by omega) l0 (by omega) hb0 HD (wp n0) (by omega) c1
theorem vO (l : List UInt8) (w : World) (hs : l.length ≤ 2000) : Calls Tryz.prog 90 #[.string ⟨l.toArray⟩] w fun e w' => e = .returned (.tuple #[.int .i64 (cW l).1, .int .i64 (cW l).2]) ∧ Kept w w' := by
  unfold cW; rcases l with _ | ⟨c, m⟩
  · exact qm w
  · by_cases hc : c = 45
    · subst hc
      rw [if_pos (by rfl)]; exact vM m w (by simp at hs; omega)
    · rw [if_neg (by simpa using hc)]
      refine vN (c :: m) w hs (fun h => ?_) (by simp); rw [beq_eq_false_iff_ne]; intro e; apply hc; apply UInt8.toNat_inj.1; exact Int.ofNat_inj.1 e
