/- The reference of layer 4: Plain, Check, Upper, Lower (printed by wip/mkgref.py). -/
import Derived.Test.YtipkjpcedfokhaaDoorGPlain
namespace Go.Proofs.YtipkjpcedfokhaaDoor
set_option linter.unusedVariables false
set_option linter.unusedSimpArgs false
open Go.RowKit Lv

theorem plain_step {l : List UInt8} {k : Nat} (h : k < l.length) (d : okB l[k] = true) : plain (l.drop k) = plain (l.drop (k + 1)) := by
  rw [List.drop_eq_getElem_cons h]; unfold plain; rw [List.all_cons, d, Bool.true_and]
theorem plain_stop {l : List UInt8} {k : Nat} (h : k < l.length) (d : okB l[k] = false) : plain (l.drop k) = false := by
  rw [List.drop_eq_getElem_cons h]; unfold plain; rw [List.all_cons, d, Bool.false_and]

set_option maxHeartbeats 400000 in
theorem rplain_any (l : List UInt8) (w : World) (hl : l.length ≤ 1000000) : Calls Tryd.prog 79 #[.string ⟨l.toArray⟩] w fun e w' => e = .returned (.bool (plain l)) ∧ w = w' := by
  have Z := ba_size
  have E0 : Hid (plain l = plain (l.drop 0)) := by rw [List.drop_zero]; rfl
  go_enter Tryd.func79, Tryd.ntmps79
  go_wp2_with fail
  go_loop [3] (fun i => ∃ k : Nat, k ≤ l.length ∧ i = .int .i64 k ∧ plain l = plain (l.drop k)) (fun i => l.length - (intOf i).toNat)
  case atStart => exact ⟨0, by omega, rfl, E0.out⟩
  case round =>
    obtain ⟨k, hk, rfl, hn⟩ := hrel
    have N := Lib.hid hn
    clear hn
    by_cases c : k < l.length
    · have ge : ∀ h, (ByteArray.mk l.toArray)[k]'h = l[k] := fun h => rfl
      obtain ⟨ch, hch⟩ : ∃ ch, ch = l[k] := ⟨_, rfl⟩
      have q : ∀ h, (((ByteArray.mk l.toArray)[k]'h).toNat : Int) = ch.toNat := fun h => by rw [ge, hch]
      by_cases d : okB ch = true
      · have S := Lib.hid (plain_step c (by rw [← hch]; exact d))
        have e := of_decide_eq_true d
        obtain ⟨e1, e2⟩ := e
        clear d ge hch
        go_wp2_with fail
        go_round
        case rel => exact ⟨k + 1, by omega, by go_num, by rw [N.out, S.out]⟩
        case measure => (simp [intOf]; try omega)
      · have d' : okB ch = false := by simpa using d
        have S : Hid (plain l = false) := by show _ = _; rw [N.out, plain_stop c (by rw [← hch]; exact d')]
        have e := of_decide_eq_false d'
        clear d d' ge hch
        by_cases e1 : ch.toNat < 32
        · clear e
          go_wp2_with fail
          go_ret
          exact ⟨ret_bool S.out.symm, rfl⟩
        · have e2 : 126 < ch.toNat := by omega
          clear e
          go_wp2_with fail
          go_ret
          exact ⟨ret_bool S.out.symm, rfl⟩
    · obtain rfl : k = l.length := by omega
      have S : Hid (plain l = true) := by show _ = _; rw [N.out, List.drop_length]; rfl
      go_wp2_with fail
      go_ret
      exact ⟨ret_bool S.out.symm, rfl⟩

theorem rcheck_any (l : List UInt8) (w : World) (hl : l.length ≤ 1000000) : Calls Tryd.prog 32 #[.string ⟨l.toArray⟩] w fun e w' => e = .returned (.int .i64 (dCheck l)) ∧ w = w' := by
  have Z := ba_size
  have P := Lib.hid (fun w => rplain_any l w hl)
  have E : Hid (dCheck l = if 256 < l.length then 5 else if plain l then 0 else 4) := rfl
  generalize dCheck l = d at *
  by_cases c : 256 < l.length
  · rw [if_pos c] at E
    go_enter Tryd.func32, Tryd.ntmps32
    go_wp2_with fail
    go_ret
    exact ⟨ret_int E.out.symm, rfl⟩
  · rw [if_neg c] at E
    generalize plain l = b at *
    cases b
    · go_enter Tryd.func32, Tryd.ntmps32
      go_wp2_with fail
      refine (P.out _).mono ?_
      rintro e w' ⟨rfl, rfl⟩
      go_wp2_with fail
      go_ret
      exact ⟨ret_int E.out.symm, rfl⟩
    · go_enter Tryd.func32, Tryd.ntmps32
      go_wp2_with fail
      refine (P.out _).mono ?_
      rintro e w' ⟨rfl, rfl⟩
      go_wp2_with fail
      go_ret
      exact ⟨ret_int E.out.symm, rfl⟩

set_option maxHeartbeats 800000 in
set_option maxRecDepth 100000 in
theorem rupper_any (l : List UInt8) (w : World) (hl : l.length ≤ 1000000) : Calls Tryd.prog 33 #[.string ⟨l.toArray⟩] w fun e w' => e = .returned (.string ⟨(upper l).toArray⟩) ∧ Kept w w' := by
  have Z := ba_size
  have CV := conv_bytes
  obtain ⟨cs0, f, hf, lot0, tel0⟩ := bytes_lot w l
  have k0 := bytes_kept w 5 ⟨l.toArray⟩
  have HT0 := Lib.hid tel0
  have HL0 := Lib.hid lot0
  clear tel0 lot0
  go_enter Tryd.func33, Tryd.ntmps33
  go_wp2_with fail
  generalize Lib.bytesWorld w 5 ⟨l.toArray⟩ = w0 at *
  clear CV
  go_loopw [4] (fun i wr => ∃ (k : Nat) (cs : Array Value), k ≤ l.length ∧ i = .int .i64 k ∧ Kept w wr ∧ Lot wr w.heap.size 5 cs f ∧ Tells cs l.length (fun j => if j < k then up8 (l.getD j 0).toNat else (l.getD j 0).toNat)) (fun i _ => l.length - (intOf i).toNat)
  case atStart => exact ⟨0, cs0, by omega, rfl, k0, HL0.out, fun j hj => by rw [HT0.out j hj]; rfl⟩
  case round =>
    obtain ⟨k, cs, hk, rfl, hkept, lot, tel⟩ := hrel
    by_cases c : k < l.length
    · have hc := (lot.cell k).trans (tel k c)
      simp only [Nat.lt_irrefl, if_false] at hc
      have hb : (l.getD k 0).toNat ≤ 255 := by have := (l.getD k 0).toNat_lt; omega
      have hfr := lot.loose (i := k) (by omega)
      have HT := Lib.hid tel
      have HL := Lib.hid lot
      obtain ⟨ch, hch⟩ : ∃ ch, ch = (l.getD k 0).toNat := ⟨_, rfl⟩
      rw [← hch] at hc hb
      have HC := Lib.hid hch
      clear tel lot hch
      by_cases c1 : 97 ≤ ch
      · by_cases c2 : ch ≤ 122
        · go_wp2_with fail
          go_roundw
          case rel =>
            refine ⟨k + 1, _, by omega, by go_num, Kept.setCell hkept (by simp) _, HL.out.at_ k _, fun j hj => ?_⟩
            rw [show (.int .u8 ((ch : Int) - 32) : Value) = .int .u8 ((ch - 32 : Nat) : Int) by congr 1 <;> omega, (HT.out.set c (ch - 32)) j hj]
            by_cases e : j = k
            · subst e
              simp only [if_true, if_pos (Nat.lt_succ_self j)]
              rw [← HC.out]; unfold up8; rw [if_pos ⟨c1, c2⟩]
            · simp only [if_neg e]
              by_cases e2 : j < k
              · rw [if_pos e2, if_pos (by omega)]
              · rw [if_neg e2, if_neg (by omega)]
          case measure => (simp [intOf]; try omega)
        · go_wp2_with fail
          go_roundw
          case rel =>
            refine ⟨k + 1, cs, by omega, by go_num, hkept, HL.out, fun j hj => ?_⟩
            rw [HT.out j hj]
            by_cases e : j = k
            · subst e
              simp only [Nat.lt_irrefl, if_false, if_pos (Nat.lt_succ_self j)]
              rw [← HC.out]; unfold up8; rw [if_neg (by omega)]
            · by_cases e2 : j < k
              · simp only [if_pos e2, if_pos (Nat.lt_succ_of_lt e2)]
              · simp only [if_neg e2, if_neg (show ¬ j < k + 1 by omega)]
          case measure => (simp [intOf]; try omega)
      · go_wp2_with fail
        go_roundw
        case rel =>
          refine ⟨k + 1, cs, by omega, by go_num, hkept, HL.out, fun j hj => ?_⟩
          rw [HT.out j hj]
          by_cases e : j = k
          · subst e
            simp only [Nat.lt_irrefl, if_false, if_pos (Nat.lt_succ_self j)]
            rw [← HC.out]; unfold up8; rw [if_neg (by omega)]
          · by_cases e2 : j < k
            · simp only [if_pos e2, if_pos (Nat.lt_succ_of_lt e2)]
            · simp only [if_neg e2, if_neg (show ¬ j < k + 1 by omega)]
        case measure => (simp [intOf]; try omega)
    · obtain rfl : k = l.length := by omega
      have tel2 : Tells cs l.length (fun j => up8 (l.getD j 0).toNat) := fun j hj => by rw [tel j hj]; simp only [if_pos hj]
      have hcv := fun cap => conv_lot (cap := cap) (l.map upB) lot (tells_map upB_toNat tel2)
      rw [List.length_map] at hcv
      clear tel tel2 lot
      go_wp2_with fail
      go_ret
      exact ⟨rfl, hkept⟩

set_option maxHeartbeats 800000 in
set_option maxRecDepth 100000 in
theorem rlower_any (l : List UInt8) (w : World) (hl : l.length ≤ 1000000) : Calls Tryd.prog 34 #[.string ⟨l.toArray⟩] w fun e w' => e = .returned (.string ⟨(lower l).toArray⟩) ∧ Kept w w' := by
  have Z := ba_size
  have CV := conv_bytes
  obtain ⟨cs0, f, hf, lot0, tel0⟩ := bytes_lot w l
  have k0 := bytes_kept w 5 ⟨l.toArray⟩
  have HT0 := Lib.hid tel0
  have HL0 := Lib.hid lot0
  clear tel0 lot0
  go_enter Tryd.func34, Tryd.ntmps34
  go_wp2_with fail
  generalize Lib.bytesWorld w 5 ⟨l.toArray⟩ = w0 at *
  clear CV
  go_loopw [4] (fun i wr => ∃ (k : Nat) (cs : Array Value), k ≤ l.length ∧ i = .int .i64 k ∧ Kept w wr ∧ Lot wr w.heap.size 5 cs f ∧ Tells cs l.length (fun j => if j < k then lo8 (l.getD j 0).toNat else (l.getD j 0).toNat)) (fun i _ => l.length - (intOf i).toNat)
  case atStart => exact ⟨0, cs0, by omega, rfl, k0, HL0.out, fun j hj => by rw [HT0.out j hj]; rfl⟩
  case round =>
    obtain ⟨k, cs, hk, rfl, hkept, lot, tel⟩ := hrel
    by_cases c : k < l.length
    · have hc := (lot.cell k).trans (tel k c)
      simp only [Nat.lt_irrefl, if_false] at hc
      have hb : (l.getD k 0).toNat ≤ 255 := by have := (l.getD k 0).toNat_lt; omega
      have hfr := lot.loose (i := k) (by omega)
      have HT := Lib.hid tel
      have HL := Lib.hid lot
      obtain ⟨ch, hch⟩ : ∃ ch, ch = (l.getD k 0).toNat := ⟨_, rfl⟩
      rw [← hch] at hc hb
      have HC := Lib.hid hch
      clear tel lot hch
      by_cases c1 : 65 ≤ ch
      · by_cases c2 : ch ≤ 90
        · go_wp2_with fail
          go_roundw
          case rel =>
            refine ⟨k + 1, _, by omega, by go_num, Kept.setCell hkept (by simp) _, HL.out.at_ k _, fun j hj => ?_⟩
            rw [show (.int .u8 ((ch : Int) + 32) : Value) = .int .u8 ((ch + 32 : Nat) : Int) by congr 1 <;> omega, (HT.out.set c (ch + 32)) j hj]
            by_cases e : j = k
            · subst e
              simp only [if_true, if_pos (Nat.lt_succ_self j)]
              rw [← HC.out]; unfold lo8; rw [if_pos ⟨c1, c2⟩]
            · simp only [if_neg e]
              by_cases e2 : j < k
              · rw [if_pos e2, if_pos (by omega)]
              · rw [if_neg e2, if_neg (by omega)]
          case measure => (simp [intOf]; try omega)
        · go_wp2_with fail
          go_roundw
          case rel =>
            refine ⟨k + 1, cs, by omega, by go_num, hkept, HL.out, fun j hj => ?_⟩
            rw [HT.out j hj]
            by_cases e : j = k
            · subst e
              simp only [Nat.lt_irrefl, if_false, if_pos (Nat.lt_succ_self j)]
              rw [← HC.out]; unfold lo8; rw [if_neg (by omega)]
            · by_cases e2 : j < k
              · simp only [if_pos e2, if_pos (Nat.lt_succ_of_lt e2)]
              · simp only [if_neg e2, if_neg (show ¬ j < k + 1 by omega)]
          case measure => (simp [intOf]; try omega)
      · go_wp2_with fail
        go_roundw
        case rel =>
          refine ⟨k + 1, cs, by omega, by go_num, hkept, HL.out, fun j hj => ?_⟩
          rw [HT.out j hj]
          by_cases e : j = k
          · subst e
            simp only [Nat.lt_irrefl, if_false, if_pos (Nat.lt_succ_self j)]
            rw [← HC.out]; unfold lo8; rw [if_neg (by omega)]
          · by_cases e2 : j < k
            · simp only [if_pos e2, if_pos (Nat.lt_succ_of_lt e2)]
            · simp only [if_neg e2, if_neg (show ¬ j < k + 1 by omega)]
        case measure => (simp [intOf]; try omega)
    · obtain rfl : k = l.length := by omega
      have tel2 : Tells cs l.length (fun j => lo8 (l.getD j 0).toNat) := fun j hj => by rw [tel j hj]; simp only [if_pos hj]
      have hcv := fun cap => conv_lot (cap := cap) (l.map loB) lot (tells_map loB_toNat tel2)
      rw [List.length_map] at hcv
      clear tel tel2 lot
      go_wp2_with fail
      go_ret
      exact ⟨rfl, hkept⟩

end Go.Proofs.YtipkjpcedfokhaaDoor
