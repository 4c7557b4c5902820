/- Layer 1: Format. -/
import Derived.Test.YtingopdeckgpaaaWText1
import Derived.Test.YtingopdeckgpaaaBytes
namespace Go.Proofs.Ytingopdeckgpaaa
set_option linter.unusedVariables false
set_option linter.unusedSimpArgs false
open Go.RowKit Lv

theorem abs_natAbs (a : Int) : Lv.abs a = (a.natAbs : Int) := by unfold Lv.abs; split <;> omega

theorem ret_str {l m : List UInt8} (h : l = m) : Ending.returned (.string ⟨l.toArray⟩) = .returned (.string ⟨m.toArray⟩) := by rw [h]

set_option maxHeartbeats 800000 in
theorem format_any (a : Int) (w : World) (ha : i64 a) :
    Calls Try.prog 44 #[.int .i64 a] w fun e w' => e = .returned (.string ⟨(fmt a).toArray⟩) ∧ Kept w w' := by
  have Z := fun w => size_any a w ha
  rw [abs_natAbs] at Z
  have hn : a.natAbs ≤ 9223372036854775808 := by have := ha.1; have := ha.2; omega
  have F := Lib.hid (show fmt a = (if a < 0 then [45] else []) ++ digs (a.natAbs / 10000) ++ (if a.natAbs % 10000 = 0 then [] else 46 :: strip ((digs (10000 + a.natAbs % 10000)).drop 1)) from rfl)
  have HZ := Lib.hid Z
  generalize fmt a = out at *
  clear Z ha
  have D1 := fun w => decimal_any (a.natAbs / 10000) w (by omega)
  have HD := Lib.hid D1
  have L1 : (digs (a.natAbs / 10000)).length ≤ 20 := digs_len 20 (by omega) (by omega) (by omega)
  clear D1
  generalize a.natAbs = n at *
  by_cases ca : a < 0
  · by_cases cp : n % 10000 = 0
    · have c1 : ((n : Int) % 10000 == 0) = true := by simp; omega
      have E : Hid ([45] ++ digs (n / 10000) = out) := by rw [F.out, if_pos ca, if_pos cp, List.append_nil]; rfl
      go_enter Try.func44, Try.ntmps44
      go_wp2_with fail
      refine (HZ.out _).mono ?_
      rintro e w' ⟨rfl, rfl⟩
      go_wp2_with (refine append_byte rfl (.tmp 11) (.tmp 12) rfl w.heap.size _ [] rfl ((OwnB.nil w w.heap.size).alloc _) w.heap.size 1 45 45 rfl rfl (by simp [go_sem]) (by simp) (by simp) ?_; intro v0 w0 o0 g0)
      have k0 : Kept w w0 := ((OwnB.nil w w.heap.size).alloc _).grown (Nat.le_refl _) ((Kept.refl w).alloc _) g0
      rw [List.nil_append] at o0
      refine (HD.out _).mono ?_
      rintro e w1 ⟨rfl, k1'⟩
      have k1 := Kept.trans k0 k1'
      have o1 := o0.kept k1'
      clear o0 g0 k0 k1'
      go_wp2_with (refine append_string rfl (.tmp 14) (.tmp 17) rfl w.heap.size v0 [45] (digs (n / 10000)) rfl o1 rfl (by simp; omega) k1.size ?_; intro v2 w2 o2 g2; have hcv := conv_own o2)
      go_ret
      exact ⟨ret_str E.out, o1.grown (Nat.le_refl _) k1 g2⟩
    · have c1 : ((n : Int) % 10000 == 0) = false := by simp; omega
      have D2 := fun w => decimal_any (10000 + n % 10000) w (by omega)
      rw [digs_four (by omega)] at D2
      have HD2 := Lib.hid D2
      clear D2
      have FS := Lib.hid (four_some (p := n % 10000) (by omega) cp)
      have FF := Lib.hid (show (digs (10000 + n % 10000)).drop 1 = four (n % 10000) by rw [digs_four (by omega)]; rfl)
      obtain ⟨f, hf⟩ : ∃ f, f = four (n % 10000) := ⟨_, rfl⟩
      have f4 : f.length = 4 := by rw [hf]; rfl
      rw [← hf] at FS FF HD2
      have F4 := Lib.hid f4
      clear hf f4
      go_enter Try.func44, Try.ntmps44
      go_wp2_with fail
      refine (HZ.out _).mono ?_
      rintro e w' ⟨rfl, rfl⟩
      go_wp2_with (refine append_byte rfl (.tmp 11) (.tmp 12) rfl w.heap.size _ [] rfl ((OwnB.nil w w.heap.size).alloc _) w.heap.size 1 45 45 rfl rfl (by simp [go_sem]) (by simp) (by simp) ?_; intro v0 w0 o0 g0)
      have k0 : Kept w w0 := ((OwnB.nil w w.heap.size).alloc _).grown (Nat.le_refl _) ((Kept.refl w).alloc _) g0
      rw [List.nil_append] at o0
      refine (HD.out _).mono ?_
      rintro e w1 ⟨rfl, k1'⟩
      have k1 := Kept.trans k0 k1'
      have o1 := o0.kept k1'
      clear o0 g0 k0 k1'
      go_wp2_with (refine append_string rfl (.tmp 14) (.tmp 17) rfl w.heap.size v0 [45] (digs (n / 10000)) rfl o1 rfl (by simp; omega) k1.size ?_; intro v2 w2 o2 g2)
      have k2 := o1.grown (Nat.le_refl _) k1 g2
      clear o1 g2
      have hpl : (10000 : Int) + (n : Int) % 10000 = ((10000 + n % 10000 : Nat) : Int) := by omega
      rw [hpl]
      refine (HD2.out _).mono ?_
      clear hpl
      rintro e w3 ⟨rfl, k3⟩
      go_wp2_with fail
      go_loop [6] (fun x => ∃ s : ByteArray, x = .string s ∧ strip s.data.toList = strip f ∧ (∃ y ∈ s.data.toList, y ≠ 48) ∧ s.size ≤ 4) (fun x => match x with | .string s => s.size | _ => 0)
      case atStart => exact ⟨_, rfl, by rw [tail_bytes], by rw [tail_bytes]; exact FS.out, by rw [← size_toList, tail_bytes, F4.out]; omega⟩
      case round =>
        obtain ⟨s, rfl, hs1, hs2, hs3⟩ := hrel
        have hpos : 0 < s.data.toList.length := by
          obtain ⟨y, hy, _⟩ := hs2
          exact List.length_pos_of_mem hy
        obtain ⟨m, c, hmc⟩ := last_apart hpos
        have hp0 : 0 < s.size := by rw [size_apart hmc]; omega
        have hb := last_byte hmc (Nat.sub_lt hp0 (by omega))
        have hi0 : (0 : Int) ≤ (s.size : Int) - 1 := by omega
        have H1 := Lib.hid hs1; have H2 := Lib.hid hs2; have HM := Lib.hid hmc; have HS := Lib.hid (size_apart hmc)
        clear hs1 hs2 hmc hpos
        by_cases cc : c = 48
        · have hb' : ((s[s.size - 1].toNat : Int) == 48) = true := by rw [hb, cc]; rfl
          clear hb
          go_wp2_with fail
          go_round
          case rel =>
            refine ⟨_, rfl, ?_, ?_, ?_⟩
            · rw [but_last HM.out, ← H1.out, HM.out, cc, strip_zero]
            · rw [but_last HM.out]
              obtain ⟨y, hy, hy2⟩ := H2.out
              rw [HM.out] at hy
              simp at hy
              rcases hy with hy | hy
              · exact ⟨y, hy, hy2⟩
              · subst hy; exact absurd cc hy2
            · rw [← size_toList, but_last HM.out]; have := HS.out; omega
          case measure => simp; omega
        · have hb' : ((s[s.size - 1].toNat : Int) == 48) = false := by
            rw [hb]
            simp only [beq_eq_false_iff_ne]
            intro h; apply cc; apply UInt8.toNat_inj.1; show c.toNat = 48; omega
          clear hb
          have E : Hid ([45] ++ digs (n / 10000) ++ [46] ++ s.data.toList = out) := by
            have e := H1.out
            rw [HM.out, strip_other _ cc] at e
            rw [HM.out, e, F.out, if_pos ca, if_neg cp, FF.out]
            simp
            exact trivial
          go_wp2_with (first | (refine append_byte rfl (.tmp 40) (.tmp 41) rfl w.heap.size v2 ([45] ++ digs (n / 10000)) rfl ((o2.kept k3).alloc _) w3.heap.size 1 46 46 rfl rfl (by simp [go_sem]) (by simp; omega) (by simp; have := k2.size; have := k3.size; omega) ?_; intro v4 w4 o4 g4; have k4 : Kept w w4 := ((o2.kept k3).alloc _).grown (Nat.le_refl _) ((Kept.trans k2 k3).alloc _) g4) | (refine append_str rfl (.tmp 42) (.tmp 43) rfl w.heap.size v4 _ s rfl o4 rfl (by simp; omega) k4.size ?_; intro v5 w5 o5 g5; have hcv := conv_own o5))
          go_ret
          exact ⟨ret_str (by rw [← E.out]; simp), o4.grown (Nat.le_refl _) k4 g5⟩
  · by_cases cp : n % 10000 = 0
    · have c1 : ((n : Int) % 10000 == 0) = true := by simp; omega
      have E : Hid ([] ++ digs (n / 10000) = out) := by rw [F.out, if_neg (by omega), if_pos cp, List.append_nil]; rfl
      go_enter Try.func44, Try.ntmps44
      go_wp2_with fail
      refine (HZ.out _).mono ?_
      rintro e w' ⟨rfl, rfl⟩
      go_wp2_with fail
      refine (HD.out _).mono ?_
      rintro e w1 ⟨rfl, k1⟩
      have o1 := (OwnB.nil w w.heap.size).kept k1
      go_wp2_with (refine append_string rfl (.tmp 14) (.tmp 17) rfl w.heap.size _ [] (digs (n / 10000)) rfl o1 rfl (by simp; omega) k1.size ?_; intro v2 w2 o2 g2; have hcv := conv_own o2)
      go_ret
      exact ⟨ret_str E.out, o1.grown (Nat.le_refl _) k1 g2⟩
    · have c1 : ((n : Int) % 10000 == 0) = false := by simp; omega
      have D2 := fun w => decimal_any (10000 + n % 10000) w (by omega)
      rw [digs_four (by omega)] at D2
      have HD2 := Lib.hid D2
      clear D2
      have FS := Lib.hid (four_some (p := n % 10000) (by omega) cp)
      have FF := Lib.hid (show (digs (10000 + n % 10000)).drop 1 = four (n % 10000) by rw [digs_four (by omega)]; rfl)
      obtain ⟨f, hf⟩ : ∃ f, f = four (n % 10000) := ⟨_, rfl⟩
      have f4 : f.length = 4 := by rw [hf]; rfl
      rw [← hf] at FS FF HD2
      have F4 := Lib.hid f4
      clear hf f4
      go_enter Try.func44, Try.ntmps44
      go_wp2_with fail
      refine (HZ.out _).mono ?_
      rintro e w' ⟨rfl, rfl⟩
      go_wp2_with fail
      refine (HD.out _).mono ?_
      rintro e w1 ⟨rfl, k1⟩
      have o1 := (OwnB.nil w w.heap.size).kept k1
      go_wp2_with (refine append_string rfl (.tmp 14) (.tmp 17) rfl w.heap.size _ [] (digs (n / 10000)) rfl o1 rfl (by simp; omega) k1.size ?_; intro v2 w2 o2 g2)
      have k2 := o1.grown (Nat.le_refl _) k1 g2
      clear o1 g2
      have hpl : (10000 : Int) + (n : Int) % 10000 = ((10000 + n % 10000 : Nat) : Int) := by omega
      rw [hpl]
      refine (HD2.out _).mono ?_
      clear hpl
      rintro e w3 ⟨rfl, k3⟩
      go_wp2_with fail
      go_loop [6] (fun x => ∃ s : ByteArray, x = .string s ∧ strip s.data.toList = strip f ∧ (∃ y ∈ s.data.toList, y ≠ 48) ∧ s.size ≤ 4) (fun x => match x with | .string s => s.size | _ => 0)
      case atStart => exact ⟨_, rfl, by rw [tail_bytes], by rw [tail_bytes]; exact FS.out, by rw [← size_toList, tail_bytes, F4.out]; omega⟩
      case round =>
        obtain ⟨s, rfl, hs1, hs2, hs3⟩ := hrel
        have hpos : 0 < s.data.toList.length := by
          obtain ⟨y, hy, _⟩ := hs2
          exact List.length_pos_of_mem hy
        obtain ⟨m, c, hmc⟩ := last_apart hpos
        have hp0 : 0 < s.size := by rw [size_apart hmc]; omega
        have hb := last_byte hmc (Nat.sub_lt hp0 (by omega))
        have hi0 : (0 : Int) ≤ (s.size : Int) - 1 := by omega
        have H1 := Lib.hid hs1; have H2 := Lib.hid hs2; have HM := Lib.hid hmc; have HS := Lib.hid (size_apart hmc)
        clear hs1 hs2 hmc hpos
        by_cases cc : c = 48
        · have hb' : ((s[s.size - 1].toNat : Int) == 48) = true := by rw [hb, cc]; rfl
          clear hb
          go_wp2_with fail
          go_round
          case rel =>
            refine ⟨_, rfl, ?_, ?_, ?_⟩
            · rw [but_last HM.out, ← H1.out, HM.out, cc, strip_zero]
            · rw [but_last HM.out]
              obtain ⟨y, hy, hy2⟩ := H2.out
              rw [HM.out] at hy
              simp at hy
              rcases hy with hy | hy
              · exact ⟨y, hy, hy2⟩
              · subst hy; exact absurd cc hy2
            · rw [← size_toList, but_last HM.out]; have := HS.out; omega
          case measure => simp; omega
        · have hb' : ((s[s.size - 1].toNat : Int) == 48) = false := by
            rw [hb]
            simp only [beq_eq_false_iff_ne]
            intro h; apply cc; apply UInt8.toNat_inj.1; show c.toNat = 48; omega
          clear hb
          have E : Hid ([] ++ digs (n / 10000) ++ [46] ++ s.data.toList = out) := by
            have e := H1.out
            rw [HM.out, strip_other _ cc] at e
            rw [HM.out, e, F.out, if_neg (by omega), if_neg cp, FF.out]
            simp
            exact trivial
          go_wp2_with (first | (refine append_byte rfl (.tmp 40) (.tmp 41) rfl w.heap.size v2 ([] ++ digs (n / 10000)) rfl ((o2.kept k3).alloc _) w3.heap.size 1 46 46 rfl rfl (by simp [go_sem]) (by simp; omega) (by simp; have := k2.size; have := k3.size; omega) ?_; intro v4 w4 o4 g4; have k4 : Kept w w4 := ((o2.kept k3).alloc _).grown (Nat.le_refl _) ((Kept.trans k2 k3).alloc _) g4) | (refine append_str rfl (.tmp 42) (.tmp 43) rfl w.heap.size v4 _ s rfl o4 rfl (by simp; omega) k4.size ?_; intro v5 w5 o5 g5; have hcv := conv_own o5))
          go_ret
          exact ⟨ret_str (by rw [← E.out]; simp), o4.grown (Nat.le_refl _) k4 g5⟩
end Go.Proofs.Ytingopdeckgpaaa
