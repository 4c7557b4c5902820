/- The reference of layer 1: Digits and Format. -/
import Derived.Test.YtingopdeckgpaaaWText2
import Derived.Test.YtingopdeckgpaaaWRef1
import Derived.Test.YtingopdeckgpaaaWParse
namespace Go.Proofs.Ytingopdeckgpaaa
set_option linter.unusedVariables false
set_option linter.unusedSimpArgs false
open Go.RowKit Lv

theorem conv_one (w : World) (d : Nat) (x : Int) (hx : x = 48 + (d : Int)) (hd : d < 10) : (convert 71 9 (.slice (some ⟨w.heap.size, 0, none⟩) 1 1)).run Try.prog (w.alloc (.cells #[.int .u8 x] 5)) = .ok (.string ⟨[UInt8.ofNat (48 + d)].toArray⟩) (w.alloc (.cells #[.int .u8 x] 5)) := by
  have e : ((UInt8.ofNat (48 + d)).toNat : Int) = x := by simp; omega
  have := run_convert_bytes_arg (P := Try.prog) (w.alloc (.cells #[.int .u8 x] 5)) 71 5 Try.underlying71 Try.underlying5 w.heap.size 0 1 1 ([UInt8.ofNat (48 + d)].map (fun b => (b.toNat : Int))) rfl
    (fun i hi => by
      obtain rfl : i = 0 := by omega
      rw [(Box.new w 5 #[.int .u8 x]).cell]
      simp only [List.map_cons, List.map_nil, e]
      rfl) 9 Try.underlying9
  rw [strOfNums_map] at this
  exact this

set_option maxHeartbeats 800000 in
theorem rDigits_any (n : Nat) (w : World) (h : n ≤ 18446744073709551615) :
    Calls Try.prog 66 #[.int .u64 n] w fun e w' => e = .returned (.string ⟨(digs n).toArray⟩) ∧ Kept w w' := by
  have X := ba_append
  have L0 : (digs n).length ≤ 20 := digs_len 20 (by omega) (by omega) (by omega)
  go_enter Try.func66, Try.ntmps66
  go_wp2_with fail
  go_loopw [0, 3] (fun x s wr => ∃ (m : Nat) (S : List UInt8), x = .int .u64 m ∧ s = .string ⟨S.toArray⟩ ∧ m ≤ 18446744073709551615 ∧ digs n = digs m ++ S ∧ Kept w wr) (fun x _ _ => (intOf x).toNat)
  case atStart => exact ⟨n, [], rfl, rfl, h, by simp, (by repeat (first | with_reducible exact Kept.refl _ | with_reducible apply Kept.drew | with_reducible apply Kept.drewN | with_reducible apply Kept.alloc | (with_reducible refine Kept.setCellX ?_ ?_ _; focus (first | (simp; done) | (simp; omega))) | (with_reducible refine Kept.trans ?_ (by assumption))))⟩
  case round =>
    obtain ⟨m, S, rfl, rfl, hm, hd, hk⟩ := hrel
    have hS : S.length ≤ 20 := by rw [hd, List.length_append] at L0; omega
    have HD := Lib.hid hd
    clear hd L0
    by_cases c : 9 < m
    · have C := conv_one wr (m % 10) (48 + (m : Int) % 10) (by omega) (by omega)
      have E := Lib.hid (digs_ge (n := m) (by omega) (by omega))
      generalize UInt8.ofNat (48 + m % 10) = ch at *
      go_wp2_with fail
      go_roundw
      case rel => exact ⟨m / 10, ch :: S, by simp, rfl, by omega, by rw [HD.out, E.out]; simp, (by repeat (first | with_reducible exact Kept.refl _ | with_reducible apply Kept.drew | with_reducible apply Kept.drewN | with_reducible apply Kept.alloc | (with_reducible refine Kept.setCellX ?_ ?_ _; focus (first | (simp; done) | (simp; omega))) | (with_reducible refine Kept.trans ?_ (by assumption))))⟩
      case measure => simp [intOf]; omega
    · have C := conv_one wr m (48 + (m : Int)) (by omega) (by omega)
      have E := Lib.hid (digs_lt (n := m) (by omega))
      generalize UInt8.ofNat (48 + m) = ch at *
      go_wp2_with fail
      go_ret
      exact ⟨ret_str (by rw [HD.out, E.out]; rfl), (by repeat (first | with_reducible exact Kept.refl _ | with_reducible apply Kept.drew | with_reducible apply Kept.drewN | with_reducible apply Kept.alloc | (with_reducible refine Kept.setCellX ?_ ?_ _; focus (first | (simp; done) | (simp; omega))) | (with_reducible refine Kept.trans ?_ (by assumption))))⟩

set_option maxHeartbeats 800000 in
theorem rformat_any (a : Int) (w : World) (ha : i64 a) :
    Calls Try.prog 45 #[.int .i64 a] w fun e w' => e = .returned (.string ⟨(fmt a).toArray⟩) ∧ Kept w w' := by
  have X := ba_append
  have Z := fun w => rsize_any a w ha
  rw [abs_natAbs] at Z
  have hn : a.natAbs ≤ 9223372036854775808 := by have := ha.1; have := ha.2; omega
  have F := Lib.hid (show fmt a = (if a < 0 then [45] else []) ++ digs (a.natAbs / 10000) ++ (if a.natAbs % 10000 = 0 then [] else 46 :: strip ((digs (10000 + a.natAbs % 10000)).drop 1)) from rfl)
  have HZ := Lib.hid Z
  generalize fmt a = out at *
  clear Z ha
  have D1 := fun w => rDigits_any (a.natAbs / 10000) w (by omega)
  have L1 : (digs (a.natAbs / 10000)).length ≤ 20 := digs_len 20 (by omega) (by omega) (by omega)
  generalize a.natAbs = n at *
  generalize digs (n / 10000) = D at *
  have HD := Lib.hid D1
  clear D1
  by_cases cp : n % 10000 = 0
  · have c1 : ((n : Int) % 10000 == 0) = true := by simp; omega
    by_cases ca : a < 0
    · have E : Hid (45 :: D = out) := by rw [F.out, if_pos ca, if_pos cp, List.append_nil]; rfl
      go_enter Try.func45, Try.ntmps45
      go_wp2_with fail
      refine (HZ.out _).mono ?_
      rintro e w' ⟨rfl, rfl⟩
      go_wp2_with fail
      refine (HD.out _).mono ?_
      rintro e w' ⟨rfl, k1⟩
      go_wp2_with fail
      go_ret
      exact ⟨ret_str E.out, (by repeat (first | with_reducible exact Kept.refl _ | with_reducible apply Kept.drew | with_reducible apply Kept.drewN | with_reducible apply Kept.alloc | (with_reducible refine Kept.setCellX ?_ ?_ _; focus (first | (simp; done) | (simp; omega))) | (with_reducible refine Kept.trans ?_ (by assumption))))⟩
    · have E : Hid (D = out) := by rw [F.out, if_neg ca, if_pos cp, List.append_nil]; rfl
      go_enter Try.func45, Try.ntmps45
      go_wp2_with fail
      refine (HZ.out _).mono ?_
      rintro e w' ⟨rfl, rfl⟩
      go_wp2_with fail
      refine (HD.out _).mono ?_
      rintro e w' ⟨rfl, k1⟩
      go_wp2_with fail
      go_ret
      exact ⟨ret_str E.out, (by repeat (first | with_reducible exact Kept.refl _ | with_reducible apply Kept.drew | with_reducible apply Kept.drewN | with_reducible apply Kept.alloc | (with_reducible refine Kept.setCellX ?_ ?_ _; focus (first | (simp; done) | (simp; omega))) | (with_reducible refine Kept.trans ?_ (by assumption))))⟩
  · have c1 : ((n : Int) % 10000 == 0) = false := by simp; omega
    have D2 := fun w => rDigits_any (10000 + n % 10000) w (by omega)
    rw [digs_four (by omega)] at D2
    have FS := Lib.hid (four_some (p := n % 10000) (by omega) cp)
    have FF := Lib.hid (show (digs (10000 + n % 10000)).drop 1 = four (n % 10000) by rw [digs_four (by omega)]; rfl)
    obtain ⟨f, hf⟩ : ∃ f, f = four (n % 10000) := ⟨_, rfl⟩
    have f4 : f.length = 4 := by rw [hf]; rfl
    rw [← hf] at FS FF D2
    have hpl : ((10000 + n % 10000 : Nat) : Int) = (10000 : Int) + (n : Int) % 10000 := by omega
    rw [hpl] at D2
    have HD2 := Lib.hid D2
    have F4 := Lib.hid f4
    clear hf f4 D2 hpl
    by_cases ca : a < 0
    · go_enter Try.func45, Try.ntmps45
      go_wp2_with fail
      refine (HZ.out _).mono ?_
      rintro e w' ⟨rfl, rfl⟩
      go_wp2_with fail
      refine (HD.out _).mono ?_
      rintro e w' ⟨rfl, k1⟩
      go_wp2_with fail
      refine (HD2.out _).mono ?_
      rintro e w' ⟨rfl, k2⟩
      go_wp2_with fail
      go_loop [6] (fun x => ∃ s : ByteArray, x = .string s ∧ strip s.data.toList = strip f ∧ (∃ y ∈ s.data.toList, y ≠ 48) ∧ s.size ≤ 4) (fun x => match x with | .string s => s.size | _ => 0)
      case atStart => exact ⟨_, rfl, by rw [tail_bytes], by rw [tail_bytes]; exact FS.out, by rw [← size_toList, tail_bytes, F4.out]; omega⟩
      case round =>
        obtain ⟨s, rfl, hs1, hs2, hs3⟩ := hrel
        have hpos : 0 < s.data.toList.length := by
          obtain ⟨y, hy, _⟩ := hs2
          exact List.length_pos_of_mem hy
        obtain ⟨m, c, hmc⟩ := last_apart hpos
        have hp0 : 0 < s.size := by rw [size_apart hmc]; omega
        have hb := last_byte hmc (Nat.sub_lt hp0 (by omega))
        have hi0 : (0 : Int) ≤ (s.size : Int) - 1 := by omega
        have H1 := Lib.hid hs1; have H2 := Lib.hid hs2; have HM := Lib.hid hmc; have HS := Lib.hid (size_apart hmc)
        clear hs1 hs2 hmc hpos
        by_cases cc : c = 48
        · have hb' : ((s[s.size - 1].toNat : Int) == 48) = true := by rw [hb, cc]; rfl
          clear hb
          go_wp2_with fail
          go_round
          case rel =>
            refine ⟨_, rfl, ?_, ?_, ?_⟩
            · rw [but_last HM.out, ← H1.out, HM.out, cc, strip_zero]
            · rw [but_last HM.out]
              obtain ⟨y, hy, hy2⟩ := H2.out
              rw [HM.out] at hy
              simp at hy
              rcases hy with hy | hy
              · exact ⟨y, hy, hy2⟩
              · subst hy; exact absurd cc hy2
            · rw [← size_toList, but_last HM.out]; have := HS.out; omega
          case measure => simp; omega
        · have hb' : ((s[s.size - 1].toNat : Int) == 48) = false := by
            rw [hb]
            simp only [beq_eq_false_iff_ne]
            intro h; apply cc; apply UInt8.toNat_inj.1; show c.toNat = 48; omega
          clear hb
          have E : Hid ((45 :: D) ++ [46] ++ s.data.toList = out) := by
            have e := H1.out
            rw [HM.out, strip_other _ cc] at e
            rw [HM.out, e, F.out, if_pos ca, if_neg cp, FF.out]
            simp
            exact trivial
          have XS : ∀ l : List UInt8, (⟨l.toArray⟩ : ByteArray) ++ s = ⟨(l ++ s.data.toList).toArray⟩ := fun l => ba_append l s.data.toList
          go_wp2_with fail
          go_ret
          exact ⟨ret_str (by rw [← E.out]; simp), (by repeat (first | with_reducible exact Kept.refl _ | with_reducible apply Kept.drew | with_reducible apply Kept.drewN | with_reducible apply Kept.alloc | (with_reducible refine Kept.setCellX ?_ ?_ _; focus (first | (simp; done) | (simp; omega))) | (with_reducible refine Kept.trans ?_ (by assumption))))⟩
    · go_enter Try.func45, Try.ntmps45
      go_wp2_with fail
      refine (HZ.out _).mono ?_
      rintro e w' ⟨rfl, rfl⟩
      go_wp2_with fail
      refine (HD.out _).mono ?_
      rintro e w' ⟨rfl, k1⟩
      go_wp2_with fail
      refine (HD2.out _).mono ?_
      rintro e w' ⟨rfl, k2⟩
      go_wp2_with fail
      go_loop [6] (fun x => ∃ s : ByteArray, x = .string s ∧ strip s.data.toList = strip f ∧ (∃ y ∈ s.data.toList, y ≠ 48) ∧ s.size ≤ 4) (fun x => match x with | .string s => s.size | _ => 0)
      case atStart => exact ⟨_, rfl, by rw [tail_bytes], by rw [tail_bytes]; exact FS.out, by rw [← size_toList, tail_bytes, F4.out]; omega⟩
      case round =>
        obtain ⟨s, rfl, hs1, hs2, hs3⟩ := hrel
        have hpos : 0 < s.data.toList.length := by
          obtain ⟨y, hy, _⟩ := hs2
          exact List.length_pos_of_mem hy
        obtain ⟨m, c, hmc⟩ := last_apart hpos
        have hp0 : 0 < s.size := by rw [size_apart hmc]; omega
        have hb := last_byte hmc (Nat.sub_lt hp0 (by omega))
        have hi0 : (0 : Int) ≤ (s.size : Int) - 1 := by omega
        have H1 := Lib.hid hs1; have H2 := Lib.hid hs2; have HM := Lib.hid hmc; have HS := Lib.hid (size_apart hmc)
        clear hs1 hs2 hmc hpos
        by_cases cc : c = 48
        · have hb' : ((s[s.size - 1].toNat : Int) == 48) = true := by rw [hb, cc]; rfl
          clear hb
          go_wp2_with fail
          go_round
          case rel =>
            refine ⟨_, rfl, ?_, ?_, ?_⟩
            · rw [but_last HM.out, ← H1.out, HM.out, cc, strip_zero]
            · rw [but_last HM.out]
              obtain ⟨y, hy, hy2⟩ := H2.out
              rw [HM.out] at hy
              simp at hy
              rcases hy with hy | hy
              · exact ⟨y, hy, hy2⟩
              · subst hy; exact absurd cc hy2
            · rw [← size_toList, but_last HM.out]; have := HS.out; omega
          case measure => simp; omega
        · have hb' : ((s[s.size - 1].toNat : Int) == 48) = false := by
            rw [hb]
            simp only [beq_eq_false_iff_ne]
            intro h; apply cc; apply UInt8.toNat_inj.1; show c.toNat = 48; omega
          clear hb
          have E : Hid (D ++ [46] ++ s.data.toList = out) := by
            have e := H1.out
            rw [HM.out, strip_other _ cc] at e
            rw [HM.out, e, F.out, if_neg (by omega), if_neg cp, FF.out]
            simp
            exact trivial
          have XS : ∀ l : List UInt8, (⟨l.toArray⟩ : ByteArray) ++ s = ⟨(l ++ s.data.toList).toArray⟩ := fun l => ba_append l s.data.toList
          go_wp2_with fail
          go_ret
          exact ⟨ret_str (by rw [← E.out]; simp), (by repeat (first | with_reducible exact Kept.refl _ | with_reducible apply Kept.drew | with_reducible apply Kept.drewN | with_reducible apply Kept.alloc | (with_reducible refine Kept.setCellX ?_ ?_ _; focus (first | (simp; done) | (simp; omega))) | (with_reducible refine Kept.trans ?_ (by assumption))))⟩
end Go.Proofs.Ytingopdeckgpaaa
