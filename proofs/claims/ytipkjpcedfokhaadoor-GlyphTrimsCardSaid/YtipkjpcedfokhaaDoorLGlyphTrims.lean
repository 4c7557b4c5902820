/- The law GlyphTrims, walked. -/
import Derived.Test.YtipkjpcedfokhaaDoorGWithout
import Derived.Test.YtipkjpcedfokhaaDoorMCaps
namespace Go.Proofs.YtipkjpcedfokhaaDoor
set_option linter.unusedVariables false
set_option linter.unusedSimpArgs false
open Go.RowKit Lv

theorem list_of (s : ByteArray) : ∃ l : List UInt8, s = ⟨l.toArray⟩ := ⟨s.data.toList, bytes_of rfl⟩
theorem last_take {a : List UInt8} {j : Nat} (h : j < a.length) (h0 : 0 < j) : (a.take j).getLast? = some (a[j - 1]'(by omega)) := by
  rw [List.getLast?_eq_getElem?, List.length_take, List.getElem?_take, Nat.min_eq_left (by omega), if_pos (by omega), List.getElem?_eq_getElem]
/-- one place of the second loop -/
theorem place_step {a : List UInt8} {j : Nat} (h : j < a.length) :
    (a[j] = 32 → trim (a.take (j + 1)) = trim (a.take j)) ∧
    (a[j] ≠ 32 → ∀ h0 : 0 < j, a[j - 1]'(by omega) = 32 → 0 < (trim (a.take j)).length → (trim (a.take (j + 1))).length = (trim (a.take j)).length + 2 ∧ (trim a)[(trim (a.take j)).length]? = some 32 ∧ (trim a)[(trim (a.take j)).length + 1]? = some a[j]) ∧
    (a[j] ≠ 32 → (j = 0 ∨ (∃ h0 : 0 < j, a[j - 1]'(by omega) ≠ 32) ∨ (trim (a.take j)).length = 0) → (trim (a.take (j + 1))).length = (trim (a.take j)).length + 1 ∧ (trim a)[(trim (a.take j)).length]? = some a[j]) := by
  have e : a.take (j + 1) = a.take j ++ [a[j]] := List.take_succ_eq_append_getElem h
  obtain ⟨r, hr⟩ := trim_prefix (a.take (j + 1)) (a.drop (j + 1))
  rw [List.take_append_drop] at hr
  refine ⟨fun c => ?_, fun c h0 b n => ?_, fun c z => ?_⟩
  · rw [e, trim_snoc, if_pos c]
  · have n2 : trim (a.take j) ≠ [] := List.length_pos_iff.1 n
    have s : trim (a.take (j + 1)) = trim (a.take j) ++ [32, a[j]] := by
      rw [e, trim_snoc, if_neg c, if_pos ⟨n2, by rw [last_take h h0, b]⟩]
    rw [hr, s]
    refine ⟨by simp, ?_, ?_⟩
    · rw [List.append_assoc, List.getElem?_append_right (Nat.le_refl _), Nat.sub_self]; rfl
    · rw [List.append_assoc, List.getElem?_append_right (by omega), Nat.add_sub_cancel_left]; rfl
  · have s : trim (a.take (j + 1)) = trim (a.take j) ++ [a[j]] := by
      rw [e, trim_snoc, if_neg c, if_neg]
      rintro ⟨x, y⟩
      rcases z with z | ⟨h0, z⟩ | z
      · subst z; simp at y
      · rw [last_take h h0] at y; exact z (Option.some.inj y)
      · exact x (List.eq_nil_of_length_eq_zero z)
    rw [hr, s]
    refine ⟨by simp, ?_⟩
    rw [List.append_assoc, List.getElem?_append_right (Nat.le_refl _), Nat.sub_self]; rfl
theorem byte_q {l : List UInt8} {k : Nat} {c : UInt8} (e : l[k]? = some c) : ∀ h, (((ByteArray.mk l.toArray)[k]'h).toNat : Int) = c.toNat := fun h => by
  have e2 : (ByteArray.mk l.toArray)[k]'h = c := by
    show l[k]'h = c
    rw [List.getElem?_eq_getElem h] at e; exact Option.some.inj e
  rw [e2]
theorem not_blank {c : UInt8} (h : c ≠ 32) : ((c.toNat : Int) == 32) = false := by
  rw [beq_eq_false_iff_ne]; intro e; apply h; apply UInt8.toNat_inj.1; exact Int.ofNat_inj.1 e

set_option maxHeartbeats 1000000 in
set_option maxRecDepth 100000 in
theorem GlyphTrims_walk (a0 : ByteArray) (w0 : a0.size ≤ maxLen) (w : World) (m : Int) (hm : Mx w m) :
    Calls Tryd.prog 4 #[.string a0] w fun e w' => e = .returned (.bool true) ∧ Below w.heap.size w w' := by
  obtain ⟨a, rfl⟩ := list_of a0
  have ha : a.length ≤ maxLen := w0
  clear w0
  unfold maxLen at ha
  have Z := ba_size
  have X := ba_append
  have K := Lib.hid (fun w h => known4_any w m h)
  have HM := Lib.hid hm
  clear hm
  by_cases c1 : 600 < a.length
  · go_enter Tryd.func4, Tryd.ntmps4
    go_wp2_with fail
    refine (K.out _ HM.out).mono ?_
    rintro e w1 ⟨rfl, k1⟩
    go_wp2_with fail
    go_ret
    exact ⟨rfl, (by repeat (first | with_reducible exact Kept.refl _ | with_reducible apply Kept.drew | with_reducible apply Kept.drewN | with_reducible apply Kept.alloc | (with_reducible refine Kept.setCellX ?_ ?_ _; focus (first | (simp; done) | (simp; omega))) | (with_reducible refine Kept.trans ?_ (by assumption))))⟩
  · have tl := trim_len a
    have T := Lib.hid (fun w h => trim_any a w m (by omega) h)
    have TT := fun w h => trim_any (trim a) w m (by omega) h
    rw [trim_trim] at TT
    have W1 := fun w => without_any (trim a) w (by omega)
    rw [keep_trim] at W1
    have W2 := Lib.hid (fun w => without_any a w (by omega))
    have U1 := Lib.hid (fun w => upper_any (trim a) w (by omega))
    have U2 := Lib.hid (fun w => upper_any a w (by omega))
    have T2 := fun w h => trim_any (upper a) w m (by rw [upper_len]; omega) h
    rw [← upper_trim] at T2
    have T3 := fun w h => trim_any (32 :: (a ++ [32, 32])) w m (by simp; omega) h
    rw [trim_around] at T3
    have HTT := Lib.hid TT; have HW1 := Lib.hid W1; have HT2 := Lib.hid T2; have HT3 := Lib.hid T3
    have NT : Hid (Neat (trim a)) := trim_neat a
    have PS : Hid (∀ j (h : j < a.length), _) := fun j h => place_step (a := a) (j := j) h
    have TE : Hid ((trim (a.take a.length)).length = (trim a).length) := by show _ = _; rw [List.take_length]
    have T0 : Hid ((trim (a.take 0)).length = 0) := rfl
    clear TT W1 T2 T3
    generalize trim a = t at *
    generalize keep a = kp at *
    generalize upper t = ut at *
    go_enter Tryd.func4, Tryd.ntmps4
    go_wp2_with fail
    refine (T.out _ HM.out).mono ?_
    rintro e w1 ⟨rfl, k1⟩
    have m1 := Lib.hid (HM.out.kept k1)
    go_wp2_with fail
    refine (HTT.out _ m1.out).mono ?_
    rintro e w2 ⟨rfl, k2⟩
    go_wp2_with fail
    refine (HW1.out _).mono ?_
    rintro e w' ⟨rfl, k3⟩
    go_wp2_with fail
    refine (W2.out _).mono ?_
    rintro e w' ⟨rfl, k4⟩
    go_wp2_with fail
    refine (U1.out _).mono ?_
    rintro e w' ⟨rfl, k5⟩
    go_wp2_with fail
    refine (U2.out _).mono ?_
    rintro e w' ⟨rfl, k6⟩
    have m6 := Lib.hid (((((m1.out.kept k2).kept k3).kept k4).kept k5).kept k6)
    go_wp2_with fail
    refine (HT2.out _ m6.out).mono ?_
    rintro e w7 ⟨rfl, k7⟩
    have m7 := Lib.hid (m6.out.kept k7)
    go_wp2_with fail
    refine (HT3.out _ m7.out).mono ?_
    rintro e w8 ⟨rfl, k8⟩
    have kk := ((((((k1.trans k2).trans k3).trans k4).trans k5).trans k6).trans k7).trans k8
    clear k1 k2 k3 k4 k5 k6 k7 k8
    go_wp2_with fail
    go_loopw [4] (fun i wr => ∃ k : Nat, k ≤ t.length ∧ i = .int .i64 k ∧ Kept w wr) (fun i _ => t.length - (intOf i).toNat)
    case atStart => exact ⟨0, by omega, rfl, kk⟩
    case round =>
      obtain ⟨k, hk, rfl, kr⟩ := hrel
      by_cases c : k < t.length
      · have q := byte_q (List.getElem?_eq_getElem c)
        have nt := NT.out k
        rw [List.getElem?_eq_getElem c] at nt
        generalize t[k] = ch at *
        by_cases e : ch = 32
        · subst e
          obtain ⟨n1, n2, n3⟩ := nt rfl
          have q0 : ∀ h, (((ByteArray.mk t.toArray)[k]'h).toNat : Int) = 32 := q
          have e3 : t[k - 1]? = some (t[k - 1]'(by omega)) := List.getElem?_eq_getElem (by omega)
          have q2 := byte_q e3
          rw [e3] at n3
          generalize t[k - 1]'(by omega) = c2 at *
          have b2 := not_blank (fun x : c2 = 32 => n3 (by rw [x]))
          have b3 : ((k : Int) == 0) = false := by rw [beq_eq_false_iff_ne]; omega
          have b4 : ((k : Int) == (t.length : Int) - 1) = false := by rw [beq_eq_false_iff_ne]; omega
          have i0 : (0 : Int) ≤ (k : Int) - 1 := by omega
          clear nt e3 n3 q
          go_wp2_with fail
          try (go_region; go_wp2_with fail)
          go_roundw
          case rel => exact ⟨k + 1, by omega, by go_num, by first | exact kr | exact kr.drew⟩
          case measure => (simp [intOf]; try omega)
        · have b1 := not_blank e
          clear nt e
          go_wp2_with fail
          try (go_region; go_wp2_with fail)
          go_roundw
          case rel => exact ⟨k + 1, by omega, by go_num, by first | exact kr | exact kr.drew⟩
          case measure => (simp [intOf]; try omega)
      · obtain rfl : k = t.length := by omega
        go_wp2_with fail
        go_loopw [5, 6] (fun kv i wx => ∃ j : Nat, j ≤ a.length ∧ kv = .int .i64 ((trim (a.take j)).length : Nat) ∧ i = .int .i64 j ∧ Kept w wx) (fun _ i _ => a.length - (intOf i).toNat)
        case atStart => exact ⟨0, by omega, by rw [T0.out]; rfl, rfl, kr⟩
        case round =>
          obtain ⟨j, hj, rfl, rfl, kr2⟩ := hrel
          by_cases c : j < a.length
          · obtain ⟨s1, s2, s3⟩ := PS.out j c
            obtain ⟨ch, hch⟩ : ∃ ch, ch = a[j] := ⟨_, rfl⟩
            have q := byte_q (l := a) (k := j) (c := ch) (by rw [hch]; exact List.getElem?_eq_getElem c)
            rw [← hch] at s1 s2 s3
            have s1' : ch = 32 → (trim (a.take (j + 1))).length = (trim (a.take j)).length := fun h => by rw [s1 h]
            clear s1 hch
            obtain ⟨P, hP⟩ : ∃ P, P = (trim (a.take j)).length := ⟨_, rfl⟩
            obtain ⟨P2, hP2⟩ : ∃ P, P = (trim (a.take (j + 1))).length := ⟨_, rfl⟩
            rw [← hP] at s1' s2 s3 ⊢
            rw [← hP2] at s1' s2 s3
            have HP2 := Lib.hid hP2
            clear hP hP2
            by_cases e : ch = 32
            · have g1 := Lib.hid (s1' e)
              subst e
              have q0 : ∀ h, (((ByteArray.mk a.toArray)[j]'h).toNat : Int) = 32 := q
              clear s1' s2 s3 q
              go_wp2_with fail
              try (go_region; go_wp2_with fail)
              go_roundw
              case rel => exact ⟨j + 1, by omega, by rw [← HP2.out, g1.out], by go_num, by first | exact kr2 | exact kr2.drew⟩
              case measure => (simp [intOf]; try omega)
            · have b1 := not_blank e
              have lt : ∀ i : Nat, ∀ x, t[i]? = some x → i < t.length := fun i x h => (List.getElem?_eq_some_iff.1 h).1
              have LT := Lib.hid lt
              clear lt s1'
              by_cases z : j = 0
              · have g := s3 e (Or.inl z)
                have g1 := Lib.hid g.1
                have q1 := byte_q g.2
                have l1 := LT.out _ _ g.2
                have d1 : decide ((t.length : Int) ≤ (P : Int)) = false := by rw [decide_eq_false_iff_not]; omega
                have d0 : decide (t.length ≤ P) = false := by rw [decide_eq_false_iff_not]; omega
                clear s2 s3 g e
                subst z
                go_wp2_with fail
                try (go_region; go_wp2_with fail)
                go_roundw
                case rel => exact ⟨0 + 1, by omega, by rw [← HP2.out, g1.out]; rfl, by go_num, by first | exact kr2 | exact kr2.drew⟩
                case measure => (simp [intOf]; try omega)
              · have h0 : 0 < j := by omega
                have i0 : (0 : Int) ≤ (j : Int) - 1 := by omega
                have q3 := byte_q (l := a) (k := j - 1) (List.getElem?_eq_getElem (by omega))
                by_cases y : a[j - 1]'(by omega) = 32
                · rw [y] at q3
                  have q4 : ∀ h, (((ByteArray.mk a.toArray)[j - 1]'h).toNat : Int) = 32 := q3
                  by_cases n : 0 < P
                  · have g := s2 e h0 y n
                    have g1 := Lib.hid g.1
                    have q1 : ∀ h, (((ByteArray.mk t.toArray)[P]'h).toNat : Int) = 32 := byte_q g.2.1
                    have q2 := byte_q g.2.2
                    have l1 := LT.out _ _ g.2.1
                    have d1 : decide ((t.length : Int) ≤ (P : Int)) = false := by rw [decide_eq_false_iff_not]; omega
                    have d0 : decide (t.length ≤ P) = false := by rw [decide_eq_false_iff_not]; omega
                    have l2 := LT.out _ _ g.2.2
                    have d2 : decide ((t.length : Int) ≤ (P : Int) + 1) = false := by rw [decide_eq_false_iff_not]; omega
                    have d3 : decide ((0 : Int) < (P : Int)) = true := by rw [decide_eq_true_eq]; omega
                    clear s2 s3 g e y q3
                    go_wp2_with fail
                    try (go_region; go_wp2_with fail)
                    go_roundw
                    case rel => exact ⟨j + 1, by omega, by rw [← HP2.out, g1.out]; rfl, by go_num, by first | exact kr2 | exact kr2.drew⟩
                    case measure => (simp [intOf]; try omega)
                  · have g := s3 e (Or.inr (Or.inr (by omega)))
                    have g1 := Lib.hid g.1
                    have q1 := byte_q g.2
                    have l1 := LT.out _ _ g.2
                    have d1 : decide ((t.length : Int) ≤ (P : Int)) = false := by rw [decide_eq_false_iff_not]; omega
                    have d0 : decide (t.length ≤ P) = false := by rw [decide_eq_false_iff_not]; omega
                    clear s2 s3 g e y q3
                    have d3 : decide ((0 : Int) < (P : Int)) = false := by rw [decide_eq_false_iff_not]; omega
                    go_wp2_with fail
                    try (go_region; go_wp2_with fail)
                    go_roundw
                    case rel => exact ⟨j + 1, by omega, by rw [← HP2.out, g1.out]; rfl, by go_num, by first | exact kr2 | exact kr2.drew⟩
                    case measure => (simp [intOf]; try omega)
                · have g := s3 e (Or.inr (Or.inl ⟨h0, y⟩))
                  have g1 := Lib.hid g.1
                  have q1 := byte_q g.2
                  have l1 := LT.out _ _ g.2
                  have d1 : decide ((t.length : Int) ≤ (P : Int)) = false := by rw [decide_eq_false_iff_not]; omega
                  have d0 : decide (t.length ≤ P) = false := by rw [decide_eq_false_iff_not]; omega
                  have b2 := not_blank y
                  generalize (a[j - 1]'(by omega)) = c2 at *
                  clear s2 s3 g e y
                  go_wp2_with fail
                  try (go_region; go_wp2_with fail)
                  go_roundw
                  case rel => exact ⟨j + 1, by omega, by rw [← HP2.out, g1.out]; rfl, by go_num, by first | exact kr2 | exact kr2.drew⟩
                  case measure => (simp [intOf]; try omega)
          · obtain rfl : j = a.length := by omega
            rw [TE.out]
            go_wp2_with fail
            refine (K.out _ (HM.out.kept kr2)).mono ?_
            rintro e w9 ⟨rfl, k9⟩
            go_wp2_with fail
            go_ret
            exact ⟨rfl, kr2.trans k9⟩
end Go.Proofs.YtipkjpcedfokhaaDoor
