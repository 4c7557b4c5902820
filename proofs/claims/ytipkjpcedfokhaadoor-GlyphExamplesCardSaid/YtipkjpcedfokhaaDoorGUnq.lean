/- Layer 4: the reference's Quote, and Unquote of both. -/
import Derived.Test.YtipkjpcedfokhaaDoorGRef2
import Derived.Test.YtipkjpcedfokhaaDoorMUnq
import Derived.WalkMore
namespace Go.Proofs.YtipkjpcedfokhaaDoor
set_option linter.unusedVariables false
set_option linter.unusedSimpArgs false
open Go.RowKit Lv

theorem list_of (s : ByteArray) : ∃ l : List UInt8, s = ⟨l.toArray⟩ := ⟨s.data.toList, bytes_of rfl⟩
theorem n34 {c : UInt8} (h : c ≠ 34) : ((c.toNat : Int) != 34) = true := (not_byte (d := 34) (byte_ne h)).2
theorem qq_step {l : List UInt8} {k : Nat} (h : k < l.length) : qq (l.take (k + 1)) = qq (l.take k) ++ (if l[k] = 34 then [34, 34] else [l[k]]) := by
  rw [List.take_succ_eq_append_getElem h]
  unfold qq
  rw [List.flatMap_append]
  simp

set_option maxHeartbeats 800000 in
set_option maxRecDepth 100000 in
theorem rquote_any (l : List UInt8) (w : World) (hl : l.length ≤ 1000000) : Calls Tryd.prog 36 #[.string ⟨l.toArray⟩] w fun e w' => e = .returned (.tuple #[.string ⟨(dQuote l).1.toArray⟩, .int .i64 (dQuote l).2]) ∧ Kept w w' := by
  have C := Lib.hid (fun w => rcheck_any l w hl)
  by_cases c : dCheck l = 0
  · have E : Hid (dQuote l = (34 :: (qq l ++ [34]), 0)) := if_pos c
    have Z := ba_size
    have PS : Hid (∀ j (h : j < l.length), _) := fun j h => qq_step (l := l) (k := j) h
    have QL : Hid (∀ k, (qq (l.take k)).length ≤ 2 * k) := fun k => by have := qq_len (l.take k); rw [List.length_take] at this; omega
    rw [c] at C
    clear c
    have own0 : OwnB (w.alloc (.cells #[.int .u8 34] 5)) w.heap.size (.slice (some ⟨w.heap.size, 0, none⟩) 1 1) [34] :=
      World.ownsRow_lit w #[.int .u8 34] 1 (Nat.le_refl _) (by decide) rfl
    have HO0 := Lib.hid own0
    clear own0
    go_enter Tryd.func36, Tryd.ntmps36
    go_wp2_with fail
    refine (C.out _).mono ?_
    rintro e w' ⟨rfl, rfl⟩
    go_wp2_with fail
    go_loopw [5, 6] (fun s i wr => ∃ k : Nat, k ≤ l.length ∧ i = .int .i64 k ∧ OwnB wr w.heap.size s (34 :: qq (l.take k)) ∧ Kept w wr) (fun _ i _ => l.length - (intOf i).toNat)
    case atStart => exact ⟨0, by omega, rfl, HO0.out, (by repeat (first | with_reducible exact Kept.refl _ | with_reducible apply Kept.drew | with_reducible apply Kept.drewN | with_reducible apply Kept.alloc | (with_reducible refine Kept.setCellX ?_ ?_ _; focus (first | (simp; done) | (simp; omega))) | (with_reducible refine Kept.trans ?_ (by assumption))))⟩
    case round =>
      obtain ⟨k, hk, rfl, own, hkept⟩ := hrel
      obtain ⟨T, hT⟩ : ∃ T, T = 34 :: qq (l.take k) := ⟨_, rfl⟩
      have tl : T.length ≤ 2 * k + 1 := by rw [hT]; have := QL.out k; simp; omega
      rw [← hT] at own
      have HT := Lib.hid hT
      have hs := hkept.size
      obtain ⟨p, cp, rfl⟩ := own.form
      by_cases c : k < l.length
      · have st := PS.out k c
        obtain ⟨ch, hch⟩ : ∃ ch, ch = l[k] := ⟨_, rfl⟩
        have q := byte_k (l := l) (k := k) (c := ch) (by rw [hch]; exact List.getElem?_eq_getElem c)
        rw [← hch] at st
        have ST := Lib.hid st
        clear hT hch st
        have ho := Lib.hid (own.alloc (Obj.cells #[.int .u8 ch.toNat] 5))
        clear own
        by_cases e : ch = 34
        · subst e
          have q0 : ∀ h, (((ByteArray.mk l.toArray)[k]'h).toNat : Int) = 34 := q
          clear q
          have ho' : Hid (OwnB (wr.alloc (Obj.cells #[.int .u8 34] 5)) w.heap.size (.slice p T.length cp) T) := ho
          clear ho Z
          go_wp2_with (first
            | (refine append_byte rfl (.tmp 19) (.tmp 23) rfl w.heap.size (.slice p T.length cp) T rfl ho'.out wr.heap.size 1 34 34 rfl rfl (by simp [go_sem]) (by omega) (by have := hkept.size; simp; omega) ?_
               intro v1 w1 o1 gr
               have k1 := ho'.out.grown (Nat.le_refl _) (hkept.alloc _) gr
               have ho1 := Lib.hid (o1.alloc (Obj.cells #[.int .u8 34] 5))
               clear o1 gr ho')
            | (refine append_byte rfl (.tmp 29) (.tmp 30) rfl w.heap.size v1 (T ++ [34]) rfl ho1.out w1.heap.size 1 34 34 rfl rfl (by simp [go_sem]) (by simp; omega) (by have := k1.size; simp; omega) ?_
               intro v2 w2 o2 gr))
          have k2 := ho1.out.grown (Nat.le_refl _) (k1.alloc _) gr
          go_wp2_with fail
          go_roundw
          case rel => exact ⟨k + 1, by omega, by go_num, by rw [ST.out, if_pos rfl]; rw [HT.out] at o2; simpa using o2, k2⟩
          case measure => (simp [intOf]; try omega)
        · have b1 : ((ch.toNat : Int) == 34) = false := (not_byte (d := 34) (byte_ne e)).1
          clear Z
          go_wp2_with (refine append_byte rfl (.tmp 19) (.tmp 23) rfl w.heap.size (.slice p T.length cp) T rfl ho.out wr.heap.size 1 ch.toNat ch rfl rfl (by simp [go_sem]) (by omega) (by have := hkept.size; simp; omega) ?_; intro v1 w1 o1 gr)
          have k1 := ho.out.grown (Nat.le_refl _) (hkept.alloc _) gr
          go_wp2_with fail
          go_roundw
          case rel => exact ⟨k + 1, by omega, by go_num, by rw [ST.out, if_neg e]; rw [HT.out] at o1; simpa using o1, k1⟩
          case measure => (simp [intOf]; try omega)
      · obtain rfl : k = l.length := by omega
        have E2 : Hid (T ++ [34] = (dQuote l).1) := by show _ = _; rw [HT.out, E.out, List.take_length]; rfl
        have E3 : Hid ((dQuote l).2 = 0) := by show _ = _; rw [E.out]
        clear hT
        have ho := Lib.hid (own.alloc (Obj.cells #[.int .u8 34] 5))
        clear own
        go_wp2_with (refine append_byte rfl (.tmp 32) (.tmp 33) rfl w.heap.size (.slice p T.length cp) T rfl ho.out wr.heap.size 1 34 34 rfl rfl (by simp [go_sem]) (by omega) (by have := hkept.size; simp; omega) ?_; intro v1 w1 o1 gr; have k1 := ho.out.grown (Nat.le_refl _) (hkept.alloc _) gr; have hcv := conv_own o1; clear o1 gr)
        go_ret2
        exact ⟨ret_si E2.out E3.out.symm, k1⟩
  · have E : Hid (dQuote l = ([], dCheck l)) := if_neg c
    have c1 : (dCheck l != 0) = true := by simpa using c
    generalize dCheck l = d at *
    generalize dQuote l = r at *
    clear c
    go_enter Tryd.func36, Tryd.ntmps36
    go_wp2_with fail
    refine (C.out _).mono ?_
    rintro e w' ⟨rfl, rfl⟩
    go_wp2_with fail
    go_ret2
    exact ⟨ret_si (by rw [E.out]) (by rw [E.out]), (by repeat (first | with_reducible exact Kept.refl _ | with_reducible apply Kept.drew | with_reducible apply Kept.drewN | with_reducible apply Kept.alloc | (with_reducible refine Kept.setCellX ?_ ?_ _; focus (first | (simp; done) | (simp; omega))) | (with_reducible refine Kept.trans ?_ (by assumption))))⟩

set_option maxHeartbeats 1600000 in
set_option maxRecDepth 100000 in
theorem unquote_any (l : List UInt8) (w : World) (hl : l.length ≤ 1000000) : Calls Tryd.prog 30 #[.string ⟨l.toArray⟩] w fun e w' => e = .returned (.tuple #[.string ⟨(dUnq l).1.toArray⟩, .int .i64 (dUnq l).2]) ∧ Kept w w' := by
  have Z := ba_size
  have P := Lib.hid (fun w => printable_any l w hl)
  by_cases c2 : l.length < 2
  · have E := Lib.hid (dUnq_no (lit_short c2))
    go_enter Tryd.func30, Tryd.ntmps30
    go_wp2_with fail
    go_step3
    go_wp2_with fail
    try rw [Exit.noGoto_ret]
    go_ret2
    exact ⟨ret_si (by rw [E.out]) (by rw [E.out]), (by repeat (first | with_reducible exact Kept.refl _ | with_reducible apply Kept.drew | with_reducible apply Kept.drewN | with_reducible apply Kept.alloc | (with_reducible refine Kept.setCellX ?_ ?_ _; focus (first | (simp; done) | (simp; omega))) | (with_reducible refine Kept.trans ?_ (by assumption))))⟩
  have c2' : decide ((l.length : Int) < 2) = false := by rw [decide_eq_false_iff_not]; omega
  have e0 : l[0]? = some (l[0]'(by omega)) := List.getElem?_eq_getElem (by omega)
  have e1 : l[l.length - 1]? = some (l[l.length - 1]'(by omega)) := List.getElem?_eq_getElem (by omega)
  have q0 := byte_k e0
  have q1 := byte_k e1
  generalize (l[0]'(by omega)) = x0 at *
  generalize (l[l.length - 1]'(by omega)) = x1 at *
  have i1 : (0 : Int) ≤ (l.length : Int) - 1 := by omega
  by_cases c0 : x0 = 34
  · by_cases c1 : x1 = 34
    · subst c0; subst c1
      have q0' : ∀ h, (((ByteArray.mk l.toArray)[0]'h).toNat : Int) = 34 := q0
      have q1' : ∀ h, (((ByteArray.mk l.toArray)[l.length - 1]'h).toNat : Int) = 34 := q1
      clear q0 q1
      by_cases cp : plain l = true
      · have LIT := Lib.hid (lit_yes (by omega) e0 e1 cp)
        rw [cp] at P
        clear e0 e1 cp
        go_enter Tryd.func30, Tryd.ntmps30
        go_wp2_with fail
        go_step3
        go_wp2_with fail
        refine (P.out _).mono ?_
        rintro e w' ⟨rfl, k0⟩
        go_wp2_with fail
        go_step3
        go_wp2_with fail
        go_loopw [5, 6] (fun s i wr => ∃ (k : Nat) (o : List UInt8), 1 ≤ k ∧ k ≤ l.length - 1 ∧ i = .int .i64 k ∧ Sofar l o k ∧ o.length ≤ k ∧ OwnB wr w.heap.size s o ∧ Kept w wr) (fun _ i _ => l.length - (intOf i).toNat)
        case atStart => exact ⟨1, [], by omega, by omega, rfl, sofar_start l, by simp, OwnB.nil _ _, k0⟩
        case round =>
          obtain ⟨k, o, h1, hk, rfl, sf, ol, own, hkept⟩ := hrel
          have hs := hkept.size
          have SF := Lib.hid sf
          clear sf
          obtain ⟨p, cp, rfl⟩ := own.form
          by_cases c : k < l.length - 1
          · have x1 : ((k : Int) == (l.length : Int) - 1) = false := by rw [beq_eq_false_iff_ne]; omega
            obtain ⟨ch, hch⟩ : ∃ ch, ch = l[k]'(by omega) := ⟨_, rfl⟩
            have q := byte_k (l := l) (k := k) (c := ch) (by rw [hch]; exact List.getElem?_eq_getElem (by omega))
            by_cases e : ch = 34
            · by_cases y : k + 1 = l.length - 1
              · have E := Lib.hid (dUnq_none (sofar_one SF.out y (by rw [← hch, e])))
                subst e
                have q0 : ∀ h, (((ByteArray.mk l.toArray)[k]'h).toNat : Int) = 34 := q
                have x2 : ((k : Int) + 1 == (l.length : Int) - 1) = true := by rw [beq_iff_eq]; omega
                clear hch q y own
                go_wp2_with fail
                try rw [Exit.noGoto_ret]
                go_ret2
                exact ⟨ret_si (by rw [E.out]) (by rw [E.out]), hkept⟩
              · have x2 : ((k : Int) + 1 == (l.length : Int) - 1) = false := by rw [beq_eq_false_iff_ne]; omega
                obtain ⟨d, hd⟩ : ∃ d, d = l[k + 1]'(by omega) := ⟨_, rfl⟩
                have r := byte_k (l := l) (k := k + 1) (c := d) (by rw [hd]; exact List.getElem?_eq_getElem (by omega))
                by_cases f : d = 34
                · have S2 := Lib.hid (sofar_two SF.out (by omega) (by rw [← hch, e]) (by rw [← hd, f]))
                  subst e; subst f
                  have q0 : ∀ h, (((ByteArray.mk l.toArray)[k]'h).toNat : Int) = 34 := q
                  have r0 : ∀ h, (((ByteArray.mk l.toArray)[k + 1]'h).toNat : Int) = 34 := r
                  have ho := Lib.hid (own.alloc (Obj.cells #[.int .u8 34] 5))
                  clear hch q hd r own
                  go_wp2_with (refine append_byte rfl (.tmp 59) (.tmp 60) rfl w.heap.size (.slice p o.length cp) o rfl ho.out wr.heap.size 1 34 34 rfl rfl (by simp [go_sem]) (by omega) (by have := hkept.size; simp; omega) ?_; intro v1 w1 o1 gr)
                  have k1 := ho.out.grown (Nat.le_refl _) (hkept.alloc _) gr
                  go_wp2_with fail
                  go_roundw
                  case rel => exact ⟨k + 2, o ++ [34], by omega, by omega, by go_num, S2.out, by simp; omega, o1, k1⟩
                  case measure => (simp [intOf]; try omega)
                · have E := Lib.hid (dUnq_none (sofar_bad SF.out (by omega) (by rw [← hch, e]) (by rw [← hd]; exact f)))
                  subst e
                  have q0 : ∀ h, (((ByteArray.mk l.toArray)[k]'h).toNat : Int) = 34 := q
                  have b1 := n34 f
                  clear hch q hd f own
                  go_wp2_with fail
                  try rw [Exit.noGoto_ret]
                  go_ret2
                  exact ⟨ret_si (by rw [E.out]) (by rw [E.out]), hkept⟩
            · have S2 := sofar_ne SF.out c (by rw [← hch]; exact e)
              rw [← hch] at S2
              have S3 := Lib.hid S2
              have b1 := n34 e
              have ho := Lib.hid (own.alloc (Obj.cells #[.int .u8 ch.toNat] 5))
              clear hch own S2
              go_wp2_with (refine append_byte rfl (.tmp 38) (.tmp 42) rfl w.heap.size (.slice p o.length cp) o rfl ho.out wr.heap.size 1 ch.toNat ch rfl rfl (by simp [go_sem]) (by omega) (by have := hkept.size; simp; omega) ?_; intro v1 w1 o1 gr)
              have k1 := ho.out.grown (Nat.le_refl _) (hkept.alloc _) gr
              go_wp2_with fail
              go_roundw
              case rel => exact ⟨k + 1, o ++ [ch], by omega, by omega, by go_num, S3.out, by simp; omega, o1, k1⟩
              case measure => (simp [intOf]; try omega)
          · obtain rfl : k = l.length - 1 := by omega
            have x1 : (((l.length - 1 : Nat) : Int) == (l.length : Int) - 1) = true := by rw [beq_iff_eq]; omega
            have U := Lib.hid (sofar_end SF.out)
            have hcv := conv_own own
            clear own c
            by_cases y : 256 < o.length
            · have E := Lib.hid (dUnq_long LIT.out U.out y)
              go_wp2_with fail
              try rw [Exit.noGoto_ret]
              go_ret2
              exact ⟨ret_si (by rw [E.out]) (by rw [E.out]), hkept⟩
            · have E := Lib.hid (dUnq_ok LIT.out U.out (by omega))
              go_wp2_with fail
              try rw [Exit.noGoto_ret]
              go_ret2
              exact ⟨ret_si (by rw [E.out]) (by rw [E.out]), hkept⟩
      · have cp' : plain l = false := by simpa using cp
        have E := Lib.hid (dUnq_no (lit_plain cp'))
        rw [cp'] at P
        clear e0 e1 cp cp'
        go_enter Tryd.func30, Tryd.ntmps30
        go_wp2_with fail
        go_step3
        go_wp2_with fail
        refine (P.out _).mono ?_
        rintro e w' ⟨rfl, k0⟩
        go_wp2_with fail
        try rw [Exit.noGoto_ret]
        go_ret2
        exact ⟨ret_si (by rw [E.out]) (by rw [E.out]), k0⟩
    · have E := Lib.hid (dUnq_no (lit_last (l := l) (by rw [e1]; intro h; exact c1 (Option.some.inj h))))
      subst c0
      have q0' : ∀ h, (((ByteArray.mk l.toArray)[0]'h).toNat : Int) = 34 := q0
      have b1 := n34 c1
      clear e0 e1 c1 q0
      go_enter Tryd.func30, Tryd.ntmps30
      go_wp2_with fail
      go_step3
      go_wp2_with fail
      try rw [Exit.noGoto_ret]
      go_ret2
      exact ⟨ret_si (by rw [E.out]) (by rw [E.out]), (by repeat (first | with_reducible exact Kept.refl _ | with_reducible apply Kept.drew | with_reducible apply Kept.drewN | with_reducible apply Kept.alloc | (with_reducible refine Kept.setCellX ?_ ?_ _; focus (first | (simp; done) | (simp; omega))) | (with_reducible refine Kept.trans ?_ (by assumption))))⟩
  · have E := Lib.hid (dUnq_no (lit_first (l := l) (by rw [e0]; intro h; exact c0 (Option.some.inj h))))
    have b0 := n34 c0
    clear e0 e1 c0
    go_enter Tryd.func30, Tryd.ntmps30
    go_wp2_with fail
    go_step3
    go_wp2_with fail
    try rw [Exit.noGoto_ret]
    go_ret2
    exact ⟨ret_si (by rw [E.out]) (by rw [E.out]), (by repeat (first | with_reducible exact Kept.refl _ | with_reducible apply Kept.drew | with_reducible apply Kept.drewN | with_reducible apply Kept.alloc | (with_reducible refine Kept.setCellX ?_ ?_ _; focus (first | (simp; done) | (simp; omega))) | (with_reducible refine Kept.trans ?_ (by assumption))))⟩

set_option maxHeartbeats 1600000 in
set_option maxRecDepth 100000 in
theorem runquote_any (l : List UInt8) (w : World) (hl : l.length ≤ 1000000) : Calls Tryd.prog 37 #[.string ⟨l.toArray⟩] w fun e w' => e = .returned (.tuple #[.string ⟨(dUnq l).1.toArray⟩, .int .i64 (dUnq l).2]) ∧ Kept w w' := by
  have Z := ba_size
  have P := Lib.hid (fun w => rplain_any l w hl)
  by_cases c2 : l.length < 2
  · have E := Lib.hid (dUnq_no (lit_short c2))
    have c2' : decide ((l.length : Int) - 1 < 1) = true := by rw [decide_eq_true_eq]; omega
    go_enter Tryd.func37, Tryd.ntmps37
    go_wp2_with fail
    go_ret2
    exact ⟨ret_si (by rw [E.out]) (by rw [E.out]), (by repeat (first | with_reducible exact Kept.refl _ | with_reducible apply Kept.drew | with_reducible apply Kept.drewN | with_reducible apply Kept.alloc | (with_reducible refine Kept.setCellX ?_ ?_ _; focus (first | (simp; done) | (simp; omega))) | (with_reducible refine Kept.trans ?_ (by assumption))))⟩
  have c2' : decide ((l.length : Int) - 1 < 1) = false := by rw [decide_eq_false_iff_not]; omega
  have e0 : l[0]? = some (l[0]'(by omega)) := List.getElem?_eq_getElem (by omega)
  have e1 : l[l.length - 1]? = some (l[l.length - 1]'(by omega)) := List.getElem?_eq_getElem (by omega)
  have q0 := byte_k e0
  have q1 := byte_k e1
  generalize (l[0]'(by omega)) = x0 at *
  generalize (l[l.length - 1]'(by omega)) = x1 at *
  have i1 : (0 : Int) ≤ (l.length : Int) - 1 := by omega
  by_cases c0 : x0 = 34
  · by_cases c1 : x1 = 34
    · subst c0; subst c1
      have q0' : ∀ h, (((ByteArray.mk l.toArray)[0]'h).toNat : Int) = 34 := q0
      have q1' : ∀ h, (((ByteArray.mk l.toArray)[l.length - 1]'h).toNat : Int) = 34 := q1
      clear q0 q1
      by_cases cp : plain l = true
      · have LIT := Lib.hid (lit_yes (by omega) e0 e1 cp)
        rw [cp] at P
        clear e0 e1 cp
        go_enter Tryd.func37, Tryd.ntmps37
        go_wp2_with fail
        refine (P.out _).mono ?_
        rintro e w' ⟨rfl, rfl⟩
        go_wp2_with fail
        go_loopw [5, 6] (fun s i wr => ∃ (k : Nat) (o : List UInt8), 1 ≤ k ∧ k ≤ l.length - 1 ∧ i = .int .i64 k ∧ Sofar l o k ∧ o.length ≤ k ∧ OwnB wr w.heap.size s o ∧ Kept w wr) (fun _ i _ => l.length - (intOf i).toNat)
        case atStart => exact ⟨1, [], by omega, by omega, rfl, sofar_start l, by simp, OwnB.nil _ _, Kept.refl _⟩
        case round =>
          obtain ⟨k, o, h1, hk, rfl, sf, ol, own, hkept⟩ := hrel
          have hs := hkept.size
          have SF := Lib.hid sf
          clear sf
          obtain ⟨p, cp, rfl⟩ := own.form
          by_cases c : k < l.length - 1
          · have x1 : decide ((k : Int) < (l.length : Int) - 1) = true := by rw [decide_eq_true_eq]; omega
            obtain ⟨ch, hch⟩ : ∃ ch, ch = l[k]'(by omega) := ⟨_, rfl⟩
            have q := byte_k (l := l) (k := k) (c := ch) (by rw [hch]; exact List.getElem?_eq_getElem (by omega))
            by_cases e : ch = 34
            · by_cases y : k + 1 = l.length - 1
              · have E := Lib.hid (dUnq_none (sofar_one SF.out y (by rw [← hch, e])))
                subst e
                have q0 : ∀ h, (((ByteArray.mk l.toArray)[k]'h).toNat : Int) = 34 := q
                have x2 : ((k : Int) + 1 == (l.length : Int) - 1) = true := by rw [beq_iff_eq]; omega
                have ho := Lib.hid (own.alloc (Obj.cells #[.int .u8 34] 5))
                clear hch q y own
                go_wp2_with (refine append_byte rfl (.tmp 33) (.tmp 37) rfl w.heap.size (.slice p o.length cp) o rfl ho.out wr.heap.size 1 34 34 rfl rfl (by simp [go_sem]) (by omega) (by have := hkept.size; simp; omega) ?_; intro v1 w1 o1 gr)
                have k1 := ho.out.grown (Nat.le_refl _) (hkept.alloc _) gr
                go_wp2_with fail
                go_ret2
                exact ⟨ret_si (by rw [E.out]) (by rw [E.out]), k1⟩
              · have x2 : ((k : Int) + 1 == (l.length : Int) - 1) = false := by rw [beq_eq_false_iff_ne]; omega
                obtain ⟨d, hd⟩ : ∃ d, d = l[k + 1]'(by omega) := ⟨_, rfl⟩
                have r := byte_k (l := l) (k := k + 1) (c := d) (by rw [hd]; exact List.getElem?_eq_getElem (by omega))
                by_cases f : d = 34
                · have S2 := Lib.hid (sofar_two SF.out (by omega) (by rw [← hch, e]) (by rw [← hd, f]))
                  subst e; subst f
                  have q0 : ∀ h, (((ByteArray.mk l.toArray)[k]'h).toNat : Int) = 34 := q
                  have r0 : ∀ h, (((ByteArray.mk l.toArray)[k + 1]'h).toNat : Int) = 34 := r
                  have ho := Lib.hid (own.alloc (Obj.cells #[.int .u8 34] 5))
                  clear hch q hd r own
                  go_wp2_with (refine append_byte rfl (.tmp 33) (.tmp 37) rfl w.heap.size (.slice p o.length cp) o rfl ho.out wr.heap.size 1 34 34 rfl rfl (by simp [go_sem]) (by omega) (by have := hkept.size; simp; omega) ?_; intro v1 w1 o1 gr)
                  have k1 := ho.out.grown (Nat.le_refl _) (hkept.alloc _) gr
                  go_wp2_with fail
                  go_roundw
                  case rel => exact ⟨k + 2, o ++ [34], by omega, by omega, by go_num, S2.out, by simp; omega, o1, k1⟩
                  case measure => (simp [intOf]; try omega)
                · have E := Lib.hid (dUnq_none (sofar_bad SF.out (by omega) (by rw [← hch, e]) (by rw [← hd]; exact f)))
                  subst e
                  have q0 : ∀ h, (((ByteArray.mk l.toArray)[k]'h).toNat : Int) = 34 := q
                  have b1 := n34 f
                  have ho := Lib.hid (own.alloc (Obj.cells #[.int .u8 34] 5))
                  clear hch q hd f own
                  go_wp2_with (refine append_byte rfl (.tmp 33) (.tmp 37) rfl w.heap.size (.slice p o.length cp) o rfl ho.out wr.heap.size 1 34 34 rfl rfl (by simp [go_sem]) (by omega) (by have := hkept.size; simp; omega) ?_; intro v1 w1 o1 gr)
                  have k1 := ho.out.grown (Nat.le_refl _) (hkept.alloc _) gr
                  go_wp2_with fail
                  go_ret2
                  exact ⟨ret_si (by rw [E.out]) (by rw [E.out]), k1⟩
            · have S2 := sofar_ne SF.out c (by rw [← hch]; exact e)
              rw [← hch] at S2
              have S3 := Lib.hid S2
              have b1 := n34 e
              have ho := Lib.hid (own.alloc (Obj.cells #[.int .u8 ch.toNat] 5))
              clear hch own S2
              go_wp2_with (refine append_byte rfl (.tmp 33) (.tmp 37) rfl w.heap.size (.slice p o.length cp) o rfl ho.out wr.heap.size 1 ch.toNat ch rfl rfl (by simp [go_sem]) (by omega) (by have := hkept.size; simp; omega) ?_; intro v1 w1 o1 gr)
              have k1 := ho.out.grown (Nat.le_refl _) (hkept.alloc _) gr
              go_wp2_with fail
              go_roundw
              case rel => exact ⟨k + 1, o ++ [ch], by omega, by omega, by go_num, S3.out, by simp; omega, o1, k1⟩
              case measure => (simp [intOf]; try omega)
          · obtain rfl : k = l.length - 1 := by omega
            have x1 : decide (((l.length - 1 : Nat) : Int) < (l.length : Int) - 1) = false := by rw [decide_eq_false_iff_not]; omega
            have U := Lib.hid (sofar_end SF.out)
            have hcv := conv_own own
            clear own c
            by_cases y : 256 < o.length
            · have E := Lib.hid (dUnq_long LIT.out U.out y)
              go_wp2_with fail
              go_ret2
              exact ⟨ret_si (by rw [E.out]) (by rw [E.out]), hkept⟩
            · have E := Lib.hid (dUnq_ok LIT.out U.out (by omega))
              go_wp2_with fail
              go_ret2
              exact ⟨ret_si (by rw [E.out]) (by rw [E.out]), hkept⟩
      · have cp' : plain l = false := by simpa using cp
        have E := Lib.hid (dUnq_no (lit_plain cp'))
        rw [cp'] at P
        clear e0 e1 cp cp'
        go_enter Tryd.func37, Tryd.ntmps37
        go_wp2_with fail
        refine (P.out _).mono ?_
        rintro e w' ⟨rfl, rfl⟩
        go_wp2_with fail
        go_ret2
        exact ⟨ret_si (by rw [E.out]) (by rw [E.out]), Kept.refl _⟩
    · have E := Lib.hid (dUnq_no (lit_last (l := l) (by rw [e1]; intro h; exact c1 (Option.some.inj h))))
      subst c0
      have q0' : ∀ h, (((ByteArray.mk l.toArray)[0]'h).toNat : Int) = 34 := q0
      have b1 := n34 c1
      clear e0 e1 c1 q0
      go_enter Tryd.func37, Tryd.ntmps37
      go_wp2_with fail
      go_ret2
      exact ⟨ret_si (by rw [E.out]) (by rw [E.out]), (by repeat (first | with_reducible exact Kept.refl _ | with_reducible apply Kept.drew | with_reducible apply Kept.drewN | with_reducible apply Kept.alloc | (with_reducible refine Kept.setCellX ?_ ?_ _; focus (first | (simp; done) | (simp; omega))) | (with_reducible refine Kept.trans ?_ (by assumption))))⟩
  · have E := Lib.hid (dUnq_no (lit_first (l := l) (by rw [e0]; intro h; exact c0 (Option.some.inj h))))
    have b0 := n34 c0
    clear e0 e1 c0
    go_enter Tryd.func37, Tryd.ntmps37
    go_wp2_with fail
    go_ret2
    exact ⟨ret_si (by rw [E.out]) (by rw [E.out]), (by repeat (first | with_reducible exact Kept.refl _ | with_reducible apply Kept.drew | with_reducible apply Kept.drewN | with_reducible apply Kept.alloc | (with_reducible refine Kept.setCellX ?_ ?_ _; focus (first | (simp; done) | (simp; omega))) | (with_reducible refine Kept.trans ?_ (by assumption))))⟩
end Go.Proofs.YtipkjpcedfokhaaDoor
