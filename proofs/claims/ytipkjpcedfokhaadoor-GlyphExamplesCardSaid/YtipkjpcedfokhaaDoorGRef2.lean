/- The reference of layer 4: Trim. -/
import Derived.Test.YtipkjpcedfokhaaDoorGWithout
import Derived.Test.YtipkjpcedfokhaaDoorMCaps
namespace Go.Proofs.YtipkjpcedfokhaaDoor
set_option linter.unusedVariables false
set_option linter.unusedSimpArgs false
open Go.RowKit Lv

theorem rtrim_last {a : List UInt8} {j : Nat} (h : j < a.length) (h0 : 0 < j) : (a.take j).getLast? = some (a[j - 1]'(by omega)) := by
  rw [List.getLast?_eq_getElem?, List.length_take, List.getElem?_take, Nat.min_eq_left (by omega), if_pos (by omega), List.getElem?_eq_getElem]
theorem rtrim_step {a : List UInt8} {j : Nat} (h : j < a.length) :
    (a[j] = 32 → trim (a.take (j + 1)) = trim (a.take j)) ∧
    (a[j] ≠ 32 → ∀ h0 : 0 < j, a[j - 1]'(by omega) = 32 → 0 < (trim (a.take j)).length → trim (a.take (j + 1)) = trim (a.take j) ++ [32] ++ [a[j]]) ∧
    (a[j] ≠ 32 → (j = 0 ∨ (∃ h0 : 0 < j, a[j - 1]'(by omega) ≠ 32) ∨ (trim (a.take j)).length = 0) → trim (a.take (j + 1)) = trim (a.take j) ++ [a[j]]) := by
  have e : a.take (j + 1) = a.take j ++ [a[j]] := List.take_succ_eq_append_getElem h
  refine ⟨fun c => ?_, fun c h0 b n => ?_, fun c z => ?_⟩
  · rw [e, trim_snoc, if_pos c]
  · have n2 : trim (a.take j) ≠ [] := List.length_pos_iff.1 n
    rw [e, trim_snoc, if_neg c, if_pos ⟨n2, by rw [rtrim_last h h0, b]⟩]; simp
  · rw [e, trim_snoc, if_neg c, if_neg]
    rintro ⟨x, y⟩
    rcases z with z | ⟨h0, z⟩ | z
    · subst z; simp at y
    · rw [rtrim_last h h0] at y; exact z (Option.some.inj y)
    · exact x (List.eq_nil_of_length_eq_zero z)
theorem byte_k {l : List UInt8} {k : Nat} {c : UInt8} (e : l[k]? = some c) : ∀ h, (((ByteArray.mk l.toArray)[k]'h).toNat : Int) = c.toNat := fun h => by
  have e2 : (ByteArray.mk l.toArray)[k]'h = c := by
    show l[k]'h = c
    rw [List.getElem?_eq_getElem h] at e; exact Option.some.inj e
  rw [e2]
theorem not_byte {c : UInt8} {d : Nat} (h : c.toNat ≠ d) : ((c.toNat : Int) == (d : Int)) = false ∧ ((c.toNat : Int) != (d : Int)) = true := by
  have g : (c.toNat : Int) ≠ (d : Int) := fun e => h (Int.ofNat_inj.1 e)
  exact ⟨beq_eq_false_iff_ne.2 g, bne_iff_ne.2 g⟩
theorem byte_ne {c d : UInt8} (h : c ≠ d) : c.toNat ≠ d.toNat := fun e => h (UInt8.toNat_inj.1 e)
theorem OwnB.form {w : World} {base : Nat} {v : Value} {l : List UInt8} (h : OwnB w base v l) : ∃ p cap, v = .slice p l.length cap := by
  rcases h.2 with ⟨rfl, h0⟩ | ⟨g, cap, cur, rfl, _⟩
  · exact ⟨none, 0, by rw [h0]⟩
  · exact ⟨_, cap, rfl⟩

set_option maxHeartbeats 800000 in
set_option maxRecDepth 100000 in
theorem rtrim_any (l : List UInt8) (w : World) (hl : l.length ≤ 1000000) : Calls Tryd.prog 35 #[.string ⟨l.toArray⟩] w fun e w' => e = .returned (.string ⟨(trim l).toArray⟩) ∧ Kept w w' := by
  have Z := ba_size
  have PS : Hid (∀ j (h : j < l.length), _) := fun j h => rtrim_step (a := l) (j := j) h
  go_enter Tryd.func35, Tryd.ntmps35
  go_wp2_with fail
  go_loopw [3, 4] (fun s i wr => ∃ k : Nat, k ≤ l.length ∧ i = .int .i64 k ∧ OwnB wr w.heap.size s (trim (l.take k)) ∧ Kept w wr) (fun _ i _ => l.length - (intOf i).toNat)
  case atStart => exact ⟨0, by omega, rfl, OwnB.nil _ _, Kept.refl _⟩
  case round =>
    obtain ⟨k, hk, rfl, own, hkept⟩ := hrel
    by_cases c : k < l.length
    · obtain ⟨s1, s2, s3⟩ := PS.out k c
      obtain ⟨ch, hch⟩ : ∃ ch, ch = l[k] := ⟨_, rfl⟩
      have q := byte_k (l := l) (k := k) (c := ch) (by rw [hch]; exact List.getElem?_eq_getElem c)
      rw [← hch] at s1 s2 s3
      obtain ⟨T, hT⟩ : ∃ T, T = trim (l.take k) := ⟨_, rfl⟩
      obtain ⟨T2, hT2⟩ : ∃ T, T = trim (l.take (k + 1)) := ⟨_, rfl⟩
      have tl : T.length ≤ k := by rw [hT]; have := trim_len (l.take k); rw [List.length_take] at this; omega
      rw [← hT] at own s1 s2 s3
      rw [← hT2] at s1 s2 s3
      have HT2 := Lib.hid hT2
      have hs := hkept.size
      clear hT hT2 hch
      by_cases e : ch = 32
      · have g1 := Lib.hid (s1 e)
        subst e
        have q0 : ∀ h, (((ByteArray.mk l.toArray)[k]'h).toNat : Int) = 32 := q
        have HO := Lib.hid own
        clear own q s1 s2 s3
        go_wp2_with fail
        go_roundw
        case rel => exact ⟨k + 1, by omega, by go_num, by rw [← HT2.out, g1.out]; exact HO.out, hkept⟩
        case measure => (simp [intOf]; try omega)
      · have b1 : ((ch.toNat : Int) != 32) = true := (not_byte (d := 32) (byte_ne e)).2
        clear s1
        by_cases gap : 0 < T.length ∧ ∃ h0 : 0 < k, l[k - 1]'(by omega) = 32
        · obtain ⟨n0, h0, y⟩ := gap
          have g1 := Lib.hid (s2 e h0 y n0)
          have q3 : ∀ h, (((ByteArray.mk l.toArray)[k - 1]'h).toNat : Int) = 32 := byte_k (c := 32) (by rw [List.getElem?_eq_getElem (by omega), y])
          have d3 : decide ((0 : Int) < (T.length : Int)) = true := by rw [decide_eq_true_eq]; omega
          have i0 : (0 : Int) ≤ (k : Int) - 1 := by omega
          clear s2 s3 e y
          obtain ⟨p, cp, rfl⟩ := own.form
          have ho := Lib.hid (own.alloc (Obj.cells #[.int .u8 32] 5))
          clear own Z
          go_wp2_with (first
            | (refine append_byte rfl (.tmp 25) (.tmp 26) rfl w.heap.size (.slice p T.length cp) T rfl ho.out wr.heap.size 1 32 32 rfl rfl (by simp [go_sem]) (by omega) (by have := hkept.size; simp; omega) ?_
               intro v1 w1 o1 gr
               have k1 := ho.out.grown (Nat.le_refl _) (hkept.alloc _) gr
               have ho1 := Lib.hid (o1.alloc (Obj.cells #[.int .u8 ch.toNat] 5))
               clear o1 gr ho)
            | (refine append_byte rfl (.tmp 28) (.tmp 32) rfl w.heap.size v1 (T ++ [32]) rfl ho1.out w1.heap.size 1 ch.toNat ch rfl rfl (by simp [go_sem]) (by simp; omega) (by have := k1.size; simp; omega) ?_
               intro v2 w2 o2 gr))
          have k2 := ho1.out.grown (Nat.le_refl _) (k1.alloc _) gr
          go_wp2_with fail
          go_roundw
          case rel => exact ⟨k + 1, by omega, by go_num, by rw [← HT2.out, g1.out]; exact o2, k2⟩
          case measure => (simp [intOf]; try omega)
        · have g1 := Lib.hid (s3 e (by
            by_cases h0 : 0 < k
            · by_cases y : l[k - 1]'(by omega) = 32
              · exact Or.inr (Or.inr (by
                  by_cases z : 0 < T.length
                  · exact absurd ⟨z, h0, y⟩ gap
                  · omega))
              · exact Or.inr (Or.inl ⟨h0, y⟩)
            · exact Or.inl (by omega)))
          obtain ⟨p, cp, rfl⟩ := own.form
          clear s2 s3
          by_cases n0 : 0 < T.length
          · have d3 : decide ((0 : Int) < (T.length : Int)) = true := by rw [decide_eq_true_eq]; omega
            by_cases h0 : 0 < k
            · have y : l[k - 1]'(by omega) ≠ 32 := fun y => gap ⟨n0, h0, y⟩
              have q3 := byte_k (l := l) (k := k - 1) (List.getElem?_eq_getElem (by omega))
              have b2 : (((l[k - 1]'(by omega)).toNat : Int) == 32) = false := (not_byte (d := 32) (byte_ne y)).1
              generalize (l[k - 1]'(by omega)) = c2 at *
              have i0 : (0 : Int) ≤ (k : Int) - 1 := by omega
              clear gap e y
              have ho := Lib.hid (own.alloc (Obj.cells #[.int .u8 ch.toNat] 5))
              clear own Z
              go_wp2_with (refine append_byte rfl (.tmp 28) (.tmp 32) rfl w.heap.size (.slice p T.length cp) T rfl ho.out wr.heap.size 1 ch.toNat ch rfl rfl (by simp [go_sem]) (by simp; omega) (by have := hkept.size; simp; omega) ?_; intro v1 w1 o1 gr)
              have k1 := ho.out.grown (Nat.le_refl _) (hkept.alloc _) gr
              go_wp2_with fail
              go_roundw
              case rel => exact ⟨k + 1, by omega, by go_num, by rw [← HT2.out, g1.out]; exact o1, k1⟩
              case measure => (simp [intOf]; try omega)
            · exfalso; omega
          · have d3 : decide ((0 : Int) < (T.length : Int)) = false := by rw [decide_eq_false_iff_not]; omega
            clear gap e
            have ho := Lib.hid (own.alloc (Obj.cells #[.int .u8 ch.toNat] 5))
            clear own Z
            go_wp2_with (refine append_byte rfl (.tmp 28) (.tmp 32) rfl w.heap.size (.slice p T.length cp) T rfl ho.out wr.heap.size 1 ch.toNat ch rfl rfl (by simp [go_sem]) (by simp; omega) (by have := hkept.size; simp; omega) ?_; intro v1 w1 o1 gr)
            have k1 := ho.out.grown (Nat.le_refl _) (hkept.alloc _) gr
            go_wp2_with fail
            go_roundw
            case rel => exact ⟨k + 1, by omega, by go_num, by rw [← HT2.out, g1.out]; exact o1, k1⟩
            case measure => (simp [intOf]; try omega)
    · obtain rfl : k = l.length := by omega
      rw [List.take_length] at own
      have hcv := conv_own own
      clear own
      go_wp2_with fail
      go_ret
      exact ⟨rfl, hkept⟩
end Go.Proofs.YtipkjpcedfokhaaDoor
