/- The statements' own 'without': the bytes that are no blanks. -/
import Derived.Test.YtipkjpcedfokhaaDoorGKnown
import Derived.Test.YtipkjpcedfokhaaDoorMTrim2
namespace Go.Proofs.YtipkjpcedfokhaaDoor
set_option linter.unusedVariables false
set_option linter.unusedSimpArgs false
open Go.RowKit Lv

theorem keep_step {l : List UInt8} {k : Nat} (h : k < l.length) : keep (l.take (k + 1)) = if l[k] = 32 then keep (l.take k) else keep (l.take k) ++ [l[k]] := by
  rw [List.take_succ_eq_append_getElem h, keep_append]
  by_cases c : l[k] = 32
  · rw [if_pos c, c, show keep [32] = [] from rfl, List.append_nil]
  · rw [if_neg c]; congr 1; unfold keep; simp [c]
theorem keep_len (l : List UInt8) : (keep l).length ≤ l.length := List.length_filter_le _ _

set_option maxHeartbeats 400000 in
set_option maxRecDepth 100000 in
theorem without_any (l : List UInt8) (w : World) (hl : l.length ≤ 1000000) : Calls Tryd.prog 26 #[.string ⟨l.toArray⟩] w fun e w' => e = .returned (.string ⟨(keep l).toArray⟩) ∧ Kept w w' := by
  have Z := ba_size
  go_enter Tryd.func26, Tryd.ntmps26
  go_wp2_with fail
  go_loopw [3, 4] (fun s i wr => ∃ k : Nat, k ≤ l.length ∧ i = .int .i64 k ∧ OwnB wr w.heap.size s (keep (l.take k)) ∧ Kept w wr) (fun _ i _ => l.length - (intOf i).toNat)
  case atStart => exact ⟨0, by omega, rfl, OwnB.nil _ _, Kept.refl _⟩
  case round =>
    obtain ⟨k, hk, rfl, own, hkept⟩ := hrel
    by_cases c : k < l.length
    · obtain ⟨ch, hch⟩ : ∃ ch, ch = l[k] := ⟨_, rfl⟩
      have q : ∀ h, (((ByteArray.mk l.toArray)[k]'h).toNat : Int) = ch.toNat := fun h => by rw [hch]; rfl
      have st := keep_step c
      rw [← hch] at st
      have st := Lib.hid st
      have kl := keep_len (l.take k)
      rw [List.length_take] at kl
      clear hch
      by_cases e : ch = 32
      · subst e
        have q2 : ∀ h, (((ByteArray.mk l.toArray)[k]'h).toNat : Int) = 32 := q
        have HO := Lib.hid own
        clear own q
        go_wp2_with fail
        go_roundw
        case rel => exact ⟨k + 1, by omega, by go_num, by rw [st.out, if_pos rfl]; exact HO.out, hkept⟩
        case measure => (simp [intOf]; try omega)
      · have n1 : ((ch.toNat : Int) != 32) = true := by
          rw [bne_iff_ne]; intro h; apply e; apply UInt8.toNat_inj.1; exact Int.ofNat_inj.1 h
        have ho := Lib.hid (own.alloc (Obj.cells #[.int .u8 ch.toNat] 5))
        clear own
        clear Z
        go_wp2_with (refine append_byte rfl (.tmp 15) (.tmp 19) rfl w.heap.size u3 _ rfl ho.out wr.heap.size 1 ch.toNat ch rfl rfl (by simp [go_sem]) (by omega) (by have := hkept.size; simp; omega) ?_; intro v1 w1 o1 gr)
        have k1 := ho.out.grown (Nat.le_refl _) (hkept.alloc _) gr
        go_wp2_with fail
        go_roundw
        case rel => exact ⟨k + 1, by omega, by go_num, by rw [st.out, if_neg e]; exact o1, k1⟩
        case measure => (simp [intOf]; try omega)
    · obtain rfl : k = l.length := by omega
      rw [List.take_length] at own
      have hcv := conv_own own
      clear own
      go_wp2_with fail
      go_ret
      exact ⟨rfl, hkept⟩
end Go.Proofs.YtipkjpcedfokhaaDoor
