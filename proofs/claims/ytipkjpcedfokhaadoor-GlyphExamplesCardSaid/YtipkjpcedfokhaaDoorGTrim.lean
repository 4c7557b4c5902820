/- Layer 4: Trim. -/
import Derived.Test.YtipkjpcedfokhaaDoorGQuote
import Derived.Test.YtipkjpcedfokhaaDoorMTrim
import Derived.Test.YtipkjpcedfokhaaDoorStrs
namespace Go.Proofs.YtipkjpcedfokhaaDoor
set_option linter.unusedVariables false
set_option linter.unusedSimpArgs false
open Go.RowKit Lv

theorem split_pcs (l : List UInt8) : (Lib.splitB ⟨#[32]⟩ 0 (Lib.countB ⟨l.toArray⟩ ⟨#[32]⟩) ⟨l.toArray⟩).map Value.string = (pcs l).map strV := by
  have h := Lib.splitB_data ⟨#[32]⟩ 0 (Lib.countB ⟨l.toArray⟩ ⟨#[32]⟩) ⟨l.toArray⟩
  have e : Lib.splitK (ByteArray.mk #[32]).data.toList 0 (Lib.countB ⟨l.toArray⟩ ⟨#[32]⟩) (ByteArray.mk l.toArray).data.toList = pcs l := splitK_pcs _ l (Nat.le_refl _)
  rw [e] at h
  rw [← h, List.map_map]
  refine List.map_congr_left fun s _ => ?_
  show Value.string s = .string ⟨s.data.toList.toArray⟩
  rfl
theorem pcs_len (l : List UInt8) : (pcs l).length = Lib.countB ⟨l.toArray⟩ ⟨#[32]⟩ + 1 := by
  have h := Lib.splitB_all ⟨#[32]⟩ (by decide) 0 _ ⟨l.toArray⟩ rfl
  have e := congrArg List.length (split_pcs l)
  rw [List.length_map, List.length_map] at e
  omega
theorem split_any (l : List UInt8) (w : World) (m : Int) (hl : l.length ≤ 1000000) (hm : Mx w m) : Calls Tryd.prog 74 #[.string ⟨l.toArray⟩, .string ⟨#[32]⟩] w fun e w' =>
    e = .returned (.slice (some ⟨w.heap.size, 0, none⟩) (pcs l).length (pcs l).length) ∧ w' = w.alloc (.cells ((pcs l).map strV).toArray 9) := by
  have h := Tryd.strings_Split ⟨l.toArray⟩ ⟨#[32]⟩ m w (by rw [ba_size]; omega) hm (by decide)
  rw [split_pcs, ← pcs_len] at h
  exact h
theorem join_any (v : Value) (xs : List (List UInt8)) (base : Nat) (w : World) (hv : OwnS w base v xs) (hN : xs.length ≤ 2000000) (hj : (Lib.join xs [32]).length ≤ 2000000) :
    Calls Tryd.prog 75 #[v, .string ⟨#[32]⟩] w fun e w' => e = .returned (.string ⟨(Lib.join xs [32]).toArray⟩) ∧ Kept w w' := by
  rcases hv.row with ⟨rfl, rfl⟩ | ⟨g, cap, rfl, hc, hg, cells⟩
  · exact (Tryd.strings_Join_none none 0 ⟨#[32]⟩ w).mono fun e w' ⟨h1, h2⟩ => ⟨by rw [h1]; rfl, by subst h2; exact Kept.refl _⟩
  · have e : (xs.map (fun p => (⟨p.toArray⟩ : ByteArray))).map (·.data.toList) = xs := by rw [List.map_map]; exact List.map_id xs
    have h := Tryd.strings_Join g 0 cap (xs.map (fun p => ⟨p.toArray⟩)) ⟨#[32]⟩ w (fun j x hx => by
      rw [List.getElem?_map] at hx
      obtain ⟨p, hp, rfl⟩ := Option.map_eq_some_iff.1 hx
      exact cells j p hp) hg (by rw [List.length_map]; omega) (by rw [List.length_map]; exact hc) (by rw [e]; exact Nat.le_trans hj (by omega))
    rw [e, List.length_map] at h
    exact h

set_option maxHeartbeats 400000 in
theorem trim_any (l : List UInt8) (w : World) (m : Int) (hl : l.length ≤ 1000000) (hm : Mx w m) : Calls Tryd.prog 25 #[.string ⟨l.toArray⟩] w fun e w' => e = .returned (.string ⟨(trim l).toArray⟩) ∧ Kept w w' := by
  have S := Lib.hid (split_any l w m hl hm)
  have hn : (pcs l).length ≤ 1000001 := by rw [pcs_len]; have := Lib.countB_le ⟨#[32]⟩ (by decide) l.length ⟨l.toArray⟩ (by rw [ba_size]; omega); rw [ba_size] at this; omega
  have E : Hid (Lib.join ((pcs l).filter (fun p => !p.isEmpty)) [32] = trim l) := rfl
  have tl := trim_len l
  have b0 : Box (w.alloc (.cells ((pcs l).map strV).toArray 9)) w.heap.size 9 ((pcs l).map strV).toArray := Box.new _ _ _
  have k0 : Kept w (w.alloc (.cells ((pcs l).map strV).toArray 9)) := (Kept.refl w).alloc _
  have HB0 := Lib.hid b0
  clear b0
  generalize pcs l = xs at *
  generalize trim l = r at *
  go_enter Tryd.func25, Tryd.ntmps25
  go_wp2_with fail
  refine S.out.mono ?_
  rintro e w' ⟨rfl, hw⟩
  rw [← hw] at k0 HB0
  clear hw S
  go_wp2_with fail
  go_loopw [3, 9] (fun s i wr => ∃ k : Nat, k ≤ xs.length ∧ i = .int .i64 k ∧ OwnS wr w'.heap.size s ((xs.take k).filter (fun p => !p.isEmpty)) ∧ Kept w' wr) (fun _ i _ => xs.length - (intOf i).toNat)
  case atStart => exact ⟨0, by omega, rfl, OwnS.nil _ _, Kept.refl _⟩
  case round =>
    obtain ⟨k, hk, rfl, own, hkept⟩ := hrel
    by_cases c : k < xs.length
    · have ts := List.take_succ_eq_append_getElem c
      have hc := ((HB0.out.kept hkept).cell k)
      rw [show ((xs.map strV).toArray)[k]? = some (strV xs[k]) by simp [c]] at hc
      have hl2 : ((xs.take k).filter (fun p => !p.isEmpty)).length ≤ 1000001 := Nat.le_trans (List.length_filter_le _ _) (by rw [List.length_take]; omega)
      generalize xs[k] = p at *
      have TS := Lib.hid ts
      clear ts
      by_cases e : p = []
      · subst e
        have HO := Lib.hid own
        clear own
        go_wp2_with fail
        go_roundw
        case rel => exact ⟨k + 1, by omega, by go_num, by rw [TS.out, List.filter_append]; simpa using HO.out, hkept⟩
        case measure => (simp [intOf]; try omega)
      · have pe : p.isEmpty = false := by simpa using e
        have fe : [p].filter (fun p => !p.isEmpty) = [p] := by
          have : p.isEmpty = false := by simpa using e
          simp [this]
        have ho := Lib.hid (own.alloc (Obj.cells #[strV p] 9))
        have FE := Lib.hid fe
        clear own e fe
        go_wp2_with (refine append_one_str rfl (.tmp 15) (.tmp 17) rfl _ u3 _ rfl ho.out wr.heap.size 1 p rfl (by simp [go_sem]) (by omega) (by have := hkept.size; simp; omega) ?_; intro v1 w1 o1 gr)
        have k1 := ho.out.grown (Nat.le_refl _) (hkept.alloc _) gr
        go_wp2_with fail
        go_roundw
        case rel => exact ⟨k + 1, by omega, by go_num, by rw [TS.out, List.filter_append, FE.out]; exact o1, k1⟩
        case measure => (simp [intOf]; try omega)
    · obtain rfl : k = xs.length := by omega
      rw [List.take_length] at own
      have hl2 : (xs.filter (fun p => !p.isEmpty)).length ≤ 1000001 := Nat.le_trans (List.length_filter_le _ _) hn
      have J := join_any _ _ _ _ own (by omega) (by rw [E.out]; omega)
      rw [E.out] at J
      have HJ := Lib.hid J
      clear J own
      go_wp2_with fail
      refine HJ.out.mono ?_
      rintro e w2 ⟨rfl, k2⟩
      go_wp2_with fail
      go_ret
      exact ⟨rfl, (k0.trans hkept).trans k2⟩
end Go.Proofs.YtipkjpcedfokhaaDoor
