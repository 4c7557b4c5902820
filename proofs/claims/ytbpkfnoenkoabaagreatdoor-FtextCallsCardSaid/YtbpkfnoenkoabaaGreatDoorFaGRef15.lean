/- The reference of layer 15: Arity, Count, Valid, convert (printed by wip/mkref15.py). -/
import Derived.Test.YtbpkfnoenkoabaaGreatDoorFaGLogic2
namespace Go.Proofs.YtbpkfnoenkoabaaGreatDoor
set_option linter.unusedVariables false
set_option linter.unusedSimpArgs false
open Go.RowKit Lv
set_option maxHeartbeats 1000000 in
set_option maxRecDepth 100000 in
theorem valid13_any (A : Option Addr) (cap : Nat) (l : List Vl) (w : World) (hr : RowV w A l) (hs : ∀ v ∈ l, Small v) (hl : l.length ≤ 1000000) :
    Calls Tryz.prog 63 #[.slice A l.length cap] w fun e w' => e = .returned (.bool (l.all vOk)) ∧ Kept w w' := by
  obtain ⟨n, hn⟩ : ∃ n, n = l.length := ⟨_, rfl⟩
  have HN := Lib.hid hn
  have HR := Lib.hid hr
  have HS := Lib.hid hs
  rw [← hn] at hl ⊢
  clear hn hr hs
  go_enter Tryz.func63, Tryz.ntmps63
  go_wp2_with fail
  go_loopw [3] (fun i wr => ∃ k : Nat, k ≤ n ∧ i = .int .i64 k ∧ (∀ v ∈ l.take k, vOk v = true) ∧ Kept w wr) (fun i _ => n - (intOf i).toNat)
  case atStart => exact ⟨0, by omega, rfl, fun v hv => by simp at hv, Kept.refl w⟩
  case round =>
    obtain ⟨k, hk, rfl, hok, kw⟩ := hrel
    have HOK := Lib.hid hok
    have KW := Lib.hid kw
    clear hok kw
    by_cases hlt : k < n
    · have hkl : k < l.length := by rw [← HN.out]; exact hlt
      obtain ⟨b, off, rfl, _, x0, x1, x2⟩ := (HR.out.kept KW.out) k hkl
      have hmem : l.getD k blankV ∈ l := by rw [show l.getD k blankV = l[k] by simp [List.getD, hkl]]; exact List.getElem_mem hkl
      have sv := HS.out _ hmem
      have CK := Lib.hid (fun w => rcheck5_any (l.getD k blankV) w sv.1 (by have := sv.2; omega))
      have tk : l.take (k + 1) = l.take k ++ [l.getD k blankV] := by
        rw [List.take_succ_eq_append_getElem hkl, show l.getD k blankV = l[k] by simp [List.getD, hkl]]
      have TK := Lib.hid tk
      have HMEM := Lib.hid hmem
      clear tk sv hmem
      generalize l.getD k blankV = x at *
      by_cases ok : vOk x = true
      · have OK := Lib.hid ok
        rw [chk_yes ok] at CK
        clear ok
        go_wp2_with fail
        refine (CK.out _).mono ?_
        rintro e w2 ⟨rfl, k2⟩
        have K2 := Lib.hid k2
        clear k2
        go_wp2_with fail
        go_roundw
        case rel =>
          refine ⟨k + 1, by omega, by go_num, fun v hv => ?_, KW.out.trans K2.out⟩
          rw [TK.out] at hv
          rcases List.mem_append.1 hv with hv | hv
          · exact HOK.out v hv
          · rw [List.mem_singleton] at hv; subst hv; exact OK.out
        case measure => (simp [intOf]; try omega)
      · rw [chk_no (by simpa using ok)] at CK
        have EF : Hid (l.all vOk = false) := by
          show _ = _
          rw [List.all_eq_false]
          exact ⟨x, HMEM.out, by simpa using ok⟩
        clear ok
        go_wp2_with fail
        refine (CK.out _).mono ?_
        rintro e w2 ⟨rfl, k2⟩
        go_wp2_with fail
        go_ret
        exact ⟨ret_bool EF.out.symm, KW.out.trans k2⟩
    · obtain rfl : k = n := by omega
      have e : l.take k = l := List.take_of_length_le (by rw [← HN.out]; omega)
      have EF : Hid (l.all vOk = true) := by
        show _ = _
        rw [List.all_eq_true]
        have := HOK.out
        rwa [e] at this
      clear e
      go_wp2_with fail
      go_ret
      exact ⟨ret_bool EF.out.symm, KW.out⟩
end Go.Proofs.YtbpkfnoenkoabaaGreatDoor
