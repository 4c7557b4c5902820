/- Layer 1: how many digits a text begins with, in the program and in the reference. -/
import Derived.Test.YtingopdeckgpaaaWText1
import Derived.Test.YtingopdeckgpaaaBytes
import Derived.Test.YtingopdeckgpaaaMParse
namespace Go.Proofs.Ytingopdeckgpaaa
set_option linter.unusedVariables false
set_option linter.unusedSimpArgs false
open Go.RowKit Lv

theorem byte_at (s : ByteArray) (k : Nat) (h : k < s.size) : s[k] = s.data.toList[k]'h := rfl

set_option maxHeartbeats 400000 in
theorem digits_any (s : ByteArray) (w : World) (hs : s.size ≤ 9223372036854775807) : Calls Try.prog 63 #[.string s] w fun e w' => e = .returned (.int .i64 (nd s.data.toList)) ∧ w = w' := by
  have E0 : Hid (nd s.data.toList = 0 + nd (s.data.toList.drop 0)) := by rw [List.drop_zero, Nat.zero_add]; rfl
  go_enter Try.func63, Try.ntmps63
  go_wp2_with fail
  go_loop [6] (fun i => ∃ k : Nat, k ≤ s.size ∧ i = .int .i64 k ∧ nd s.data.toList = k + nd (s.data.toList.drop k)) (fun i => s.size - (intOf i).toNat)
  case atStart => exact ⟨0, by omega, rfl, E0.out⟩
  case round =>
    obtain ⟨k, hk, rfl, hn⟩ := hrel
    have N := Lib.hid hn
    clear hn
    by_cases c : k < s.size
    · by_cases d : isD s[k] = true
      · have e := of_decide_eq_true d
        obtain ⟨e1, e2⟩ := e
        have S := Lib.hid (nd_step (l := s.data.toList) c d)
        clear d
        go_wp2_with fail
        go_round
        case rel => exact ⟨k + 1, by omega, by go_num, by rw [N.out, S.out]; omega⟩
        case measure => simp [intOf]; omega
      · have d' : isD s[k] = false := by simpa using d
        have S : Hid (nd s.data.toList = k) := by show _ = _; rw [N.out, nd_stop (l := s.data.toList) c d']; rfl
        have e := of_decide_eq_false d'
        clear d d'
        by_cases e1 : s[k].toNat < 48
        · clear e
          go_wp2_with fail
          go_ret
          exact ⟨ret_int (by have := S.out; omega), rfl⟩
        · have e2 : 57 < s[k].toNat := by omega
          clear e
          go_wp2_with fail
          go_ret
          exact ⟨ret_int (by have := S.out; omega), rfl⟩
    · obtain rfl : k = s.size := by omega
      have S : Hid (nd s.data.toList = s.size) := by show _ = _; rw [N.out, nd_end (l := s.data.toList) (k := s.size) (by rw [size_toList]; omega)]; rfl
      go_wp2_with fail
      go_ret
      exact ⟨ret_int (by have := S.out; omega), rfl⟩

set_option maxHeartbeats 400000 in
theorem rdigits_any (s : ByteArray) (p : Nat) (w : World) (hs : s.size ≤ 9223372036854775807) (hp : p ≤ s.size) : Calls Try.prog 64 #[.string s, .int .i64 p] w fun e w' => e = .returned (.int .i64 (p + nd (s.data.toList.drop p) : Nat)) ∧ w = w' := by
  go_enter Try.func64, Try.ntmps64
  go_wp2_with fail
  go_loop [1] (fun i => ∃ k : Nat, k ≤ s.size ∧ i = .int .i64 k ∧ p + nd (s.data.toList.drop p) = k + nd (s.data.toList.drop k)) (fun i => s.size - (intOf i).toNat)
  case atStart => exact ⟨p, hp, rfl, rfl⟩
  case round =>
    obtain ⟨k, hk, rfl, hn⟩ := hrel
    have N := Lib.hid hn
    clear hn
    by_cases c : k < s.size
    · by_cases d : isD s[k] = true
      · have e := of_decide_eq_true d
        obtain ⟨e1, e2⟩ := e
        have S := Lib.hid (nd_step (l := s.data.toList) c d)
        clear d
        go_wp2_with fail
        go_round
        case rel => exact ⟨k + 1, by omega, by go_num, by rw [N.out, S.out]; omega⟩
        case measure => simp [intOf]; omega
      · have d' : isD s[k] = false := by simpa using d
        have S : Hid (p + nd (s.data.toList.drop p) = k) := by show _ = _; rw [N.out, nd_stop (l := s.data.toList) c d']; rfl
        have e := of_decide_eq_false d'
        clear d d'
        by_cases e1 : s[k].toNat < 48
        · clear e
          go_wp2_with fail
          go_ret
          exact ⟨ret_int (by have := S.out; omega), rfl⟩
        · have e2 : 57 < s[k].toNat := by omega
          clear e
          go_wp2_with fail
          go_ret
          exact ⟨ret_int (by have := S.out; omega), rfl⟩
    · obtain rfl : k = s.size := by omega
      have S : Hid (p + nd (s.data.toList.drop p) = s.size) := by show _ = _; rw [N.out, nd_end (l := s.data.toList) (k := s.size) (by rw [size_toList]; omega)]; rfl
      go_wp2_with fail
      go_ret
      exact ⟨ret_int (by have := S.out; omega), rfl⟩
end Go.Proofs.Ytingopdeckgpaaa
