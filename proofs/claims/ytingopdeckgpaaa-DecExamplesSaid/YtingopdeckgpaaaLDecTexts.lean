/- The law DecTexts, walked. -/
import Derived.Test.YtingopdeckgpaaaWRef9
import Derived.Test.YtingopdeckgpaaaWArgs
namespace Go.Proofs.Ytingopdeckgpaaa
set_option linter.unusedVariables false
set_option linter.unusedSimpArgs false
open Go.RowKit Lv

theorem list_of (s : ByteArray) : ∃ l : List UInt8, s = ⟨l.toArray⟩ := ⟨s.data.toList, bytes_of rfl⟩

set_option maxHeartbeats 800000 in
theorem DecTexts_walk (a0 : Int) (a1 : ByteArray) (w0 : (Lit.int .i64 a0).wf = true) (w1 : a1.size ≤ maxLen) (w : World) :
    Calls Try.prog 12 #[.int .i64 a0, .string a1] w fun e w' => e = .returned (.bool true) ∧ Below w.heap.size w w' := by
  have h0 := i64_of_lit w0
  clear w0
  obtain ⟨l, rfl⟩ := list_of a1
  have hl : l.length ≤ maxLen := w1
  clear w1
  unfold maxLen at hl
  have Z := ba_size
  have K := Lib.hid known_any
  by_cases c : l.length ≤ 2000
  · have P := Lib.hid (fun w => parse_any l w c)
    have P' := Lib.hid (fun w => rparse_any l w c)
    have F := Lib.hid (fun w => format_any a0 w h0)
    have F' := Lib.hid (fun w => rformat_any a0 w h0)
    have p1 : ((dParse l).1 == (dParse l).1) = true := by simp
    have p2 : ((dParse l).2 == (dParse l).2) = true := by simp
    generalize dParse l = p at *
    generalize fmt a0 = f at *
    clear h0
    go_enter Try.func12, Try.ntmps12
    go_wp2_with fail
    refine (P.out _).mono ?_
    rintro e w' ⟨rfl, k1⟩
    go_wp2_with fail
    refine (P'.out _).mono ?_
    rintro e w' ⟨rfl, k2⟩
    go_wp2_with fail
    refine (F.out _).mono ?_
    rintro e w' ⟨rfl, k3⟩
    go_wp2_with fail
    refine (F'.out _).mono ?_
    rintro e w' ⟨rfl, k4⟩
    go_wp2_with fail
    go_ret
    exact ⟨rfl, (by repeat (first | with_reducible exact Kept.refl _ | with_reducible apply Kept.drew | with_reducible apply Kept.drewN | with_reducible apply Kept.alloc | (with_reducible refine Kept.setCellX ?_ ?_ _; focus (first | (simp; done) | (simp; omega))) | (with_reducible refine Kept.trans ?_ (by assumption))))⟩
  · clear h0
    go_enter Try.func12, Try.ntmps12
    go_wp2_with fail
    refine (K.out _).mono ?_
    rintro e w' ⟨rfl, k1⟩
    go_wp2_with fail
    go_ret
    exact ⟨rfl, (by repeat (first | with_reducible exact Kept.refl _ | with_reducible apply Kept.drew | with_reducible apply Kept.drewN | with_reducible apply Kept.alloc | (with_reducible refine Kept.setCellX ?_ ?_ _; focus (first | (simp; done) | (simp; omega))) | (with_reducible refine Kept.trans ?_ (by assumption))))⟩
end Go.Proofs.Ytingopdeckgpaaa
