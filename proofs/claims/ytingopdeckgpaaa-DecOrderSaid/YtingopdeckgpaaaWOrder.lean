/- The law DecOrder, walked. -/
import Derived.Test.YtingopdeckgpaaaWKnown
import Derived.Test.YtingopdeckgpaaaMOrder
import Derived.Test.YtingopdeckgpaaaWArgs
namespace Go.Proofs.Ytingopdeckgpaaa
set_option linter.unusedVariables false
set_option linter.unusedSimpArgs false
open Go.RowKit Lv

set_option maxHeartbeats 400000 in
theorem ord_nok_s (a b x p z : Int) (w : World) (a1 : -9223372036854775808 ≤ a) (a2 : a ≤ 9223372036854775807) (b1 : -9223372036854775808 ≤ b) (b2 : b ≤ 9223372036854775807)
    (A : Hid (∀ w, Calls Try.prog 15 #[.int .i64 a, .int .i64 b] w fun e w' => e = .returned (.tuple #[.int .i64 x, .bool true]) ∧ Kept w w'))
    (A' : Hid (∀ w, Calls Try.prog 15 #[.int .i64 b, .int .i64 a] w fun e w' => e = .returned (.tuple #[.int .i64 x, .bool true]) ∧ Kept w w'))
    (M : Hid (∀ w, Calls Try.prog 21 #[.int .i64 a, .int .i64 b] w fun e w' => e = .returned (.tuple #[.int .i64 p, .bool false]) ∧ ∃ n, w' = w.drewN n))
    (M' : Hid (∀ w, Calls Try.prog 21 #[.int .i64 b, .int .i64 a] w fun e w' => e = .returned (.tuple #[.int .i64 p, .bool false]) ∧ ∃ n, w' = w.drewN n))
    (S : Hid (∀ w, Calls Try.prog 17 #[.int .i64 x, .int .i64 b] w fun e w' => e = .returned (.tuple #[.int .i64 a, .bool true]) ∧ Kept w w'))
    (lo : -9223372036854775807 ≤ a) :
    Calls Try.prog 7 #[.int .i64 a, .int .i64 b] w fun e w' => e = .returned (.bool true) ∧ Below w.heap.size w w' := by
  have K := Lib.hid known_any
  have x1 : (x != x) = false := by simp
  have p1 : (p != p) = false := by simp
  have aa : (a != a) = false := by simp
  go_enter Try.func7, Try.ntmps7
  go_wp2_with fail
  refine (A.out _).mono ?_
  rintro e w' ⟨rfl, k1⟩
  go_wp2_with fail
  refine (A'.out _).mono ?_
  rintro e w' ⟨rfl, k2⟩
  go_wp2_with fail
  refine (M.out _).mono ?_
  rintro e w' ⟨rfl, n1, rfl⟩
  go_wp2_with fail
  refine (M'.out _).mono ?_
  rintro e w' ⟨rfl, n2, rfl⟩
  go_wp2_with fail
  refine (S.out _).mono ?_
  rintro e w' ⟨rfl, k3⟩
  go_wp2_with fail
  refine (K.out _).mono ?_
  rintro e w' ⟨rfl, k4⟩
  go_wp2_with fail
  go_ret
  exact ⟨rfl, (by repeat (first | with_reducible exact Kept.refl _ | with_reducible apply Kept.drew | with_reducible apply Kept.drewN | with_reducible apply Kept.alloc | (with_reducible refine Kept.setCellX ?_ ?_ _; focus (first | (simp; done) | (simp; omega))) | (with_reducible refine Kept.trans ?_ (by assumption))))⟩

set_option maxHeartbeats 400000 in
theorem ord_b0_s (a b x p z : Int) (w : World) (a1 : -9223372036854775808 ≤ a) (a2 : a ≤ 9223372036854775807) (b1 : -9223372036854775808 ≤ b) (b2 : b ≤ 9223372036854775807)
    (A : Hid (∀ w, Calls Try.prog 15 #[.int .i64 a, .int .i64 b] w fun e w' => e = .returned (.tuple #[.int .i64 x, .bool true]) ∧ Kept w w'))
    (A' : Hid (∀ w, Calls Try.prog 15 #[.int .i64 b, .int .i64 a] w fun e w' => e = .returned (.tuple #[.int .i64 x, .bool true]) ∧ Kept w w'))
    (M : Hid (∀ w, Calls Try.prog 21 #[.int .i64 a, .int .i64 b] w fun e w' => e = .returned (.tuple #[.int .i64 p, .bool true]) ∧ ∃ n, w' = w.drewN n))
    (M' : Hid (∀ w, Calls Try.prog 21 #[.int .i64 b, .int .i64 a] w fun e w' => e = .returned (.tuple #[.int .i64 p, .bool true]) ∧ ∃ n, w' = w.drewN n))
    (S : Hid (∀ w, Calls Try.prog 17 #[.int .i64 x, .int .i64 b] w fun e w' => e = .returned (.tuple #[.int .i64 a, .bool true]) ∧ Kept w w'))
    (lo : -9223372036854775807 ≤ a)
    (bz : (b == 0) = true) :
    Calls Try.prog 7 #[.int .i64 a, .int .i64 b] w fun e w' => e = .returned (.bool true) ∧ Below w.heap.size w w' := by
  have K := Lib.hid known_any
  have x1 : (x != x) = false := by simp
  have p1 : (p != p) = false := by simp
  have aa : (a != a) = false := by simp
  go_enter Try.func7, Try.ntmps7
  go_wp2_with fail
  refine (A.out _).mono ?_
  rintro e w' ⟨rfl, k1⟩
  go_wp2_with fail
  refine (A'.out _).mono ?_
  rintro e w' ⟨rfl, k2⟩
  go_wp2_with fail
  refine (M.out _).mono ?_
  rintro e w' ⟨rfl, n1, rfl⟩
  go_wp2_with fail
  refine (M'.out _).mono ?_
  rintro e w' ⟨rfl, n2, rfl⟩
  go_wp2_with fail
  refine (S.out _).mono ?_
  rintro e w' ⟨rfl, k3⟩
  go_wp2_with fail
  refine (K.out _).mono ?_
  rintro e w' ⟨rfl, k4⟩
  go_wp2_with fail
  go_ret
  exact ⟨rfl, (by repeat (first | with_reducible exact Kept.refl _ | with_reducible apply Kept.drew | with_reducible apply Kept.drewN | with_reducible apply Kept.alloc | (with_reducible refine Kept.setCellX ?_ ?_ _; focus (first | (simp; done) | (simp; omega))) | (with_reducible refine Kept.trans ?_ (by assumption))))⟩

set_option maxHeartbeats 400000 in
theorem ord_lo_s (a b x p z : Int) (w : World) (a1 : -9223372036854775808 ≤ a) (a2 : a ≤ 9223372036854775807) (b1 : -9223372036854775808 ≤ b) (b2 : b ≤ 9223372036854775807)
    (A : Hid (∀ w, Calls Try.prog 15 #[.int .i64 a, .int .i64 b] w fun e w' => e = .returned (.tuple #[.int .i64 x, .bool true]) ∧ Kept w w'))
    (A' : Hid (∀ w, Calls Try.prog 15 #[.int .i64 b, .int .i64 a] w fun e w' => e = .returned (.tuple #[.int .i64 x, .bool true]) ∧ Kept w w'))
    (M : Hid (∀ w, Calls Try.prog 21 #[.int .i64 a, .int .i64 b] w fun e w' => e = .returned (.tuple #[.int .i64 p, .bool true]) ∧ ∃ n, w' = w.drewN n))
    (M' : Hid (∀ w, Calls Try.prog 21 #[.int .i64 b, .int .i64 a] w fun e w' => e = .returned (.tuple #[.int .i64 p, .bool true]) ∧ ∃ n, w' = w.drewN n))
    (S : Hid (∀ w, Calls Try.prog 17 #[.int .i64 x, .int .i64 b] w fun e w' => e = .returned (.tuple #[.int .i64 a, .bool true]) ∧ Kept w w'))
    (lo : -9223372036854775807 ≤ a)
    (bz : (b == 0) = false)
    (al : a < -4611686018427387903) :
    Calls Try.prog 7 #[.int .i64 a, .int .i64 b] w fun e w' => e = .returned (.bool true) ∧ Below w.heap.size w w' := by
  have K := Lib.hid known_any
  have x1 : (x != x) = false := by simp
  have p1 : (p != p) = false := by simp
  have aa : (a != a) = false := by simp
  go_enter Try.func7, Try.ntmps7
  go_wp2_with fail
  refine (A.out _).mono ?_
  rintro e w' ⟨rfl, k1⟩
  go_wp2_with fail
  refine (A'.out _).mono ?_
  rintro e w' ⟨rfl, k2⟩
  go_wp2_with fail
  refine (M.out _).mono ?_
  rintro e w' ⟨rfl, n1, rfl⟩
  go_wp2_with fail
  refine (M'.out _).mono ?_
  rintro e w' ⟨rfl, n2, rfl⟩
  go_wp2_with fail
  refine (S.out _).mono ?_
  rintro e w' ⟨rfl, k3⟩
  go_wp2_with fail
  refine (K.out _).mono ?_
  rintro e w' ⟨rfl, k4⟩
  go_wp2_with fail
  go_ret
  exact ⟨rfl, (by repeat (first | with_reducible exact Kept.refl _ | with_reducible apply Kept.drew | with_reducible apply Kept.drewN | with_reducible apply Kept.alloc | (with_reducible refine Kept.setCellX ?_ ?_ _; focus (first | (simp; done) | (simp; omega))) | (with_reducible refine Kept.trans ?_ (by assumption))))⟩

set_option maxHeartbeats 400000 in
theorem ord_hi_s (a b x p z : Int) (w : World) (a1 : -9223372036854775808 ≤ a) (a2 : a ≤ 9223372036854775807) (b1 : -9223372036854775808 ≤ b) (b2 : b ≤ 9223372036854775807)
    (A : Hid (∀ w, Calls Try.prog 15 #[.int .i64 a, .int .i64 b] w fun e w' => e = .returned (.tuple #[.int .i64 x, .bool true]) ∧ Kept w w'))
    (A' : Hid (∀ w, Calls Try.prog 15 #[.int .i64 b, .int .i64 a] w fun e w' => e = .returned (.tuple #[.int .i64 x, .bool true]) ∧ Kept w w'))
    (M : Hid (∀ w, Calls Try.prog 21 #[.int .i64 a, .int .i64 b] w fun e w' => e = .returned (.tuple #[.int .i64 p, .bool true]) ∧ ∃ n, w' = w.drewN n))
    (M' : Hid (∀ w, Calls Try.prog 21 #[.int .i64 b, .int .i64 a] w fun e w' => e = .returned (.tuple #[.int .i64 p, .bool true]) ∧ ∃ n, w' = w.drewN n))
    (S : Hid (∀ w, Calls Try.prog 17 #[.int .i64 x, .int .i64 b] w fun e w' => e = .returned (.tuple #[.int .i64 a, .bool true]) ∧ Kept w w'))
    (lo : -9223372036854775807 ≤ a)
    (bz : (b == 0) = false)
    (al : -4611686018427387903 ≤ a) (ah : 4611686018427387903 < a) :
    Calls Try.prog 7 #[.int .i64 a, .int .i64 b] w fun e w' => e = .returned (.bool true) ∧ Below w.heap.size w w' := by
  have K := Lib.hid known_any
  have x1 : (x != x) = false := by simp
  have p1 : (p != p) = false := by simp
  have aa : (a != a) = false := by simp
  go_enter Try.func7, Try.ntmps7
  go_wp2_with fail
  refine (A.out _).mono ?_
  rintro e w' ⟨rfl, k1⟩
  go_wp2_with fail
  refine (A'.out _).mono ?_
  rintro e w' ⟨rfl, k2⟩
  go_wp2_with fail
  refine (M.out _).mono ?_
  rintro e w' ⟨rfl, n1, rfl⟩
  go_wp2_with fail
  refine (M'.out _).mono ?_
  rintro e w' ⟨rfl, n2, rfl⟩
  go_wp2_with fail
  refine (S.out _).mono ?_
  rintro e w' ⟨rfl, k3⟩
  go_wp2_with fail
  refine (K.out _).mono ?_
  rintro e w' ⟨rfl, k4⟩
  go_wp2_with fail
  go_ret
  exact ⟨rfl, (by repeat (first | with_reducible exact Kept.refl _ | with_reducible apply Kept.drew | with_reducible apply Kept.drewN | with_reducible apply Kept.alloc | (with_reducible refine Kept.setCellX ?_ ?_ _; focus (first | (simp; done) | (simp; omega))) | (with_reducible refine Kept.trans ?_ (by assumption))))⟩

set_option maxHeartbeats 400000 in
theorem ord_nf_s (a b x p z : Int) (w : World) (a1 : -9223372036854775808 ≤ a) (a2 : a ≤ 9223372036854775807) (b1 : -9223372036854775808 ≤ b) (b2 : b ≤ 9223372036854775807)
    (A : Hid (∀ w, Calls Try.prog 15 #[.int .i64 a, .int .i64 b] w fun e w' => e = .returned (.tuple #[.int .i64 x, .bool true]) ∧ Kept w w'))
    (A' : Hid (∀ w, Calls Try.prog 15 #[.int .i64 b, .int .i64 a] w fun e w' => e = .returned (.tuple #[.int .i64 x, .bool true]) ∧ Kept w w'))
    (M : Hid (∀ w, Calls Try.prog 21 #[.int .i64 a, .int .i64 b] w fun e w' => e = .returned (.tuple #[.int .i64 p, .bool true]) ∧ ∃ n, w' = w.drewN n))
    (M' : Hid (∀ w, Calls Try.prog 21 #[.int .i64 b, .int .i64 a] w fun e w' => e = .returned (.tuple #[.int .i64 p, .bool true]) ∧ ∃ n, w' = w.drewN n))
    (S : Hid (∀ w, Calls Try.prog 17 #[.int .i64 x, .int .i64 b] w fun e w' => e = .returned (.tuple #[.int .i64 a, .bool true]) ∧ Kept w w'))
    (Q : Hid (∀ w, Calls Try.prog 23 #[.int .i64 p, .int .i64 b] w fun e w' => e = .returned (.tuple #[.int .i64 z, .bool false]) ∧ ∃ n, w' = w.drewN n))
    (lo : -9223372036854775807 ≤ a)
    (bz : (b == 0) = false)
    (al : -4611686018427387903 ≤ a) (ah : a ≤ 4611686018427387903) :
    Calls Try.prog 7 #[.int .i64 a, .int .i64 b] w fun e w' => e = .returned (.bool true) ∧ Below w.heap.size w w' := by
  have K := Lib.hid known_any
  have x1 : (x != x) = false := by simp
  have p1 : (p != p) = false := by simp
  have aa : (a != a) = false := by simp
  go_enter Try.func7, Try.ntmps7
  go_wp2_with fail
  refine (A.out _).mono ?_
  rintro e w' ⟨rfl, k1⟩
  go_wp2_with fail
  refine (A'.out _).mono ?_
  rintro e w' ⟨rfl, k2⟩
  go_wp2_with fail
  refine (M.out _).mono ?_
  rintro e w' ⟨rfl, n1, rfl⟩
  go_wp2_with fail
  refine (M'.out _).mono ?_
  rintro e w' ⟨rfl, n2, rfl⟩
  go_wp2_with fail
  refine (S.out _).mono ?_
  rintro e w' ⟨rfl, k3⟩
  go_wp2_with fail
  refine (Q.out _).mono ?_
  rintro e w' ⟨rfl, n3, rfl⟩
  go_wp2_with fail
  refine (K.out _).mono ?_
  rintro e w' ⟨rfl, k4⟩
  go_wp2_with fail
  go_ret
  exact ⟨rfl, (by repeat (first | with_reducible exact Kept.refl _ | with_reducible apply Kept.drew | with_reducible apply Kept.drewN | with_reducible apply Kept.alloc | (with_reducible refine Kept.setCellX ?_ ?_ _; focus (first | (simp; done) | (simp; omega))) | (with_reducible refine Kept.trans ?_ (by assumption))))⟩

set_option maxHeartbeats 400000 in
theorem ord_B1n_s (a b x p z : Int) (w : World) (a1 : -9223372036854775808 ≤ a) (a2 : a ≤ 9223372036854775807) (b1 : -9223372036854775808 ≤ b) (b2 : b ≤ 9223372036854775807)
    (A : Hid (∀ w, Calls Try.prog 15 #[.int .i64 a, .int .i64 b] w fun e w' => e = .returned (.tuple #[.int .i64 x, .bool true]) ∧ Kept w w'))
    (A' : Hid (∀ w, Calls Try.prog 15 #[.int .i64 b, .int .i64 a] w fun e w' => e = .returned (.tuple #[.int .i64 x, .bool true]) ∧ Kept w w'))
    (M : Hid (∀ w, Calls Try.prog 21 #[.int .i64 a, .int .i64 b] w fun e w' => e = .returned (.tuple #[.int .i64 p, .bool true]) ∧ ∃ n, w' = w.drewN n))
    (M' : Hid (∀ w, Calls Try.prog 21 #[.int .i64 b, .int .i64 a] w fun e w' => e = .returned (.tuple #[.int .i64 p, .bool true]) ∧ ∃ n, w' = w.drewN n))
    (S : Hid (∀ w, Calls Try.prog 17 #[.int .i64 x, .int .i64 b] w fun e w' => e = .returned (.tuple #[.int .i64 a, .bool true]) ∧ Kept w w'))
    (Q : Hid (∀ w, Calls Try.prog 23 #[.int .i64 p, .int .i64 b] w fun e w' => e = .returned (.tuple #[.int .i64 z, .bool true]) ∧ ∃ n, w' = w.drewN n))
    (lo : -9223372036854775807 ≤ a)
    (bz : (b == 0) = false)
    (al : -4611686018427387903 ≤ a) (ah : a ≤ 4611686018427387903)
    (dz : z - a < 0) (dl : -10002 ≤ z - a)
    (B : 10000 ≤ b) (far : -(z - a) ≤ 1) :
    Calls Try.prog 7 #[.int .i64 a, .int .i64 b] w fun e w' => e = .returned (.bool true) ∧ Below w.heap.size w w' := by
  have K := Lib.hid known_any
  have x1 : (x != x) = false := by simp
  have p1 : (p != p) = false := by simp
  have aa : (a != a) = false := by simp
  go_enter Try.func7, Try.ntmps7
  go_wp2_with fail
  refine (A.out _).mono ?_
  rintro e w' ⟨rfl, k1⟩
  go_wp2_with fail
  refine (A'.out _).mono ?_
  rintro e w' ⟨rfl, k2⟩
  go_wp2_with fail
  refine (M.out _).mono ?_
  rintro e w' ⟨rfl, n1, rfl⟩
  go_wp2_with fail
  refine (M'.out _).mono ?_
  rintro e w' ⟨rfl, n2, rfl⟩
  go_wp2_with fail
  refine (S.out _).mono ?_
  rintro e w' ⟨rfl, k3⟩
  go_wp2_with fail
  refine (Q.out _).mono ?_
  rintro e w' ⟨rfl, n3, rfl⟩
  go_wp2_with fail
  refine (K.out _).mono ?_
  rintro e w' ⟨rfl, k4⟩
  go_wp2_with fail
  go_ret
  exact ⟨rfl, (by repeat (first | with_reducible exact Kept.refl _ | with_reducible apply Kept.drew | with_reducible apply Kept.drewN | with_reducible apply Kept.alloc | (with_reducible refine Kept.setCellX ?_ ?_ _; focus (first | (simp; done) | (simp; omega))) | (with_reducible refine Kept.trans ?_ (by assumption))))⟩

set_option maxHeartbeats 400000 in
theorem ord_B2n_s (a b x p z : Int) (w : World) (a1 : -9223372036854775808 ≤ a) (a2 : a ≤ 9223372036854775807) (b1 : -9223372036854775808 ≤ b) (b2 : b ≤ 9223372036854775807)
    (A : Hid (∀ w, Calls Try.prog 15 #[.int .i64 a, .int .i64 b] w fun e w' => e = .returned (.tuple #[.int .i64 x, .bool true]) ∧ Kept w w'))
    (A' : Hid (∀ w, Calls Try.prog 15 #[.int .i64 b, .int .i64 a] w fun e w' => e = .returned (.tuple #[.int .i64 x, .bool true]) ∧ Kept w w'))
    (M : Hid (∀ w, Calls Try.prog 21 #[.int .i64 a, .int .i64 b] w fun e w' => e = .returned (.tuple #[.int .i64 p, .bool true]) ∧ ∃ n, w' = w.drewN n))
    (M' : Hid (∀ w, Calls Try.prog 21 #[.int .i64 b, .int .i64 a] w fun e w' => e = .returned (.tuple #[.int .i64 p, .bool true]) ∧ ∃ n, w' = w.drewN n))
    (S : Hid (∀ w, Calls Try.prog 17 #[.int .i64 x, .int .i64 b] w fun e w' => e = .returned (.tuple #[.int .i64 a, .bool true]) ∧ Kept w w'))
    (Q : Hid (∀ w, Calls Try.prog 23 #[.int .i64 p, .int .i64 b] w fun e w' => e = .returned (.tuple #[.int .i64 z, .bool true]) ∧ ∃ n, w' = w.drewN n))
    (lo : -9223372036854775807 ≤ a)
    (bz : (b == 0) = false)
    (al : -4611686018427387903 ≤ a) (ah : a ≤ 4611686018427387903)
    (dz : z - a < 0) (dl : -10002 ≤ z - a)
    (B : b < 10000) (B' : b ≤ -10000) (far : -(z - a) ≤ 1) :
    Calls Try.prog 7 #[.int .i64 a, .int .i64 b] w fun e w' => e = .returned (.bool true) ∧ Below w.heap.size w w' := by
  have K := Lib.hid known_any
  have x1 : (x != x) = false := by simp
  have p1 : (p != p) = false := by simp
  have aa : (a != a) = false := by simp
  go_enter Try.func7, Try.ntmps7
  go_wp2_with fail
  refine (A.out _).mono ?_
  rintro e w' ⟨rfl, k1⟩
  go_wp2_with fail
  refine (A'.out _).mono ?_
  rintro e w' ⟨rfl, k2⟩
  go_wp2_with fail
  refine (M.out _).mono ?_
  rintro e w' ⟨rfl, n1, rfl⟩
  go_wp2_with fail
  refine (M'.out _).mono ?_
  rintro e w' ⟨rfl, n2, rfl⟩
  go_wp2_with fail
  refine (S.out _).mono ?_
  rintro e w' ⟨rfl, k3⟩
  go_wp2_with fail
  refine (Q.out _).mono ?_
  rintro e w' ⟨rfl, n3, rfl⟩
  go_wp2_with fail
  refine (K.out _).mono ?_
  rintro e w' ⟨rfl, k4⟩
  go_wp2_with fail
  go_ret
  exact ⟨rfl, (by repeat (first | with_reducible exact Kept.refl _ | with_reducible apply Kept.drew | with_reducible apply Kept.drewN | with_reducible apply Kept.alloc | (with_reducible refine Kept.setCellX ?_ ?_ _; focus (first | (simp; done) | (simp; omega))) | (with_reducible refine Kept.trans ?_ (by assumption))))⟩

set_option maxHeartbeats 400000 in
theorem ord_B3n_s (a b x p z : Int) (w : World) (a1 : -9223372036854775808 ≤ a) (a2 : a ≤ 9223372036854775807) (b1 : -9223372036854775808 ≤ b) (b2 : b ≤ 9223372036854775807)
    (A : Hid (∀ w, Calls Try.prog 15 #[.int .i64 a, .int .i64 b] w fun e w' => e = .returned (.tuple #[.int .i64 x, .bool true]) ∧ Kept w w'))
    (A' : Hid (∀ w, Calls Try.prog 15 #[.int .i64 b, .int .i64 a] w fun e w' => e = .returned (.tuple #[.int .i64 x, .bool true]) ∧ Kept w w'))
    (M : Hid (∀ w, Calls Try.prog 21 #[.int .i64 a, .int .i64 b] w fun e w' => e = .returned (.tuple #[.int .i64 p, .bool true]) ∧ ∃ n, w' = w.drewN n))
    (M' : Hid (∀ w, Calls Try.prog 21 #[.int .i64 b, .int .i64 a] w fun e w' => e = .returned (.tuple #[.int .i64 p, .bool true]) ∧ ∃ n, w' = w.drewN n))
    (S : Hid (∀ w, Calls Try.prog 17 #[.int .i64 x, .int .i64 b] w fun e w' => e = .returned (.tuple #[.int .i64 a, .bool true]) ∧ Kept w w'))
    (Q : Hid (∀ w, Calls Try.prog 23 #[.int .i64 p, .int .i64 b] w fun e w' => e = .returned (.tuple #[.int .i64 z, .bool true]) ∧ ∃ n, w' = w.drewN n))
    (lo : -9223372036854775807 ≤ a)
    (bz : (b == 0) = false)
    (al : -4611686018427387903 ≤ a) (ah : a ≤ 4611686018427387903)
    (dz : z - a < 0) (dl : -10002 ≤ z - a)
    (B : b < 10000) (B' : 0 < b) (far : -(z - a) ≤ 10000 / b + 2) (q0 : 0 ≤ 10000 / b) (q1 : 10000 / b ≤ 10000) :
    Calls Try.prog 7 #[.int .i64 a, .int .i64 b] w fun e w' => e = .returned (.bool true) ∧ Below w.heap.size w w' := by
  have K := Lib.hid known_any
  have x1 : (x != x) = false := by simp
  have p1 : (p != p) = false := by simp
  have aa : (a != a) = false := by simp
  have mx : max b (-b) = b := by omega
  go_enter Try.func7, Try.ntmps7
  go_wp2_with fail
  refine (A.out _).mono ?_
  rintro e w' ⟨rfl, k1⟩
  go_wp2_with fail
  refine (A'.out _).mono ?_
  rintro e w' ⟨rfl, k2⟩
  go_wp2_with fail
  refine (M.out _).mono ?_
  rintro e w' ⟨rfl, n1, rfl⟩
  go_wp2_with fail
  refine (M'.out _).mono ?_
  rintro e w' ⟨rfl, n2, rfl⟩
  go_wp2_with fail
  refine (S.out _).mono ?_
  rintro e w' ⟨rfl, k3⟩
  go_wp2_with fail
  refine (Q.out _).mono ?_
  rintro e w' ⟨rfl, n3, rfl⟩
  go_wp2_with fail
  refine (K.out _).mono ?_
  rintro e w' ⟨rfl, k4⟩
  go_wp2_with fail
  go_ret
  exact ⟨rfl, (by repeat (first | with_reducible exact Kept.refl _ | with_reducible apply Kept.drew | with_reducible apply Kept.drewN | with_reducible apply Kept.alloc | (with_reducible refine Kept.setCellX ?_ ?_ _; focus (first | (simp; done) | (simp; omega))) | (with_reducible refine Kept.trans ?_ (by assumption))))⟩

set_option maxHeartbeats 400000 in
theorem ord_B4n_s (a c x p z : Int) (w : World) (a1 : -9223372036854775808 ≤ a) (a2 : a ≤ 9223372036854775807) (b1 : -9223372036854775808 ≤ -c) (b2 : -c ≤ 9223372036854775807)
    (A : Hid (∀ w, Calls Try.prog 15 #[.int .i64 a, .int .i64 (-c)] w fun e w' => e = .returned (.tuple #[.int .i64 x, .bool true]) ∧ Kept w w'))
    (A' : Hid (∀ w, Calls Try.prog 15 #[.int .i64 (-c), .int .i64 a] w fun e w' => e = .returned (.tuple #[.int .i64 x, .bool true]) ∧ Kept w w'))
    (M : Hid (∀ w, Calls Try.prog 21 #[.int .i64 a, .int .i64 (-c)] w fun e w' => e = .returned (.tuple #[.int .i64 p, .bool true]) ∧ ∃ n, w' = w.drewN n))
    (M' : Hid (∀ w, Calls Try.prog 21 #[.int .i64 (-c), .int .i64 a] w fun e w' => e = .returned (.tuple #[.int .i64 p, .bool true]) ∧ ∃ n, w' = w.drewN n))
    (S : Hid (∀ w, Calls Try.prog 17 #[.int .i64 x, .int .i64 (-c)] w fun e w' => e = .returned (.tuple #[.int .i64 a, .bool true]) ∧ Kept w w'))
    (Q : Hid (∀ w, Calls Try.prog 23 #[.int .i64 p, .int .i64 (-c)] w fun e w' => e = .returned (.tuple #[.int .i64 z, .bool true]) ∧ ∃ n, w' = w.drewN n))
    (lo : -9223372036854775807 ≤ a)
    (bz : ((-c : Int) == 0) = false) (bz2 : (c == 0) = false)
    (al : -4611686018427387903 ≤ a) (ah : a ≤ 4611686018427387903)
    (dz : z - a < 0) (dl : -10002 ≤ z - a)
    (B : 0 < c) (B' : c < 10000) (far : -(z - a) ≤ 10000 / c + 2) (q0 : 0 ≤ 10000 / c) (q1 : 10000 / c ≤ 10000) :
    Calls Try.prog 7 #[.int .i64 a, .int .i64 (-c)] w fun e w' => e = .returned (.bool true) ∧ Below w.heap.size w w' := by
  have K := Lib.hid known_any
  have x1 : (x != x) = false := by simp
  have p1 : (p != p) = false := by simp
  have aa : (a != a) = false := by simp
  have mx : max (-c) c = c := by omega
  go_enter Try.func7, Try.ntmps7
  go_wp2_with fail
  refine (A.out _).mono ?_
  rintro e w' ⟨rfl, k1⟩
  go_wp2_with fail
  refine (A'.out _).mono ?_
  rintro e w' ⟨rfl, k2⟩
  go_wp2_with fail
  refine (M.out _).mono ?_
  rintro e w' ⟨rfl, n1, rfl⟩
  go_wp2_with fail
  refine (M'.out _).mono ?_
  rintro e w' ⟨rfl, n2, rfl⟩
  go_wp2_with fail
  refine (S.out _).mono ?_
  rintro e w' ⟨rfl, k3⟩
  go_wp2_with fail
  refine (Q.out _).mono ?_
  rintro e w' ⟨rfl, n3, rfl⟩
  go_wp2_with fail
  refine (K.out _).mono ?_
  rintro e w' ⟨rfl, k4⟩
  go_wp2_with fail
  go_ret
  exact ⟨rfl, (by repeat (first | with_reducible exact Kept.refl _ | with_reducible apply Kept.drew | with_reducible apply Kept.drewN | with_reducible apply Kept.alloc | (with_reducible refine Kept.setCellX ?_ ?_ _; focus (first | (simp; done) | (simp; omega))) | (with_reducible refine Kept.trans ?_ (by assumption))))⟩

set_option maxHeartbeats 400000 in
theorem ord_B1p_s (a b x p z : Int) (w : World) (a1 : -9223372036854775808 ≤ a) (a2 : a ≤ 9223372036854775807) (b1 : -9223372036854775808 ≤ b) (b2 : b ≤ 9223372036854775807)
    (A : Hid (∀ w, Calls Try.prog 15 #[.int .i64 a, .int .i64 b] w fun e w' => e = .returned (.tuple #[.int .i64 x, .bool true]) ∧ Kept w w'))
    (A' : Hid (∀ w, Calls Try.prog 15 #[.int .i64 b, .int .i64 a] w fun e w' => e = .returned (.tuple #[.int .i64 x, .bool true]) ∧ Kept w w'))
    (M : Hid (∀ w, Calls Try.prog 21 #[.int .i64 a, .int .i64 b] w fun e w' => e = .returned (.tuple #[.int .i64 p, .bool true]) ∧ ∃ n, w' = w.drewN n))
    (M' : Hid (∀ w, Calls Try.prog 21 #[.int .i64 b, .int .i64 a] w fun e w' => e = .returned (.tuple #[.int .i64 p, .bool true]) ∧ ∃ n, w' = w.drewN n))
    (S : Hid (∀ w, Calls Try.prog 17 #[.int .i64 x, .int .i64 b] w fun e w' => e = .returned (.tuple #[.int .i64 a, .bool true]) ∧ Kept w w'))
    (Q : Hid (∀ w, Calls Try.prog 23 #[.int .i64 p, .int .i64 b] w fun e w' => e = .returned (.tuple #[.int .i64 z, .bool true]) ∧ ∃ n, w' = w.drewN n))
    (lo : -9223372036854775807 ≤ a)
    (bz : (b == 0) = false)
    (al : -4611686018427387903 ≤ a) (ah : a ≤ 4611686018427387903)
    (dz : 0 ≤ z - a) (dl : z - a ≤ 10002)
    (B : 10000 ≤ b) (far : z - a ≤ 1) :
    Calls Try.prog 7 #[.int .i64 a, .int .i64 b] w fun e w' => e = .returned (.bool true) ∧ Below w.heap.size w w' := by
  have K := Lib.hid known_any
  have x1 : (x != x) = false := by simp
  have p1 : (p != p) = false := by simp
  have aa : (a != a) = false := by simp
  go_enter Try.func7, Try.ntmps7
  go_wp2_with fail
  refine (A.out _).mono ?_
  rintro e w' ⟨rfl, k1⟩
  go_wp2_with fail
  refine (A'.out _).mono ?_
  rintro e w' ⟨rfl, k2⟩
  go_wp2_with fail
  refine (M.out _).mono ?_
  rintro e w' ⟨rfl, n1, rfl⟩
  go_wp2_with fail
  refine (M'.out _).mono ?_
  rintro e w' ⟨rfl, n2, rfl⟩
  go_wp2_with fail
  refine (S.out _).mono ?_
  rintro e w' ⟨rfl, k3⟩
  go_wp2_with fail
  refine (Q.out _).mono ?_
  rintro e w' ⟨rfl, n3, rfl⟩
  go_wp2_with fail
  refine (K.out _).mono ?_
  rintro e w' ⟨rfl, k4⟩
  go_wp2_with fail
  go_ret
  exact ⟨rfl, (by repeat (first | with_reducible exact Kept.refl _ | with_reducible apply Kept.drew | with_reducible apply Kept.drewN | with_reducible apply Kept.alloc | (with_reducible refine Kept.setCellX ?_ ?_ _; focus (first | (simp; done) | (simp; omega))) | (with_reducible refine Kept.trans ?_ (by assumption))))⟩

set_option maxHeartbeats 400000 in
theorem ord_B2p_s (a b x p z : Int) (w : World) (a1 : -9223372036854775808 ≤ a) (a2 : a ≤ 9223372036854775807) (b1 : -9223372036854775808 ≤ b) (b2 : b ≤ 9223372036854775807)
    (A : Hid (∀ w, Calls Try.prog 15 #[.int .i64 a, .int .i64 b] w fun e w' => e = .returned (.tuple #[.int .i64 x, .bool true]) ∧ Kept w w'))
    (A' : Hid (∀ w, Calls Try.prog 15 #[.int .i64 b, .int .i64 a] w fun e w' => e = .returned (.tuple #[.int .i64 x, .bool true]) ∧ Kept w w'))
    (M : Hid (∀ w, Calls Try.prog 21 #[.int .i64 a, .int .i64 b] w fun e w' => e = .returned (.tuple #[.int .i64 p, .bool true]) ∧ ∃ n, w' = w.drewN n))
    (M' : Hid (∀ w, Calls Try.prog 21 #[.int .i64 b, .int .i64 a] w fun e w' => e = .returned (.tuple #[.int .i64 p, .bool true]) ∧ ∃ n, w' = w.drewN n))
    (S : Hid (∀ w, Calls Try.prog 17 #[.int .i64 x, .int .i64 b] w fun e w' => e = .returned (.tuple #[.int .i64 a, .bool true]) ∧ Kept w w'))
    (Q : Hid (∀ w, Calls Try.prog 23 #[.int .i64 p, .int .i64 b] w fun e w' => e = .returned (.tuple #[.int .i64 z, .bool true]) ∧ ∃ n, w' = w.drewN n))
    (lo : -9223372036854775807 ≤ a)
    (bz : (b == 0) = false)
    (al : -4611686018427387903 ≤ a) (ah : a ≤ 4611686018427387903)
    (dz : 0 ≤ z - a) (dl : z - a ≤ 10002)
    (B : b < 10000) (B' : b ≤ -10000) (far : z - a ≤ 1) :
    Calls Try.prog 7 #[.int .i64 a, .int .i64 b] w fun e w' => e = .returned (.bool true) ∧ Below w.heap.size w w' := by
  have K := Lib.hid known_any
  have x1 : (x != x) = false := by simp
  have p1 : (p != p) = false := by simp
  have aa : (a != a) = false := by simp
  go_enter Try.func7, Try.ntmps7
  go_wp2_with fail
  refine (A.out _).mono ?_
  rintro e w' ⟨rfl, k1⟩
  go_wp2_with fail
  refine (A'.out _).mono ?_
  rintro e w' ⟨rfl, k2⟩
  go_wp2_with fail
  refine (M.out _).mono ?_
  rintro e w' ⟨rfl, n1, rfl⟩
  go_wp2_with fail
  refine (M'.out _).mono ?_
  rintro e w' ⟨rfl, n2, rfl⟩
  go_wp2_with fail
  refine (S.out _).mono ?_
  rintro e w' ⟨rfl, k3⟩
  go_wp2_with fail
  refine (Q.out _).mono ?_
  rintro e w' ⟨rfl, n3, rfl⟩
  go_wp2_with fail
  refine (K.out _).mono ?_
  rintro e w' ⟨rfl, k4⟩
  go_wp2_with fail
  go_ret
  exact ⟨rfl, (by repeat (first | with_reducible exact Kept.refl _ | with_reducible apply Kept.drew | with_reducible apply Kept.drewN | with_reducible apply Kept.alloc | (with_reducible refine Kept.setCellX ?_ ?_ _; focus (first | (simp; done) | (simp; omega))) | (with_reducible refine Kept.trans ?_ (by assumption))))⟩

set_option maxHeartbeats 400000 in
theorem ord_B3p_s (a b x p z : Int) (w : World) (a1 : -9223372036854775808 ≤ a) (a2 : a ≤ 9223372036854775807) (b1 : -9223372036854775808 ≤ b) (b2 : b ≤ 9223372036854775807)
    (A : Hid (∀ w, Calls Try.prog 15 #[.int .i64 a, .int .i64 b] w fun e w' => e = .returned (.tuple #[.int .i64 x, .bool true]) ∧ Kept w w'))
    (A' : Hid (∀ w, Calls Try.prog 15 #[.int .i64 b, .int .i64 a] w fun e w' => e = .returned (.tuple #[.int .i64 x, .bool true]) ∧ Kept w w'))
    (M : Hid (∀ w, Calls Try.prog 21 #[.int .i64 a, .int .i64 b] w fun e w' => e = .returned (.tuple #[.int .i64 p, .bool true]) ∧ ∃ n, w' = w.drewN n))
    (M' : Hid (∀ w, Calls Try.prog 21 #[.int .i64 b, .int .i64 a] w fun e w' => e = .returned (.tuple #[.int .i64 p, .bool true]) ∧ ∃ n, w' = w.drewN n))
    (S : Hid (∀ w, Calls Try.prog 17 #[.int .i64 x, .int .i64 b] w fun e w' => e = .returned (.tuple #[.int .i64 a, .bool true]) ∧ Kept w w'))
    (Q : Hid (∀ w, Calls Try.prog 23 #[.int .i64 p, .int .i64 b] w fun e w' => e = .returned (.tuple #[.int .i64 z, .bool true]) ∧ ∃ n, w' = w.drewN n))
    (lo : -9223372036854775807 ≤ a)
    (bz : (b == 0) = false)
    (al : -4611686018427387903 ≤ a) (ah : a ≤ 4611686018427387903)
    (dz : 0 ≤ z - a) (dl : z - a ≤ 10002)
    (B : b < 10000) (B' : 0 < b) (far : z - a ≤ 10000 / b + 2) (q0 : 0 ≤ 10000 / b) (q1 : 10000 / b ≤ 10000) :
    Calls Try.prog 7 #[.int .i64 a, .int .i64 b] w fun e w' => e = .returned (.bool true) ∧ Below w.heap.size w w' := by
  have K := Lib.hid known_any
  have x1 : (x != x) = false := by simp
  have p1 : (p != p) = false := by simp
  have aa : (a != a) = false := by simp
  have mx : max b (-b) = b := by omega
  go_enter Try.func7, Try.ntmps7
  go_wp2_with fail
  refine (A.out _).mono ?_
  rintro e w' ⟨rfl, k1⟩
  go_wp2_with fail
  refine (A'.out _).mono ?_
  rintro e w' ⟨rfl, k2⟩
  go_wp2_with fail
  refine (M.out _).mono ?_
  rintro e w' ⟨rfl, n1, rfl⟩
  go_wp2_with fail
  refine (M'.out _).mono ?_
  rintro e w' ⟨rfl, n2, rfl⟩
  go_wp2_with fail
  refine (S.out _).mono ?_
  rintro e w' ⟨rfl, k3⟩
  go_wp2_with fail
  refine (Q.out _).mono ?_
  rintro e w' ⟨rfl, n3, rfl⟩
  go_wp2_with fail
  refine (K.out _).mono ?_
  rintro e w' ⟨rfl, k4⟩
  go_wp2_with fail
  go_ret
  exact ⟨rfl, (by repeat (first | with_reducible exact Kept.refl _ | with_reducible apply Kept.drew | with_reducible apply Kept.drewN | with_reducible apply Kept.alloc | (with_reducible refine Kept.setCellX ?_ ?_ _; focus (first | (simp; done) | (simp; omega))) | (with_reducible refine Kept.trans ?_ (by assumption))))⟩

set_option maxHeartbeats 400000 in
theorem ord_B4p_s (a c x p z : Int) (w : World) (a1 : -9223372036854775808 ≤ a) (a2 : a ≤ 9223372036854775807) (b1 : -9223372036854775808 ≤ -c) (b2 : -c ≤ 9223372036854775807)
    (A : Hid (∀ w, Calls Try.prog 15 #[.int .i64 a, .int .i64 (-c)] w fun e w' => e = .returned (.tuple #[.int .i64 x, .bool true]) ∧ Kept w w'))
    (A' : Hid (∀ w, Calls Try.prog 15 #[.int .i64 (-c), .int .i64 a] w fun e w' => e = .returned (.tuple #[.int .i64 x, .bool true]) ∧ Kept w w'))
    (M : Hid (∀ w, Calls Try.prog 21 #[.int .i64 a, .int .i64 (-c)] w fun e w' => e = .returned (.tuple #[.int .i64 p, .bool true]) ∧ ∃ n, w' = w.drewN n))
    (M' : Hid (∀ w, Calls Try.prog 21 #[.int .i64 (-c), .int .i64 a] w fun e w' => e = .returned (.tuple #[.int .i64 p, .bool true]) ∧ ∃ n, w' = w.drewN n))
    (S : Hid (∀ w, Calls Try.prog 17 #[.int .i64 x, .int .i64 (-c)] w fun e w' => e = .returned (.tuple #[.int .i64 a, .bool true]) ∧ Kept w w'))
    (Q : Hid (∀ w, Calls Try.prog 23 #[.int .i64 p, .int .i64 (-c)] w fun e w' => e = .returned (.tuple #[.int .i64 z, .bool true]) ∧ ∃ n, w' = w.drewN n))
    (lo : -9223372036854775807 ≤ a)
    (bz : ((-c : Int) == 0) = false) (bz2 : (c == 0) = false)
    (al : -4611686018427387903 ≤ a) (ah : a ≤ 4611686018427387903)
    (dz : 0 ≤ z - a) (dl : z - a ≤ 10002)
    (B : 0 < c) (B' : c < 10000) (far : z - a ≤ 10000 / c + 2) (q0 : 0 ≤ 10000 / c) (q1 : 10000 / c ≤ 10000) :
    Calls Try.prog 7 #[.int .i64 a, .int .i64 (-c)] w fun e w' => e = .returned (.bool true) ∧ Below w.heap.size w w' := by
  have K := Lib.hid known_any
  have x1 : (x != x) = false := by simp
  have p1 : (p != p) = false := by simp
  have aa : (a != a) = false := by simp
  have mx : max (-c) c = c := by omega
  go_enter Try.func7, Try.ntmps7
  go_wp2_with fail
  refine (A.out _).mono ?_
  rintro e w' ⟨rfl, k1⟩
  go_wp2_with fail
  refine (A'.out _).mono ?_
  rintro e w' ⟨rfl, k2⟩
  go_wp2_with fail
  refine (M.out _).mono ?_
  rintro e w' ⟨rfl, n1, rfl⟩
  go_wp2_with fail
  refine (M'.out _).mono ?_
  rintro e w' ⟨rfl, n2, rfl⟩
  go_wp2_with fail
  refine (S.out _).mono ?_
  rintro e w' ⟨rfl, k3⟩
  go_wp2_with fail
  refine (Q.out _).mono ?_
  rintro e w' ⟨rfl, n3, rfl⟩
  go_wp2_with fail
  refine (K.out _).mono ?_
  rintro e w' ⟨rfl, k4⟩
  go_wp2_with fail
  go_ret
  exact ⟨rfl, (by repeat (first | with_reducible exact Kept.refl _ | with_reducible apply Kept.drew | with_reducible apply Kept.drewN | with_reducible apply Kept.alloc | (with_reducible refine Kept.setCellX ?_ ?_ _; focus (first | (simp; done) | (simp; omega))) | (with_reducible refine Kept.trans ?_ (by assumption))))⟩

set_option maxHeartbeats 400000 in
theorem ord_nok_f (a b x p z : Int) (w : World) (a1 : -9223372036854775808 ≤ a) (a2 : a ≤ 9223372036854775807) (b1 : -9223372036854775808 ≤ b) (b2 : b ≤ 9223372036854775807)
    (A : Hid (∀ w, Calls Try.prog 15 #[.int .i64 a, .int .i64 b] w fun e w' => e = .returned (.tuple #[.int .i64 x, .bool false]) ∧ Kept w w'))
    (A' : Hid (∀ w, Calls Try.prog 15 #[.int .i64 b, .int .i64 a] w fun e w' => e = .returned (.tuple #[.int .i64 x, .bool false]) ∧ Kept w w'))
    (M : Hid (∀ w, Calls Try.prog 21 #[.int .i64 a, .int .i64 b] w fun e w' => e = .returned (.tuple #[.int .i64 p, .bool false]) ∧ ∃ n, w' = w.drewN n))
    (M' : Hid (∀ w, Calls Try.prog 21 #[.int .i64 b, .int .i64 a] w fun e w' => e = .returned (.tuple #[.int .i64 p, .bool false]) ∧ ∃ n, w' = w.drewN n)) :
    Calls Try.prog 7 #[.int .i64 a, .int .i64 b] w fun e w' => e = .returned (.bool true) ∧ Below w.heap.size w w' := by
  have K := Lib.hid known_any
  have x1 : (x != x) = false := by simp
  have p1 : (p != p) = false := by simp
  have aa : (a != a) = false := by simp
  go_enter Try.func7, Try.ntmps7
  go_wp2_with fail
  refine (A.out _).mono ?_
  rintro e w' ⟨rfl, k1⟩
  go_wp2_with fail
  refine (A'.out _).mono ?_
  rintro e w' ⟨rfl, k2⟩
  go_wp2_with fail
  refine (M.out _).mono ?_
  rintro e w' ⟨rfl, n1, rfl⟩
  go_wp2_with fail
  refine (M'.out _).mono ?_
  rintro e w' ⟨rfl, n2, rfl⟩
  go_wp2_with fail
  refine (K.out _).mono ?_
  rintro e w' ⟨rfl, k4⟩
  go_wp2_with fail
  go_ret
  exact ⟨rfl, (by repeat (first | with_reducible exact Kept.refl _ | with_reducible apply Kept.drew | with_reducible apply Kept.drewN | with_reducible apply Kept.alloc | (with_reducible refine Kept.setCellX ?_ ?_ _; focus (first | (simp; done) | (simp; omega))) | (with_reducible refine Kept.trans ?_ (by assumption))))⟩

set_option maxHeartbeats 400000 in
theorem ord_b0_f (a b x p z : Int) (w : World) (a1 : -9223372036854775808 ≤ a) (a2 : a ≤ 9223372036854775807) (b1 : -9223372036854775808 ≤ b) (b2 : b ≤ 9223372036854775807)
    (A : Hid (∀ w, Calls Try.prog 15 #[.int .i64 a, .int .i64 b] w fun e w' => e = .returned (.tuple #[.int .i64 x, .bool false]) ∧ Kept w w'))
    (A' : Hid (∀ w, Calls Try.prog 15 #[.int .i64 b, .int .i64 a] w fun e w' => e = .returned (.tuple #[.int .i64 x, .bool false]) ∧ Kept w w'))
    (M : Hid (∀ w, Calls Try.prog 21 #[.int .i64 a, .int .i64 b] w fun e w' => e = .returned (.tuple #[.int .i64 p, .bool true]) ∧ ∃ n, w' = w.drewN n))
    (M' : Hid (∀ w, Calls Try.prog 21 #[.int .i64 b, .int .i64 a] w fun e w' => e = .returned (.tuple #[.int .i64 p, .bool true]) ∧ ∃ n, w' = w.drewN n))
    (bz : (b == 0) = true) :
    Calls Try.prog 7 #[.int .i64 a, .int .i64 b] w fun e w' => e = .returned (.bool true) ∧ Below w.heap.size w w' := by
  have K := Lib.hid known_any
  have x1 : (x != x) = false := by simp
  have p1 : (p != p) = false := by simp
  have aa : (a != a) = false := by simp
  go_enter Try.func7, Try.ntmps7
  go_wp2_with fail
  refine (A.out _).mono ?_
  rintro e w' ⟨rfl, k1⟩
  go_wp2_with fail
  refine (A'.out _).mono ?_
  rintro e w' ⟨rfl, k2⟩
  go_wp2_with fail
  refine (M.out _).mono ?_
  rintro e w' ⟨rfl, n1, rfl⟩
  go_wp2_with fail
  refine (M'.out _).mono ?_
  rintro e w' ⟨rfl, n2, rfl⟩
  go_wp2_with fail
  refine (K.out _).mono ?_
  rintro e w' ⟨rfl, k4⟩
  go_wp2_with fail
  go_ret
  exact ⟨rfl, (by repeat (first | with_reducible exact Kept.refl _ | with_reducible apply Kept.drew | with_reducible apply Kept.drewN | with_reducible apply Kept.alloc | (with_reducible refine Kept.setCellX ?_ ?_ _; focus (first | (simp; done) | (simp; omega))) | (with_reducible refine Kept.trans ?_ (by assumption))))⟩

set_option maxHeartbeats 400000 in
theorem ord_lo_f (a b x p z : Int) (w : World) (a1 : -9223372036854775808 ≤ a) (a2 : a ≤ 9223372036854775807) (b1 : -9223372036854775808 ≤ b) (b2 : b ≤ 9223372036854775807)
    (A : Hid (∀ w, Calls Try.prog 15 #[.int .i64 a, .int .i64 b] w fun e w' => e = .returned (.tuple #[.int .i64 x, .bool false]) ∧ Kept w w'))
    (A' : Hid (∀ w, Calls Try.prog 15 #[.int .i64 b, .int .i64 a] w fun e w' => e = .returned (.tuple #[.int .i64 x, .bool false]) ∧ Kept w w'))
    (M : Hid (∀ w, Calls Try.prog 21 #[.int .i64 a, .int .i64 b] w fun e w' => e = .returned (.tuple #[.int .i64 p, .bool true]) ∧ ∃ n, w' = w.drewN n))
    (M' : Hid (∀ w, Calls Try.prog 21 #[.int .i64 b, .int .i64 a] w fun e w' => e = .returned (.tuple #[.int .i64 p, .bool true]) ∧ ∃ n, w' = w.drewN n))
    (bz : (b == 0) = false)
    (al : a < -4611686018427387903) :
    Calls Try.prog 7 #[.int .i64 a, .int .i64 b] w fun e w' => e = .returned (.bool true) ∧ Below w.heap.size w w' := by
  have K := Lib.hid known_any
  have x1 : (x != x) = false := by simp
  have p1 : (p != p) = false := by simp
  have aa : (a != a) = false := by simp
  go_enter Try.func7, Try.ntmps7
  go_wp2_with fail
  refine (A.out _).mono ?_
  rintro e w' ⟨rfl, k1⟩
  go_wp2_with fail
  refine (A'.out _).mono ?_
  rintro e w' ⟨rfl, k2⟩
  go_wp2_with fail
  refine (M.out _).mono ?_
  rintro e w' ⟨rfl, n1, rfl⟩
  go_wp2_with fail
  refine (M'.out _).mono ?_
  rintro e w' ⟨rfl, n2, rfl⟩
  go_wp2_with fail
  refine (K.out _).mono ?_
  rintro e w' ⟨rfl, k4⟩
  go_wp2_with fail
  go_ret
  exact ⟨rfl, (by repeat (first | with_reducible exact Kept.refl _ | with_reducible apply Kept.drew | with_reducible apply Kept.drewN | with_reducible apply Kept.alloc | (with_reducible refine Kept.setCellX ?_ ?_ _; focus (first | (simp; done) | (simp; omega))) | (with_reducible refine Kept.trans ?_ (by assumption))))⟩

set_option maxHeartbeats 400000 in
theorem ord_hi_f (a b x p z : Int) (w : World) (a1 : -9223372036854775808 ≤ a) (a2 : a ≤ 9223372036854775807) (b1 : -9223372036854775808 ≤ b) (b2 : b ≤ 9223372036854775807)
    (A : Hid (∀ w, Calls Try.prog 15 #[.int .i64 a, .int .i64 b] w fun e w' => e = .returned (.tuple #[.int .i64 x, .bool false]) ∧ Kept w w'))
    (A' : Hid (∀ w, Calls Try.prog 15 #[.int .i64 b, .int .i64 a] w fun e w' => e = .returned (.tuple #[.int .i64 x, .bool false]) ∧ Kept w w'))
    (M : Hid (∀ w, Calls Try.prog 21 #[.int .i64 a, .int .i64 b] w fun e w' => e = .returned (.tuple #[.int .i64 p, .bool true]) ∧ ∃ n, w' = w.drewN n))
    (M' : Hid (∀ w, Calls Try.prog 21 #[.int .i64 b, .int .i64 a] w fun e w' => e = .returned (.tuple #[.int .i64 p, .bool true]) ∧ ∃ n, w' = w.drewN n))
    (bz : (b == 0) = false)
    (al : -4611686018427387903 ≤ a) (ah : 4611686018427387903 < a) :
    Calls Try.prog 7 #[.int .i64 a, .int .i64 b] w fun e w' => e = .returned (.bool true) ∧ Below w.heap.size w w' := by
  have K := Lib.hid known_any
  have x1 : (x != x) = false := by simp
  have p1 : (p != p) = false := by simp
  have aa : (a != a) = false := by simp
  go_enter Try.func7, Try.ntmps7
  go_wp2_with fail
  refine (A.out _).mono ?_
  rintro e w' ⟨rfl, k1⟩
  go_wp2_with fail
  refine (A'.out _).mono ?_
  rintro e w' ⟨rfl, k2⟩
  go_wp2_with fail
  refine (M.out _).mono ?_
  rintro e w' ⟨rfl, n1, rfl⟩
  go_wp2_with fail
  refine (M'.out _).mono ?_
  rintro e w' ⟨rfl, n2, rfl⟩
  go_wp2_with fail
  refine (K.out _).mono ?_
  rintro e w' ⟨rfl, k4⟩
  go_wp2_with fail
  go_ret
  exact ⟨rfl, (by repeat (first | with_reducible exact Kept.refl _ | with_reducible apply Kept.drew | with_reducible apply Kept.drewN | with_reducible apply Kept.alloc | (with_reducible refine Kept.setCellX ?_ ?_ _; focus (first | (simp; done) | (simp; omega))) | (with_reducible refine Kept.trans ?_ (by assumption))))⟩

set_option maxHeartbeats 400000 in
theorem ord_nf_f (a b x p z : Int) (w : World) (a1 : -9223372036854775808 ≤ a) (a2 : a ≤ 9223372036854775807) (b1 : -9223372036854775808 ≤ b) (b2 : b ≤ 9223372036854775807)
    (A : Hid (∀ w, Calls Try.prog 15 #[.int .i64 a, .int .i64 b] w fun e w' => e = .returned (.tuple #[.int .i64 x, .bool false]) ∧ Kept w w'))
    (A' : Hid (∀ w, Calls Try.prog 15 #[.int .i64 b, .int .i64 a] w fun e w' => e = .returned (.tuple #[.int .i64 x, .bool false]) ∧ Kept w w'))
    (M : Hid (∀ w, Calls Try.prog 21 #[.int .i64 a, .int .i64 b] w fun e w' => e = .returned (.tuple #[.int .i64 p, .bool true]) ∧ ∃ n, w' = w.drewN n))
    (M' : Hid (∀ w, Calls Try.prog 21 #[.int .i64 b, .int .i64 a] w fun e w' => e = .returned (.tuple #[.int .i64 p, .bool true]) ∧ ∃ n, w' = w.drewN n))
    (Q : Hid (∀ w, Calls Try.prog 23 #[.int .i64 p, .int .i64 b] w fun e w' => e = .returned (.tuple #[.int .i64 z, .bool false]) ∧ ∃ n, w' = w.drewN n))
    (bz : (b == 0) = false)
    (al : -4611686018427387903 ≤ a) (ah : a ≤ 4611686018427387903) :
    Calls Try.prog 7 #[.int .i64 a, .int .i64 b] w fun e w' => e = .returned (.bool true) ∧ Below w.heap.size w w' := by
  have K := Lib.hid known_any
  have x1 : (x != x) = false := by simp
  have p1 : (p != p) = false := by simp
  have aa : (a != a) = false := by simp
  go_enter Try.func7, Try.ntmps7
  go_wp2_with fail
  refine (A.out _).mono ?_
  rintro e w' ⟨rfl, k1⟩
  go_wp2_with fail
  refine (A'.out _).mono ?_
  rintro e w' ⟨rfl, k2⟩
  go_wp2_with fail
  refine (M.out _).mono ?_
  rintro e w' ⟨rfl, n1, rfl⟩
  go_wp2_with fail
  refine (M'.out _).mono ?_
  rintro e w' ⟨rfl, n2, rfl⟩
  go_wp2_with fail
  refine (Q.out _).mono ?_
  rintro e w' ⟨rfl, n3, rfl⟩
  go_wp2_with fail
  refine (K.out _).mono ?_
  rintro e w' ⟨rfl, k4⟩
  go_wp2_with fail
  go_ret
  exact ⟨rfl, (by repeat (first | with_reducible exact Kept.refl _ | with_reducible apply Kept.drew | with_reducible apply Kept.drewN | with_reducible apply Kept.alloc | (with_reducible refine Kept.setCellX ?_ ?_ _; focus (first | (simp; done) | (simp; omega))) | (with_reducible refine Kept.trans ?_ (by assumption))))⟩

set_option maxHeartbeats 400000 in
theorem ord_B1n_f (a b x p z : Int) (w : World) (a1 : -9223372036854775808 ≤ a) (a2 : a ≤ 9223372036854775807) (b1 : -9223372036854775808 ≤ b) (b2 : b ≤ 9223372036854775807)
    (A : Hid (∀ w, Calls Try.prog 15 #[.int .i64 a, .int .i64 b] w fun e w' => e = .returned (.tuple #[.int .i64 x, .bool false]) ∧ Kept w w'))
    (A' : Hid (∀ w, Calls Try.prog 15 #[.int .i64 b, .int .i64 a] w fun e w' => e = .returned (.tuple #[.int .i64 x, .bool false]) ∧ Kept w w'))
    (M : Hid (∀ w, Calls Try.prog 21 #[.int .i64 a, .int .i64 b] w fun e w' => e = .returned (.tuple #[.int .i64 p, .bool true]) ∧ ∃ n, w' = w.drewN n))
    (M' : Hid (∀ w, Calls Try.prog 21 #[.int .i64 b, .int .i64 a] w fun e w' => e = .returned (.tuple #[.int .i64 p, .bool true]) ∧ ∃ n, w' = w.drewN n))
    (Q : Hid (∀ w, Calls Try.prog 23 #[.int .i64 p, .int .i64 b] w fun e w' => e = .returned (.tuple #[.int .i64 z, .bool true]) ∧ ∃ n, w' = w.drewN n))
    (bz : (b == 0) = false)
    (al : -4611686018427387903 ≤ a) (ah : a ≤ 4611686018427387903)
    (dz : z - a < 0) (dl : -10002 ≤ z - a)
    (B : 10000 ≤ b) (far : -(z - a) ≤ 1) :
    Calls Try.prog 7 #[.int .i64 a, .int .i64 b] w fun e w' => e = .returned (.bool true) ∧ Below w.heap.size w w' := by
  have K := Lib.hid known_any
  have x1 : (x != x) = false := by simp
  have p1 : (p != p) = false := by simp
  have aa : (a != a) = false := by simp
  go_enter Try.func7, Try.ntmps7
  go_wp2_with fail
  refine (A.out _).mono ?_
  rintro e w' ⟨rfl, k1⟩
  go_wp2_with fail
  refine (A'.out _).mono ?_
  rintro e w' ⟨rfl, k2⟩
  go_wp2_with fail
  refine (M.out _).mono ?_
  rintro e w' ⟨rfl, n1, rfl⟩
  go_wp2_with fail
  refine (M'.out _).mono ?_
  rintro e w' ⟨rfl, n2, rfl⟩
  go_wp2_with fail
  refine (Q.out _).mono ?_
  rintro e w' ⟨rfl, n3, rfl⟩
  go_wp2_with fail
  refine (K.out _).mono ?_
  rintro e w' ⟨rfl, k4⟩
  go_wp2_with fail
  go_ret
  exact ⟨rfl, (by repeat (first | with_reducible exact Kept.refl _ | with_reducible apply Kept.drew | with_reducible apply Kept.drewN | with_reducible apply Kept.alloc | (with_reducible refine Kept.setCellX ?_ ?_ _; focus (first | (simp; done) | (simp; omega))) | (with_reducible refine Kept.trans ?_ (by assumption))))⟩

set_option maxHeartbeats 400000 in
theorem ord_B2n_f (a b x p z : Int) (w : World) (a1 : -9223372036854775808 ≤ a) (a2 : a ≤ 9223372036854775807) (b1 : -9223372036854775808 ≤ b) (b2 : b ≤ 9223372036854775807)
    (A : Hid (∀ w, Calls Try.prog 15 #[.int .i64 a, .int .i64 b] w fun e w' => e = .returned (.tuple #[.int .i64 x, .bool false]) ∧ Kept w w'))
    (A' : Hid (∀ w, Calls Try.prog 15 #[.int .i64 b, .int .i64 a] w fun e w' => e = .returned (.tuple #[.int .i64 x, .bool false]) ∧ Kept w w'))
    (M : Hid (∀ w, Calls Try.prog 21 #[.int .i64 a, .int .i64 b] w fun e w' => e = .returned (.tuple #[.int .i64 p, .bool true]) ∧ ∃ n, w' = w.drewN n))
    (M' : Hid (∀ w, Calls Try.prog 21 #[.int .i64 b, .int .i64 a] w fun e w' => e = .returned (.tuple #[.int .i64 p, .bool true]) ∧ ∃ n, w' = w.drewN n))
    (Q : Hid (∀ w, Calls Try.prog 23 #[.int .i64 p, .int .i64 b] w fun e w' => e = .returned (.tuple #[.int .i64 z, .bool true]) ∧ ∃ n, w' = w.drewN n))
    (bz : (b == 0) = false)
    (al : -4611686018427387903 ≤ a) (ah : a ≤ 4611686018427387903)
    (dz : z - a < 0) (dl : -10002 ≤ z - a)
    (B : b < 10000) (B' : b ≤ -10000) (far : -(z - a) ≤ 1) :
    Calls Try.prog 7 #[.int .i64 a, .int .i64 b] w fun e w' => e = .returned (.bool true) ∧ Below w.heap.size w w' := by
  have K := Lib.hid known_any
  have x1 : (x != x) = false := by simp
  have p1 : (p != p) = false := by simp
  have aa : (a != a) = false := by simp
  go_enter Try.func7, Try.ntmps7
  go_wp2_with fail
  refine (A.out _).mono ?_
  rintro e w' ⟨rfl, k1⟩
  go_wp2_with fail
  refine (A'.out _).mono ?_
  rintro e w' ⟨rfl, k2⟩
  go_wp2_with fail
  refine (M.out _).mono ?_
  rintro e w' ⟨rfl, n1, rfl⟩
  go_wp2_with fail
  refine (M'.out _).mono ?_
  rintro e w' ⟨rfl, n2, rfl⟩
  go_wp2_with fail
  refine (Q.out _).mono ?_
  rintro e w' ⟨rfl, n3, rfl⟩
  go_wp2_with fail
  refine (K.out _).mono ?_
  rintro e w' ⟨rfl, k4⟩
  go_wp2_with fail
  go_ret
  exact ⟨rfl, (by repeat (first | with_reducible exact Kept.refl _ | with_reducible apply Kept.drew | with_reducible apply Kept.drewN | with_reducible apply Kept.alloc | (with_reducible refine Kept.setCellX ?_ ?_ _; focus (first | (simp; done) | (simp; omega))) | (with_reducible refine Kept.trans ?_ (by assumption))))⟩

set_option maxHeartbeats 400000 in
theorem ord_B3n_f (a b x p z : Int) (w : World) (a1 : -9223372036854775808 ≤ a) (a2 : a ≤ 9223372036854775807) (b1 : -9223372036854775808 ≤ b) (b2 : b ≤ 9223372036854775807)
    (A : Hid (∀ w, Calls Try.prog 15 #[.int .i64 a, .int .i64 b] w fun e w' => e = .returned (.tuple #[.int .i64 x, .bool false]) ∧ Kept w w'))
    (A' : Hid (∀ w, Calls Try.prog 15 #[.int .i64 b, .int .i64 a] w fun e w' => e = .returned (.tuple #[.int .i64 x, .bool false]) ∧ Kept w w'))
    (M : Hid (∀ w, Calls Try.prog 21 #[.int .i64 a, .int .i64 b] w fun e w' => e = .returned (.tuple #[.int .i64 p, .bool true]) ∧ ∃ n, w' = w.drewN n))
    (M' : Hid (∀ w, Calls Try.prog 21 #[.int .i64 b, .int .i64 a] w fun e w' => e = .returned (.tuple #[.int .i64 p, .bool true]) ∧ ∃ n, w' = w.drewN n))
    (Q : Hid (∀ w, Calls Try.prog 23 #[.int .i64 p, .int .i64 b] w fun e w' => e = .returned (.tuple #[.int .i64 z, .bool true]) ∧ ∃ n, w' = w.drewN n))
    (bz : (b == 0) = false)
    (al : -4611686018427387903 ≤ a) (ah : a ≤ 4611686018427387903)
    (dz : z - a < 0) (dl : -10002 ≤ z - a)
    (B : b < 10000) (B' : 0 < b) (far : -(z - a) ≤ 10000 / b + 2) (q0 : 0 ≤ 10000 / b) (q1 : 10000 / b ≤ 10000) :
    Calls Try.prog 7 #[.int .i64 a, .int .i64 b] w fun e w' => e = .returned (.bool true) ∧ Below w.heap.size w w' := by
  have K := Lib.hid known_any
  have x1 : (x != x) = false := by simp
  have p1 : (p != p) = false := by simp
  have aa : (a != a) = false := by simp
  have mx : max b (-b) = b := by omega
  go_enter Try.func7, Try.ntmps7
  go_wp2_with fail
  refine (A.out _).mono ?_
  rintro e w' ⟨rfl, k1⟩
  go_wp2_with fail
  refine (A'.out _).mono ?_
  rintro e w' ⟨rfl, k2⟩
  go_wp2_with fail
  refine (M.out _).mono ?_
  rintro e w' ⟨rfl, n1, rfl⟩
  go_wp2_with fail
  refine (M'.out _).mono ?_
  rintro e w' ⟨rfl, n2, rfl⟩
  go_wp2_with fail
  refine (Q.out _).mono ?_
  rintro e w' ⟨rfl, n3, rfl⟩
  go_wp2_with fail
  refine (K.out _).mono ?_
  rintro e w' ⟨rfl, k4⟩
  go_wp2_with fail
  go_ret
  exact ⟨rfl, (by repeat (first | with_reducible exact Kept.refl _ | with_reducible apply Kept.drew | with_reducible apply Kept.drewN | with_reducible apply Kept.alloc | (with_reducible refine Kept.setCellX ?_ ?_ _; focus (first | (simp; done) | (simp; omega))) | (with_reducible refine Kept.trans ?_ (by assumption))))⟩

set_option maxHeartbeats 400000 in
theorem ord_B4n_f (a c x p z : Int) (w : World) (a1 : -9223372036854775808 ≤ a) (a2 : a ≤ 9223372036854775807) (b1 : -9223372036854775808 ≤ -c) (b2 : -c ≤ 9223372036854775807)
    (A : Hid (∀ w, Calls Try.prog 15 #[.int .i64 a, .int .i64 (-c)] w fun e w' => e = .returned (.tuple #[.int .i64 x, .bool false]) ∧ Kept w w'))
    (A' : Hid (∀ w, Calls Try.prog 15 #[.int .i64 (-c), .int .i64 a] w fun e w' => e = .returned (.tuple #[.int .i64 x, .bool false]) ∧ Kept w w'))
    (M : Hid (∀ w, Calls Try.prog 21 #[.int .i64 a, .int .i64 (-c)] w fun e w' => e = .returned (.tuple #[.int .i64 p, .bool true]) ∧ ∃ n, w' = w.drewN n))
    (M' : Hid (∀ w, Calls Try.prog 21 #[.int .i64 (-c), .int .i64 a] w fun e w' => e = .returned (.tuple #[.int .i64 p, .bool true]) ∧ ∃ n, w' = w.drewN n))
    (Q : Hid (∀ w, Calls Try.prog 23 #[.int .i64 p, .int .i64 (-c)] w fun e w' => e = .returned (.tuple #[.int .i64 z, .bool true]) ∧ ∃ n, w' = w.drewN n))
    (bz : ((-c : Int) == 0) = false) (bz2 : (c == 0) = false)
    (al : -4611686018427387903 ≤ a) (ah : a ≤ 4611686018427387903)
    (dz : z - a < 0) (dl : -10002 ≤ z - a)
    (B : 0 < c) (B' : c < 10000) (far : -(z - a) ≤ 10000 / c + 2) (q0 : 0 ≤ 10000 / c) (q1 : 10000 / c ≤ 10000) :
    Calls Try.prog 7 #[.int .i64 a, .int .i64 (-c)] w fun e w' => e = .returned (.bool true) ∧ Below w.heap.size w w' := by
  have K := Lib.hid known_any
  have x1 : (x != x) = false := by simp
  have p1 : (p != p) = false := by simp
  have aa : (a != a) = false := by simp
  have mx : max (-c) c = c := by omega
  go_enter Try.func7, Try.ntmps7
  go_wp2_with fail
  refine (A.out _).mono ?_
  rintro e w' ⟨rfl, k1⟩
  go_wp2_with fail
  refine (A'.out _).mono ?_
  rintro e w' ⟨rfl, k2⟩
  go_wp2_with fail
  refine (M.out _).mono ?_
  rintro e w' ⟨rfl, n1, rfl⟩
  go_wp2_with fail
  refine (M'.out _).mono ?_
  rintro e w' ⟨rfl, n2, rfl⟩
  go_wp2_with fail
  refine (Q.out _).mono ?_
  rintro e w' ⟨rfl, n3, rfl⟩
  go_wp2_with fail
  refine (K.out _).mono ?_
  rintro e w' ⟨rfl, k4⟩
  go_wp2_with fail
  go_ret
  exact ⟨rfl, (by repeat (first | with_reducible exact Kept.refl _ | with_reducible apply Kept.drew | with_reducible apply Kept.drewN | with_reducible apply Kept.alloc | (with_reducible refine Kept.setCellX ?_ ?_ _; focus (first | (simp; done) | (simp; omega))) | (with_reducible refine Kept.trans ?_ (by assumption))))⟩

set_option maxHeartbeats 400000 in
theorem ord_B1p_f (a b x p z : Int) (w : World) (a1 : -9223372036854775808 ≤ a) (a2 : a ≤ 9223372036854775807) (b1 : -9223372036854775808 ≤ b) (b2 : b ≤ 9223372036854775807)
    (A : Hid (∀ w, Calls Try.prog 15 #[.int .i64 a, .int .i64 b] w fun e w' => e = .returned (.tuple #[.int .i64 x, .bool false]) ∧ Kept w w'))
    (A' : Hid (∀ w, Calls Try.prog 15 #[.int .i64 b, .int .i64 a] w fun e w' => e = .returned (.tuple #[.int .i64 x, .bool false]) ∧ Kept w w'))
    (M : Hid (∀ w, Calls Try.prog 21 #[.int .i64 a, .int .i64 b] w fun e w' => e = .returned (.tuple #[.int .i64 p, .bool true]) ∧ ∃ n, w' = w.drewN n))
    (M' : Hid (∀ w, Calls Try.prog 21 #[.int .i64 b, .int .i64 a] w fun e w' => e = .returned (.tuple #[.int .i64 p, .bool true]) ∧ ∃ n, w' = w.drewN n))
    (Q : Hid (∀ w, Calls Try.prog 23 #[.int .i64 p, .int .i64 b] w fun e w' => e = .returned (.tuple #[.int .i64 z, .bool true]) ∧ ∃ n, w' = w.drewN n))
    (bz : (b == 0) = false)
    (al : -4611686018427387903 ≤ a) (ah : a ≤ 4611686018427387903)
    (dz : 0 ≤ z - a) (dl : z - a ≤ 10002)
    (B : 10000 ≤ b) (far : z - a ≤ 1) :
    Calls Try.prog 7 #[.int .i64 a, .int .i64 b] w fun e w' => e = .returned (.bool true) ∧ Below w.heap.size w w' := by
  have K := Lib.hid known_any
  have x1 : (x != x) = false := by simp
  have p1 : (p != p) = false := by simp
  have aa : (a != a) = false := by simp
  go_enter Try.func7, Try.ntmps7
  go_wp2_with fail
  refine (A.out _).mono ?_
  rintro e w' ⟨rfl, k1⟩
  go_wp2_with fail
  refine (A'.out _).mono ?_
  rintro e w' ⟨rfl, k2⟩
  go_wp2_with fail
  refine (M.out _).mono ?_
  rintro e w' ⟨rfl, n1, rfl⟩
  go_wp2_with fail
  refine (M'.out _).mono ?_
  rintro e w' ⟨rfl, n2, rfl⟩
  go_wp2_with fail
  refine (Q.out _).mono ?_
  rintro e w' ⟨rfl, n3, rfl⟩
  go_wp2_with fail
  refine (K.out _).mono ?_
  rintro e w' ⟨rfl, k4⟩
  go_wp2_with fail
  go_ret
  exact ⟨rfl, (by repeat (first | with_reducible exact Kept.refl _ | with_reducible apply Kept.drew | with_reducible apply Kept.drewN | with_reducible apply Kept.alloc | (with_reducible refine Kept.setCellX ?_ ?_ _; focus (first | (simp; done) | (simp; omega))) | (with_reducible refine Kept.trans ?_ (by assumption))))⟩

set_option maxHeartbeats 400000 in
theorem ord_B2p_f (a b x p z : Int) (w : World) (a1 : -9223372036854775808 ≤ a) (a2 : a ≤ 9223372036854775807) (b1 : -9223372036854775808 ≤ b) (b2 : b ≤ 9223372036854775807)
    (A : Hid (∀ w, Calls Try.prog 15 #[.int .i64 a, .int .i64 b] w fun e w' => e = .returned (.tuple #[.int .i64 x, .bool false]) ∧ Kept w w'))
    (A' : Hid (∀ w, Calls Try.prog 15 #[.int .i64 b, .int .i64 a] w fun e w' => e = .returned (.tuple #[.int .i64 x, .bool false]) ∧ Kept w w'))
    (M : Hid (∀ w, Calls Try.prog 21 #[.int .i64 a, .int .i64 b] w fun e w' => e = .returned (.tuple #[.int .i64 p, .bool true]) ∧ ∃ n, w' = w.drewN n))
    (M' : Hid (∀ w, Calls Try.prog 21 #[.int .i64 b, .int .i64 a] w fun e w' => e = .returned (.tuple #[.int .i64 p, .bool true]) ∧ ∃ n, w' = w.drewN n))
    (Q : Hid (∀ w, Calls Try.prog 23 #[.int .i64 p, .int .i64 b] w fun e w' => e = .returned (.tuple #[.int .i64 z, .bool true]) ∧ ∃ n, w' = w.drewN n))
    (bz : (b == 0) = false)
    (al : -4611686018427387903 ≤ a) (ah : a ≤ 4611686018427387903)
    (dz : 0 ≤ z - a) (dl : z - a ≤ 10002)
    (B : b < 10000) (B' : b ≤ -10000) (far : z - a ≤ 1) :
    Calls Try.prog 7 #[.int .i64 a, .int .i64 b] w fun e w' => e = .returned (.bool true) ∧ Below w.heap.size w w' := by
  have K := Lib.hid known_any
  have x1 : (x != x) = false := by simp
  have p1 : (p != p) = false := by simp
  have aa : (a != a) = false := by simp
  go_enter Try.func7, Try.ntmps7
  go_wp2_with fail
  refine (A.out _).mono ?_
  rintro e w' ⟨rfl, k1⟩
  go_wp2_with fail
  refine (A'.out _).mono ?_
  rintro e w' ⟨rfl, k2⟩
  go_wp2_with fail
  refine (M.out _).mono ?_
  rintro e w' ⟨rfl, n1, rfl⟩
  go_wp2_with fail
  refine (M'.out _).mono ?_
  rintro e w' ⟨rfl, n2, rfl⟩
  go_wp2_with fail
  refine (Q.out _).mono ?_
  rintro e w' ⟨rfl, n3, rfl⟩
  go_wp2_with fail
  refine (K.out _).mono ?_
  rintro e w' ⟨rfl, k4⟩
  go_wp2_with fail
  go_ret
  exact ⟨rfl, (by repeat (first | with_reducible exact Kept.refl _ | with_reducible apply Kept.drew | with_reducible apply Kept.drewN | with_reducible apply Kept.alloc | (with_reducible refine Kept.setCellX ?_ ?_ _; focus (first | (simp; done) | (simp; omega))) | (with_reducible refine Kept.trans ?_ (by assumption))))⟩

set_option maxHeartbeats 400000 in
theorem ord_B3p_f (a b x p z : Int) (w : World) (a1 : -9223372036854775808 ≤ a) (a2 : a ≤ 9223372036854775807) (b1 : -9223372036854775808 ≤ b) (b2 : b ≤ 9223372036854775807)
    (A : Hid (∀ w, Calls Try.prog 15 #[.int .i64 a, .int .i64 b] w fun e w' => e = .returned (.tuple #[.int .i64 x, .bool false]) ∧ Kept w w'))
    (A' : Hid (∀ w, Calls Try.prog 15 #[.int .i64 b, .int .i64 a] w fun e w' => e = .returned (.tuple #[.int .i64 x, .bool false]) ∧ Kept w w'))
    (M : Hid (∀ w, Calls Try.prog 21 #[.int .i64 a, .int .i64 b] w fun e w' => e = .returned (.tuple #[.int .i64 p, .bool true]) ∧ ∃ n, w' = w.drewN n))
    (M' : Hid (∀ w, Calls Try.prog 21 #[.int .i64 b, .int .i64 a] w fun e w' => e = .returned (.tuple #[.int .i64 p, .bool true]) ∧ ∃ n, w' = w.drewN n))
    (Q : Hid (∀ w, Calls Try.prog 23 #[.int .i64 p, .int .i64 b] w fun e w' => e = .returned (.tuple #[.int .i64 z, .bool true]) ∧ ∃ n, w' = w.drewN n))
    (bz : (b == 0) = false)
    (al : -4611686018427387903 ≤ a) (ah : a ≤ 4611686018427387903)
    (dz : 0 ≤ z - a) (dl : z - a ≤ 10002)
    (B : b < 10000) (B' : 0 < b) (far : z - a ≤ 10000 / b + 2) (q0 : 0 ≤ 10000 / b) (q1 : 10000 / b ≤ 10000) :
    Calls Try.prog 7 #[.int .i64 a, .int .i64 b] w fun e w' => e = .returned (.bool true) ∧ Below w.heap.size w w' := by
  have K := Lib.hid known_any
  have x1 : (x != x) = false := by simp
  have p1 : (p != p) = false := by simp
  have aa : (a != a) = false := by simp
  have mx : max b (-b) = b := by omega
  go_enter Try.func7, Try.ntmps7
  go_wp2_with fail
  refine (A.out _).mono ?_
  rintro e w' ⟨rfl, k1⟩
  go_wp2_with fail
  refine (A'.out _).mono ?_
  rintro e w' ⟨rfl, k2⟩
  go_wp2_with fail
  refine (M.out _).mono ?_
  rintro e w' ⟨rfl, n1, rfl⟩
  go_wp2_with fail
  refine (M'.out _).mono ?_
  rintro e w' ⟨rfl, n2, rfl⟩
  go_wp2_with fail
  refine (Q.out _).mono ?_
  rintro e w' ⟨rfl, n3, rfl⟩
  go_wp2_with fail
  refine (K.out _).mono ?_
  rintro e w' ⟨rfl, k4⟩
  go_wp2_with fail
  go_ret
  exact ⟨rfl, (by repeat (first | with_reducible exact Kept.refl _ | with_reducible apply Kept.drew | with_reducible apply Kept.drewN | with_reducible apply Kept.alloc | (with_reducible refine Kept.setCellX ?_ ?_ _; focus (first | (simp; done) | (simp; omega))) | (with_reducible refine Kept.trans ?_ (by assumption))))⟩

set_option maxHeartbeats 400000 in
theorem ord_B4p_f (a c x p z : Int) (w : World) (a1 : -9223372036854775808 ≤ a) (a2 : a ≤ 9223372036854775807) (b1 : -9223372036854775808 ≤ -c) (b2 : -c ≤ 9223372036854775807)
    (A : Hid (∀ w, Calls Try.prog 15 #[.int .i64 a, .int .i64 (-c)] w fun e w' => e = .returned (.tuple #[.int .i64 x, .bool false]) ∧ Kept w w'))
    (A' : Hid (∀ w, Calls Try.prog 15 #[.int .i64 (-c), .int .i64 a] w fun e w' => e = .returned (.tuple #[.int .i64 x, .bool false]) ∧ Kept w w'))
    (M : Hid (∀ w, Calls Try.prog 21 #[.int .i64 a, .int .i64 (-c)] w fun e w' => e = .returned (.tuple #[.int .i64 p, .bool true]) ∧ ∃ n, w' = w.drewN n))
    (M' : Hid (∀ w, Calls Try.prog 21 #[.int .i64 (-c), .int .i64 a] w fun e w' => e = .returned (.tuple #[.int .i64 p, .bool true]) ∧ ∃ n, w' = w.drewN n))
    (Q : Hid (∀ w, Calls Try.prog 23 #[.int .i64 p, .int .i64 (-c)] w fun e w' => e = .returned (.tuple #[.int .i64 z, .bool true]) ∧ ∃ n, w' = w.drewN n))
    (bz : ((-c : Int) == 0) = false) (bz2 : (c == 0) = false)
    (al : -4611686018427387903 ≤ a) (ah : a ≤ 4611686018427387903)
    (dz : 0 ≤ z - a) (dl : z - a ≤ 10002)
    (B : 0 < c) (B' : c < 10000) (far : z - a ≤ 10000 / c + 2) (q0 : 0 ≤ 10000 / c) (q1 : 10000 / c ≤ 10000) :
    Calls Try.prog 7 #[.int .i64 a, .int .i64 (-c)] w fun e w' => e = .returned (.bool true) ∧ Below w.heap.size w w' := by
  have K := Lib.hid known_any
  have x1 : (x != x) = false := by simp
  have p1 : (p != p) = false := by simp
  have aa : (a != a) = false := by simp
  have mx : max (-c) c = c := by omega
  go_enter Try.func7, Try.ntmps7
  go_wp2_with fail
  refine (A.out _).mono ?_
  rintro e w' ⟨rfl, k1⟩
  go_wp2_with fail
  refine (A'.out _).mono ?_
  rintro e w' ⟨rfl, k2⟩
  go_wp2_with fail
  refine (M.out _).mono ?_
  rintro e w' ⟨rfl, n1, rfl⟩
  go_wp2_with fail
  refine (M'.out _).mono ?_
  rintro e w' ⟨rfl, n2, rfl⟩
  go_wp2_with fail
  refine (Q.out _).mono ?_
  rintro e w' ⟨rfl, n3, rfl⟩
  go_wp2_with fail
  refine (K.out _).mono ?_
  rintro e w' ⟨rfl, k4⟩
  go_wp2_with fail
  go_ret
  exact ⟨rfl, (by repeat (first | with_reducible exact Kept.refl _ | with_reducible apply Kept.drew | with_reducible apply Kept.drewN | with_reducible apply Kept.alloc | (with_reducible refine Kept.setCellX ?_ ?_ _; focus (first | (simp; done) | (simp; omega))) | (with_reducible refine Kept.trans ?_ (by assumption))))⟩

set_option maxHeartbeats 400000 in
theorem ord_nok_m (a b x p z : Int) (w : World) (a1 : -9223372036854775808 ≤ a) (a2 : a ≤ 9223372036854775807) (b1 : -9223372036854775808 ≤ b) (b2 : b ≤ 9223372036854775807)
    (A : Hid (∀ w, Calls Try.prog 15 #[.int .i64 a, .int .i64 b] w fun e w' => e = .returned (.tuple #[.int .i64 x, .bool true]) ∧ Kept w w'))
    (A' : Hid (∀ w, Calls Try.prog 15 #[.int .i64 b, .int .i64 a] w fun e w' => e = .returned (.tuple #[.int .i64 x, .bool true]) ∧ Kept w w'))
    (M : Hid (∀ w, Calls Try.prog 21 #[.int .i64 a, .int .i64 b] w fun e w' => e = .returned (.tuple #[.int .i64 p, .bool false]) ∧ ∃ n, w' = w.drewN n))
    (M' : Hid (∀ w, Calls Try.prog 21 #[.int .i64 b, .int .i64 a] w fun e w' => e = .returned (.tuple #[.int .i64 p, .bool false]) ∧ ∃ n, w' = w.drewN n))
    (lo : a < -9223372036854775807) :
    Calls Try.prog 7 #[.int .i64 a, .int .i64 b] w fun e w' => e = .returned (.bool true) ∧ Below w.heap.size w w' := by
  have K := Lib.hid known_any
  have x1 : (x != x) = false := by simp
  have p1 : (p != p) = false := by simp
  have aa : (a != a) = false := by simp
  go_enter Try.func7, Try.ntmps7
  go_wp2_with fail
  refine (A.out _).mono ?_
  rintro e w' ⟨rfl, k1⟩
  go_wp2_with fail
  refine (A'.out _).mono ?_
  rintro e w' ⟨rfl, k2⟩
  go_wp2_with fail
  refine (M.out _).mono ?_
  rintro e w' ⟨rfl, n1, rfl⟩
  go_wp2_with fail
  refine (M'.out _).mono ?_
  rintro e w' ⟨rfl, n2, rfl⟩
  go_wp2_with fail
  refine (K.out _).mono ?_
  rintro e w' ⟨rfl, k4⟩
  go_wp2_with fail
  go_ret
  exact ⟨rfl, (by repeat (first | with_reducible exact Kept.refl _ | with_reducible apply Kept.drew | with_reducible apply Kept.drewN | with_reducible apply Kept.alloc | (with_reducible refine Kept.setCellX ?_ ?_ _; focus (first | (simp; done) | (simp; omega))) | (with_reducible refine Kept.trans ?_ (by assumption))))⟩

set_option maxHeartbeats 400000 in
theorem ord_b0_m (a b x p z : Int) (w : World) (a1 : -9223372036854775808 ≤ a) (a2 : a ≤ 9223372036854775807) (b1 : -9223372036854775808 ≤ b) (b2 : b ≤ 9223372036854775807)
    (A : Hid (∀ w, Calls Try.prog 15 #[.int .i64 a, .int .i64 b] w fun e w' => e = .returned (.tuple #[.int .i64 x, .bool true]) ∧ Kept w w'))
    (A' : Hid (∀ w, Calls Try.prog 15 #[.int .i64 b, .int .i64 a] w fun e w' => e = .returned (.tuple #[.int .i64 x, .bool true]) ∧ Kept w w'))
    (M : Hid (∀ w, Calls Try.prog 21 #[.int .i64 a, .int .i64 b] w fun e w' => e = .returned (.tuple #[.int .i64 p, .bool true]) ∧ ∃ n, w' = w.drewN n))
    (M' : Hid (∀ w, Calls Try.prog 21 #[.int .i64 b, .int .i64 a] w fun e w' => e = .returned (.tuple #[.int .i64 p, .bool true]) ∧ ∃ n, w' = w.drewN n))
    (lo : a < -9223372036854775807)
    (bz : (b == 0) = true) :
    Calls Try.prog 7 #[.int .i64 a, .int .i64 b] w fun e w' => e = .returned (.bool true) ∧ Below w.heap.size w w' := by
  have K := Lib.hid known_any
  have x1 : (x != x) = false := by simp
  have p1 : (p != p) = false := by simp
  have aa : (a != a) = false := by simp
  go_enter Try.func7, Try.ntmps7
  go_wp2_with fail
  refine (A.out _).mono ?_
  rintro e w' ⟨rfl, k1⟩
  go_wp2_with fail
  refine (A'.out _).mono ?_
  rintro e w' ⟨rfl, k2⟩
  go_wp2_with fail
  refine (M.out _).mono ?_
  rintro e w' ⟨rfl, n1, rfl⟩
  go_wp2_with fail
  refine (M'.out _).mono ?_
  rintro e w' ⟨rfl, n2, rfl⟩
  go_wp2_with fail
  refine (K.out _).mono ?_
  rintro e w' ⟨rfl, k4⟩
  go_wp2_with fail
  go_ret
  exact ⟨rfl, (by repeat (first | with_reducible exact Kept.refl _ | with_reducible apply Kept.drew | with_reducible apply Kept.drewN | with_reducible apply Kept.alloc | (with_reducible refine Kept.setCellX ?_ ?_ _; focus (first | (simp; done) | (simp; omega))) | (with_reducible refine Kept.trans ?_ (by assumption))))⟩

set_option maxHeartbeats 400000 in
theorem ord_lo_m (a b x p z : Int) (w : World) (a1 : -9223372036854775808 ≤ a) (a2 : a ≤ 9223372036854775807) (b1 : -9223372036854775808 ≤ b) (b2 : b ≤ 9223372036854775807)
    (A : Hid (∀ w, Calls Try.prog 15 #[.int .i64 a, .int .i64 b] w fun e w' => e = .returned (.tuple #[.int .i64 x, .bool true]) ∧ Kept w w'))
    (A' : Hid (∀ w, Calls Try.prog 15 #[.int .i64 b, .int .i64 a] w fun e w' => e = .returned (.tuple #[.int .i64 x, .bool true]) ∧ Kept w w'))
    (M : Hid (∀ w, Calls Try.prog 21 #[.int .i64 a, .int .i64 b] w fun e w' => e = .returned (.tuple #[.int .i64 p, .bool true]) ∧ ∃ n, w' = w.drewN n))
    (M' : Hid (∀ w, Calls Try.prog 21 #[.int .i64 b, .int .i64 a] w fun e w' => e = .returned (.tuple #[.int .i64 p, .bool true]) ∧ ∃ n, w' = w.drewN n))
    (lo : a < -9223372036854775807)
    (bz : (b == 0) = false) :
    Calls Try.prog 7 #[.int .i64 a, .int .i64 b] w fun e w' => e = .returned (.bool true) ∧ Below w.heap.size w w' := by
  have K := Lib.hid known_any
  have x1 : (x != x) = false := by simp
  have p1 : (p != p) = false := by simp
  have aa : (a != a) = false := by simp
  go_enter Try.func7, Try.ntmps7
  go_wp2_with fail
  refine (A.out _).mono ?_
  rintro e w' ⟨rfl, k1⟩
  go_wp2_with fail
  refine (A'.out _).mono ?_
  rintro e w' ⟨rfl, k2⟩
  go_wp2_with fail
  refine (M.out _).mono ?_
  rintro e w' ⟨rfl, n1, rfl⟩
  go_wp2_with fail
  refine (M'.out _).mono ?_
  rintro e w' ⟨rfl, n2, rfl⟩
  go_wp2_with fail
  refine (K.out _).mono ?_
  rintro e w' ⟨rfl, k4⟩
  go_wp2_with fail
  go_ret
  exact ⟨rfl, (by repeat (first | with_reducible exact Kept.refl _ | with_reducible apply Kept.drew | with_reducible apply Kept.drewN | with_reducible apply Kept.alloc | (with_reducible refine Kept.setCellX ?_ ?_ _; focus (first | (simp; done) | (simp; omega))) | (with_reducible refine Kept.trans ?_ (by assumption))))⟩

end Go.Proofs.Ytingopdeckgpaaa
