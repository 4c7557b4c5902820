/- math/bits.Div64 divides a number of two digits by one that is greater than its upper digit. -/
import Derived.Test.YtingopdeckgpaaaProg
import Derived.Test.YtingopdeckgpaaaShelf
import Derived.Test.YtingopdeckgpaaaMDiv
import Derived.Test.YtingopdeckgpaaaBase
import Derived.WalkKit
import Derived.ProofKit
import Derived.Outline
import Derived.Lib.Hide
import Derived.Lib.ItoaNum
import Derived.Deep.QuietTactic
import Derived.BigQuiet
import Derived.Deep.DeepCutAuto
import Derived.Deep.CutBlock
namespace Go.Proofs.Ytingopdeckgpaaa
set_option linter.unusedVariables false
set_option linter.unusedSimpArgs false
open Go.RowKit Lv

def LzSome (y : Int) (w : World) (e : Ending) (w' : World) : Prop := ∃ k : Nat, k ≤ 63 ∧ y * 2 ^ k ≤ 18446744073709551615 ∧ 9223372036854775808 ≤ y * 2 ^ k ∧ e = .returned (.int .i64 k) ∧ w = w'
theorem lz_any (y : Int) (w : World) (h1 : 0 < y) (h2 : y ≤ 18446744073709551615) : Calls Try.prog 71 #[.int .u64 y] w (LzSome y w) := by
  obtain ⟨y, rfl⟩ := Int.eq_ofNat_of_zero_le (show 0 ≤ y by omega)
  refine (Try.bits_LeadingZeros64 y w (by omega) (by omega)).mono ?_
  rintro e w' ⟨rfl, rfl⟩
  obtain ⟨hb1, s3, s1⟩ := Lib.bitLenAux_bounds 64 y (by omega) (by omega)
  have hb : Lib.bitLen y ≤ 64 := Lib.bitLen_le y 64 (by omega) (by omega)
  change 1 ≤ Lib.bitLen y at hb1
  change 2 ^ (Lib.bitLen y - 1) ≤ y at s3
  change y < 2 ^ Lib.bitLen y at s1
  have e1 : (2 : Nat) ^ Lib.bitLen y * 2 ^ (64 - Lib.bitLen y) = 18446744073709551616 := by rw [← Nat.pow_add, show Lib.bitLen y + (64 - Lib.bitLen y) = 64 from by omega]
  have e2 : (2 : Nat) ^ (Lib.bitLen y - 1) * 2 ^ (64 - Lib.bitLen y) = 9223372036854775808 := by rw [← Nat.pow_add, show Lib.bitLen y - 1 + (64 - Lib.bitLen y) = 63 from by omega]
  have f1 := (Nat.mul_lt_mul_right (Nat.two_pow_pos (64 - Lib.bitLen y))).2 s1
  have f2 := Nat.mul_le_mul_right (2 ^ (64 - Lib.bitLen y)) s3
  have e3 : ((y * 2 ^ (64 - Lib.bitLen y) : Nat) : Int) = (y : Int) * 2 ^ (64 - Lib.bitLen y) := by simp
  refine ⟨64 - Lib.bitLen y, by omega, by rw [← e3]; omega, by rw [← e3]; omega, ?_, rfl⟩
  simp only [Ending.returned.injEq, Value.int.injEq, true_and]
  rw [Int.toNat_natCast]
  omega

/-- the names of what Div64 computes ahead of its loops -/
structure Prep (hi lo y v a b hs ls u t u1 u0 q : Int) (k : Nat) : Prop where
  v_ : y * 2 ^ k = v
  a_ : v / 4294967296 = a
  b_ : bits .and .u64 v 4294967295 = b
  hs_ : IntKind.u64.wrap (hi * 2 ^ k) = hs
  ls_ : lo / 2 ^ (64 - k) = ls
  u_ : bits .or .u64 hs ls = u
  t_ : IntKind.u64.wrap (lo * 2 ^ k) = t
  u1_ : t / 4294967296 = u1
  u0_ : bits .and .u64 t 4294967295 = u0
  q_ : u / a = q
  d : Digit u u1 a b v
  t0 : 0 ≤ t
  t1 : t ≤ 18446744073709551615
  w0 : 0 ≤ u0
  w1 : u0 < 4294967296
  tt : t = u1 * 4294967296 + u0
  whole : (hi * 18446744073709551616 + lo) * 2 ^ k = u * 18446744073709551616 + t

theorem prep (hi lo y : Int) (k : Nat) (h0 : 0 < hi) (h1 : hi < y) (h3 : 0 ≤ lo) (h4 : lo ≤ 18446744073709551615) (k1 : k ≤ 63) (k2 : y * 2 ^ k ≤ 18446744073709551615) (k3 : 9223372036854775808 ≤ y * 2 ^ k) :
    ∃ v a b hs ls u t u1 u0 q : Int, Prep hi lo y v a b hs ls u t u1 u0 q k := by
  obtain ⟨hi, rfl⟩ := Int.eq_ofNat_of_zero_le (show 0 ≤ hi by omega)
  obtain ⟨lo, rfl⟩ := Int.eq_ofNat_of_zero_le (show 0 ≤ lo by omega)
  obtain ⟨y, rfl⟩ := Int.eq_ofNat_of_zero_le (show 0 ≤ y by omega)
  have g1 : hi * 2 ^ k + 2 ^ k ≤ y * 2 ^ k := by
    have := Nat.mul_le_mul_right (2 ^ k) (show hi + 1 ≤ y by omega)
    rw [Nat.add_mul] at this; omega
  have g2 : lo / 2 ^ (64 - k) < 2 ^ k := shr_lt lo k (by omega) (by omega)
  have g3 := shift_split hi lo k (by omega)
  have p1 : ((2 ^ k : Nat) : Int) = 2 ^ k := by simp
  have p2 : ((2 ^ (64 - k) : Nat) : Int) = 2 ^ (64 - k) := by simp
  rw [← p1] at k2 k3
  have g4 := fun h => or_add hi k (lo / 2 ^ (64 - k)) g2 h
  refine ⟨_, _, _, _, _, _, _, _, _, _, ⟨rfl, rfl, rfl, rfl, rfl, rfl, rfl, rfl, rfl, rfl, ?_, ?_, ?_, ?_, ?_, ?_, ?_⟩⟩
  all_goals simp only [← p1, ← p2]
  all_goals clear p1 p2 k1
  all_goals generalize 2 ^ k = p at *
  all_goals generalize 2 ^ (64 - k) = p' at *
  all_goals have e1 : (y : Int) * (p : Int) = ((y * p : Nat) : Int) := by simp
  all_goals have e2 : (hi : Int) * (p : Int) = ((hi * p : Nat) : Int) := by simp
  all_goals have e3 : (lo : Int) * (p : Int) = ((lo * p : Nat) : Int) := by simp
  all_goals have e4 : (lo : Int) / (p' : Int) = ((lo / p' : Nat) : Int) := by simp
  all_goals have e5 : ((hi : Int) * 18446744073709551616 + lo) * p = (((hi * 18446744073709551616 + lo) * p : Nat) : Int) := by simp
  all_goals rw [e1] at k2 k3
  all_goals have g5 := g4 (by omega)
  all_goals have hs : IntKind.u64.wrap ((hi * p : Nat) : Int) = ((hi * p : Nat) : Int) := wrap_in _ (by omega) (by omega)
  all_goals have ht : IntKind.u64.wrap ((lo * p : Nat) : Int) = ((lo * p % 18446744073709551616 : Nat) : Int) := by rw [wrap_def]; simp
  all_goals have t1 : lo * p % 18446744073709551616 < 18446744073709551616 := Nat.mod_lt _ (by omega)
  all_goals have a1 := and_lo ((y * p : Nat) : Int) (by omega) (by omega)
  all_goals have a2 := and_lo ((lo * p % 18446744073709551616 : Nat) : Int) (by omega) (by omega)
  all_goals clear g4
  all_goals simp only [e1, e2, e3, e4, e5, hs, ht, g5, a1, a2, g3]
  all_goals clear e1 e2 e3 e4 e5 hs ht g5 a1 a2 g3
  all_goals generalize lo * p % 18446744073709551616 = t at *
  all_goals generalize y * p = v at *
  all_goals generalize lo / p' = l at *
  all_goals generalize hi * p = h at *
  · exact ⟨by omega, by omega, by omega, by omega, by omega, by omega, by omega, by omega, by omega⟩
  all_goals omega
theorem Lv.Digit.second {u u1 a b v u0 : Int} (d : Digit u u1 a b v) (w0 : 0 ≤ u0) (w1 : u0 < 4294967296) : Digit ((u * 4294967296 + u1) % v) u0 a b v := by
  have h2 := Int.emod_lt_of_pos (u * 4294967296 + u1) (b := v) (by have := d.uv; have := d.u0; omega)
  have h3 := Int.emod_nonneg (u * 4294967296 + u1) (b := v) (by have := d.uv; have := d.u0; omega)
  exact ⟨h3, h2, w0, w1, d.a0, d.a1, d.b0, d.b1, d.hv⟩
theorem Lv.Digit.ge {u u1 a b v : Int} (d : Digit u u1 a b v) : 0 ≤ (u * 4294967296 + u1) / v := Int.ediv_nonneg (by have := d.u0; have := d.l0; omega) (by have := d.uv; have := d.u0; omega)

theorem Prep.final {hi lo y v a b hs ls u t u1 u0 q : Int} {k : Nat} (P : Prep hi lo y v a b hs ls u t u1 u0 q k) (d : Digit u u1 a b v) (d2 : Digit ((u * 4294967296 + u1) % v) u0 a b v) :
    (hi * 18446744073709551616 + lo) / y = (u * 4294967296 + u1) / v * 4294967296 + ((u * 4294967296 + u1) % v * 4294967296 + u0) / v ∧
    (hi * 18446744073709551616 + lo) % y = ((u * 4294967296 + u1) % v * 4294967296 + u0) % v / 2 ^ k ∧
    0 ≤ ((u * 4294967296 + u1) % v * 4294967296 + u0) % v := by
  have h1 := Int.mul_ediv_add_emod (u * 4294967296 + u1) v
  have h2 := Int.mul_ediv_add_emod ((u * 4294967296 + u1) % v * 4294967296 + u0) v
  have vpos : 0 < v := by have := d.uv; have := d.u0; omega
  have h3 := Int.emod_lt_of_pos ((u * 4294967296 + u1) % v * 4294967296 + u0) (b := v) vpos
  have h4 := Int.emod_nonneg ((u * 4294967296 + u1) % v * 4294967296 + u0) (b := v) (by omega)
  generalize (u * 4294967296 + u1) / v = q1 at *
  generalize (u * 4294967296 + u1) % v = r1 at *
  generalize (r1 * 4294967296 + u0) / v = q2 at *
  generalize (r1 * 4294967296 + u0) % v = r2 at *
  have hw := P.whole
  have htt := P.tt
  have hv := P.v_
  have pp : (0 : Int) < 2 ^ k := Int.pow_pos (by omega)
  generalize (2 : Int) ^ k = p at *
  generalize hi * 18446744073709551616 + lo = n at *
  have e1 : n * p = (q1 * 4294967296 + q2) * v + r2 := by
    rw [hw, htt]; grind
  have ypos : 0 < y := by
    by_cases c : 0 < y
    · exact c
    · have := Int.mul_le_mul_of_nonneg_right (show y ≤ 0 by omega) (show 0 ≤ p by omega)
      omega
  subst hv
  have e2 : n * p / (y * p) = n / y := Int.mul_ediv_mul_of_pos_left n y pp
  have e3 : n * p / (y * p) = q1 * 4294967296 + q2 := by
    rw [e1, Int.add_comm, Int.add_mul_ediv_right _ _ (by omega), Int.ediv_eq_zero_of_lt h4 h3]; omega
  have e4 : n * p % (y * p) = n % y * p := by rw [Int.mul_comm n, Int.mul_comm y, Int.mul_emod_mul_of_pos n y pp, Int.mul_comm]
  have e5 : n * p % (y * p) = r2 := by
    rw [e1, Int.add_comm, Int.add_mul_emod_self_right, Int.emod_eq_of_lt h4 h3]
  refine ⟨by omega, ?_, h4⟩
  rw [← e5, e4, Int.mul_ediv_cancel _ (by omega)]


set_option maxHeartbeats 1000000 in
theorem div_big (hi lo y : Int) (w : World) (h0 : 0 < hi) (h1 : hi < y) (h2 : y ≤ 18446744073709551615) (h3 : 0 ≤ lo) (h4 : lo ≤ 18446744073709551615) :
    Calls Try.prog 70 #[.int .u64 hi, .int .u64 lo, .int .u64 y] w fun e w' => e = .returned (.tuple #[.int .u64 ((hi * 18446744073709551616 + lo) / y), .int .u64 ((hi * 18446744073709551616 + lo) % y)]) ∧ w = w' := by
  go_enter Try.func70, Try.ntmps70
  go_wp2_with fail
  refine (lz_any _ _ (by omega) (by omega)).mono ?_
  rintro e w' ⟨k, hk1, hk2, hk3, rfl, rfl⟩
  obtain ⟨v, a, b, hs, ls, u, t, u1, u0, q, P⟩ := prep hi lo y k h0 h1 h3 h4 hk1 hk2 hk3
  have v_ := P.v_; have a_ := P.a_; have b_ := P.b_; have hs_ := P.hs_; have ls_ := P.ls_; have u_ := P.u_; have t_ := P.t_; have u1_ := P.u1_; have u0_ := P.u0_; have q_ := P.q_
  have d := P.d
  have dq := d.qa
  have g0 := d.start
  rw [q_] at dq g0
  obtain ⟨dq1, dq2, dq3, dq4, dq5, dq6⟩ := dq
  have du0 := d.u0; have duv := d.uv; have dl0 := d.l0; have dl1 := d.l1; have da0 := d.a0; have da1 := d.a1; have db0 := d.b0; have db1 := d.b1
  have dv1 : v ≤ 18446744073709551615 := by rw [← v_]; omega
  have dv0 : 9223372036854775808 ≤ v := by rw [← v_]; omega
  have t0 := P.t0; have t1 := P.t1; have w0 := P.w0; have w1 := P.w1
  have hwhole := Lib.hid P.whole
  have htt := Lib.hid P.tt
  have hv_ := Lib.hid v_
  go_upto_block 0 with fail
  clear v_ a_ b_ hs_ ls_ u_ t_ u1_ u0_ q_
  go_cut [15] (fun x wx => x = .int .u64 ((u * 4294967296 + u1) / v) ∧ w = wx)
  case first =>
    go_wp2_with fail
    go_loop [15, 16] (fun x z => ∃ Q R : Int, Guess u u1 a v Q R ∧ R < 4294967296 ∧ x = .int .u64 Q ∧ z = .int .u64 R) (fun x _ => (intOf x).toNat)
    case atStart => exact ⟨u / a, u - u / a * a, d.start, by have := d.qa; omega, rfl, by rw [P.q_]⟩
    case round =>
      obtain ⟨Q, R, g, hR, rfl, rfl⟩ := hrel
      have gb := g.bounds d
      obtain ⟨gb1, gb2⟩ := gb
      have gs := g
      obtain ⟨gs1, gs2, gs3, gs4, gs5⟩ := gs
      clear gs4 g0 P
      by_cases c : 4294967296 ≤ Q ∨ 4294967296 * R + u1 < Q * b
      · have gl := g.less d c
        obtain ⟨gl1, gl2⟩ := gl
        have Hgl2 := Lib.hid gl2
        clear gl2 g
        by_cases c1 : 4294967296 ≤ Q
        · by_cases c2 : 4294967296 ≤ R + a
          · go_wp2_with fail
            go_meet
            exact ⟨by rw [Hgl2.out.past d (by omega) c2], rfl⟩
          · go_wp2_with fail
            go_round
            case rel => exact ⟨Q - 1, R + a, Hgl2.out, by omega, rfl, rfl⟩
            case measure => simp [intOf]; omega
        · by_cases c2 : 4294967296 ≤ R + a
          · go_wp2_with fail
            go_meet
            exact ⟨by rw [Hgl2.out.past d (by omega) c2], rfl⟩
          · go_wp2_with fail
            go_round
            case rel => exact ⟨Q - 1, R + a, Hgl2.out, by omega, rfl, rfl⟩
            case measure => simp [intOf]; omega
      · have Hg := Lib.hid g
        clear g
        go_wp2_with fail
        go_meet
        exact ⟨by rw [Hg.out.done d (by omega)], rfl⟩
  case rest =>
    obtain ⟨rfl, rfl⟩ := hcut
    have d2 := d.second P.w0 P.w1
    have hfin := P.final d d2
    have hr := Lib.hid (d.rest dv1)
    have hr2 := Lib.hid (d2.rest dv1)
    have dlt := d.lt
    have dge := d.ge
    have dlt2 := d2.lt
    have dge2 := d2.ge
    clear P g0 d
    generalize (u * 4294967296 + u1) / v = q1 at *
    generalize (u * 4294967296 + u1) % v = r1 at *
    have d2q := d2.qa
    have d2s := d2.start
    obtain ⟨e1, e2, e3, e4, e5, e6⟩ := d2q
    have hr' := hr.out
    have z0 := d2.u0
    have z1 := d2.uv
    go_upto_block 2 with fail
    clear hr'
    go_cut [18] (fun x wx => x = .int .u64 ((r1 * 4294967296 + u0) / v) ∧ w = wx)
    case first =>
      go_wp2_with fail
      go_loop [18, 16] (fun x z => ∃ Q R : Int, Guess r1 u0 a v Q R ∧ R < 4294967296 ∧ x = .int .u64 Q ∧ z = .int .u64 R) (fun x _ => (intOf x).toNat)
      case atStart => exact ⟨r1 / a, r1 - r1 / a * a, d2.start, by have := d2.qa; omega, rfl, rfl⟩
      case round =>
        obtain ⟨Q, R, g, hR, rfl, rfl⟩ := hrel
        have gb := g.bounds d2
        obtain ⟨gb1, gb2⟩ := gb
        have gs := g
        obtain ⟨gs1, gs2, gs3, gs4, gs5⟩ := gs
        clear gs4 d2s
        by_cases c : 4294967296 ≤ Q ∨ 4294967296 * R + u0 < Q * b
        · have gl := g.less d2 c
          obtain ⟨gl1, gl2⟩ := gl
          have Hgl2 := Lib.hid gl2
          clear gl2 g
          by_cases c1 : 4294967296 ≤ Q
          · by_cases c2 : 4294967296 ≤ R + a
            · go_wp2_with fail
              go_meet
              exact ⟨by rw [Hgl2.out.past d2 (by omega) c2], rfl⟩
            · go_wp2_with fail
              go_round
              case rel => exact ⟨Q - 1, R + a, Hgl2.out, by omega, rfl, rfl⟩
              case measure => simp [intOf]; omega
          · by_cases c2 : 4294967296 ≤ R + a
            · go_wp2_with fail
              go_meet
              exact ⟨by rw [Hgl2.out.past d2 (by omega) c2], rfl⟩
            · go_wp2_with fail
              go_round
              case rel => exact ⟨Q - 1, R + a, Hgl2.out, by omega, rfl, rfl⟩
              case measure => simp [intOf]; omega
        · have Hg := Lib.hid g
          clear g
          go_wp2_with fail
          go_meet
          exact ⟨by rw [Hg.out.done d2 (by omega)], rfl⟩
    case rest =>
      obtain ⟨rfl, rfl⟩ := hcut
      generalize (r1 * 4294967296 + u0) / v = q2 at *
      generalize (r1 * 4294967296 + u0) % v = r2 at *
      have hr2' := hr2.out
      obtain ⟨hf1, hf2, hf3⟩ := hfin
      have Hf1 := Lib.hid hf1
      have Hf2 := Lib.hid hf2
      clear hf1 hf2
      go_wp2_with fail
      go_ret2
      exact ⟨ret_ii Hf1.out.symm Hf2.out.symm, rfl⟩
end Go.Proofs.Ytingopdeckgpaaa
