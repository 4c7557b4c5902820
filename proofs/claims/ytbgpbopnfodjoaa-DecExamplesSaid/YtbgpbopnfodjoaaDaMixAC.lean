/- Small texts together: WParse4, WText2, Shelf, MDiv, WDiv, WDec1, MRef, WRef0, WRef1, MDivide, WRef2, WSum1, WSum2, MSum. -/
import Derived.Test.YtbgpbopnfodjoaaDaWParse3
import Derived.Test.YtbgpbopnfodjoaaDaMixAA
import Derived.Shelf.Small.Bits
import Derived.Shelf.Strconv.Itoa0
import Derived.Shelf.Bits.Mul64
import Derived.Test.YtbgpbopnfodjoaaProg
import Derived.WalkKit
import Derived.ProofKit
import Derived.Outline
import Derived.Lib.Hide
import Derived.Lib.ItoaNum
import Derived.Deep.QuietTactic
import Derived.BigQuiet
import Derived.Deep.DeepCutAuto
import Derived.Deep.CutBlock
import Derived.Laws.Externs
set_option linter.unusedVariables false
set_option linter.unusedSimpArgs false
namespace Go.Proofs.Ytbgpbopnfodjoaa
open Go.RowKit Lv
set_option maxHeartbeats 800000 in
set_option maxRecDepth 100000 in
theorem parse_z_neg (m wh : List UInt8) (n : Nat) (w : World) (hs : m.length ≤ 2000) (hn : nd m = n) (t1 : m.take n = wh) (t2 : m.drop n = []) (n0 : Hid (n = 0)) :
    Calls Try.prog 17 #[.string ⟨(45 :: m).toArray⟩] w fun e w' => e = .returned (.tuple #[.int .i64 (Lv.read true m).1, .int .i64 (Lv.read true m).2]) ∧ Kept w w' := by
  have X := ba_extract; have Z := ba_size; have Y := ba_append; have D := fun w => digits_any ⟨m.toArray⟩ w (by rw [ba_size]; omega); rw [show nd (ByteArray.mk m.toArray).data.toList = n from hn] at D; have HD := Lib.hid D; have HN := Lib.hid hn; clear D hn; have lp : (0 : Int) < ((45 :: m).length : Int) := by simp
  have b0 : (((ByteArray.mk (45 :: m).toArray)[0]'(by rw [ba_size]; simp)).toNat : Int) = 45 := rfl; have n1 : n ≤ m.length := by have := nd_le m; rw [HN.out] at this; exact this
  have nz : ((n : Int) == 0) = true := by rw [n0.out]; rfl
  have E : Hid (Lv.read true m = (0, 4)) := by
    show _ = _; unfold Lv.read; rw [HN.out]; rw [if_pos n0.out]
  go_enter Try.func17, Try.ntmps17; go_wp2_with fail; refine (HD.out _).mono ?_; rintro e w' ⟨rfl, rfl⟩; go_wp2_with fail
  go_region
  go_wp2_with fail; go_ret2; exact ⟨ret_ii (by rw [E.out]) (by rw [E.out]), kpt⟩
theorem parse_empty (w : World) : Calls Try.prog 17 #[.string ⟨([] : List UInt8).toArray⟩] w fun e w' => e = .returned (.tuple #[.int .i64 (Lv.read false []).1, .int .i64 (Lv.read false []).2]) ∧ Kept w w' := by
  have X := ba_extract; have Z := ba_size; have Y := ba_append; have D := fun w => digits_any ⟨([] : List UInt8).toArray⟩ w (by rw [ba_size]; simp); rw [show nd (ByteArray.mk ([] : List UInt8).toArray).data.toList = 0 from rfl] at D; have HD := Lib.hid D; clear D; have E : Hid (Lv.read false [] = (0, 4)) := rfl; go_enter Try.func17, Try.ntmps17; go_wp2_with fail; refine (HD.out _).mono ?_; rintro e w' ⟨rfl, rfl⟩; go_wp2_with fail
  go_region
  go_wp2_with fail; go_ret2; exact ⟨ret_ii (by rw [E.out]) (by rw [E.out]), kpt⟩
theorem places_digits {r : List UInt8} (h : nd r = r.length) : ∀ c ∈ places r, isD c = true := by
  intro c hc; have := List.mem_of_mem_take hc; rcases List.mem_append.1 this with h1 | h1
  · exact nd_all h c h1
  · simp at h1; subst h1; rfl
theorem take_digits : ∀ (m : List UInt8), ∀ c ∈ m.take (nd m), isD c = true
  | [], c, hc => by simp at hc
  | a :: m, c, hc => by
    by_cases d : isD a = true
    · have e : nd (a :: m) = nd m + 1 := if_pos d
      rw [e, List.take_succ_cons] at hc; rcases List.mem_cons.1 hc with rfl | hc
      · exact d
      · exact take_digits m c hc
    · have e : nd (a :: m) = 0 := if_neg d
      rw [e] at hc; simp at hc
theorem read_whole {b : Bool} {m : List UInt8} (n0 : 0 < nd m) (h : m.drop (nd m) = []) : Lv.read b m = if (val (m ++ [48, 48, 48, 48]) : Int) ≤ 9223372036854775807 then (sg b (val (m ++ [48, 48, 48, 48]) : Int), 0) else (0, 3) := by
  unfold Lv.read; have e : m.take (nd m) = m := List.take_of_length_le (List.drop_eq_nil_iff.1 h); rw [if_neg (by omega), h, e]; show (if (val (m ++ [48, 48, 48, 48]) : Int) + 0 ≤ _ then (sg b ((val (m ++ [48, 48, 48, 48]) : Int) + 0), 0) else _) = _; rw [Int.add_zero]
theorem read_places {b : Bool} {m r : List UInt8} (n0 : 0 < nd m) (h : m.drop (nd m) = 46 :: r) (hr : 0 < r.length) (hd : nd r = r.length) :
    (53 ≤ (fifth r).toNat → Lv.read b m = if (val (m.take (nd m) ++ places r) : Int) + 1 ≤ 9223372036854775807 then (sg b ((val (m.take (nd m) ++ places r) : Int) + 1), 0) else (0, 3)) ∧
    (¬ 53 ≤ (fifth r).toNat → Lv.read b m = if (val (m.take (nd m) ++ places r) : Int) ≤ 9223372036854775807 then (sg b (val (m.take (nd m) ++ places r) : Int), 0) else (0, 3)) := by
  unfold Lv.read; rw [if_neg (by omega), h, frac_some hr hd]; refine ⟨fun h5 => ?_, fun h5 => ?_⟩
  · simp only [if_pos h5]
  · simp only [if_neg h5, Int.add_zero]
theorem fifth_byte (r : List UInt8) (h : 4 < (ByteArray.mk (pad r).toArray).size) : (ByteArray.mk (pad r).toArray)[4] = fifth r := by
  show (pad r)[4]'h = (pad r).getD 4 48; rw [List.getD_eq_getElem?_getD, List.getElem?_eq_getElem h]; rfl
theorem pad_length (r : List UInt8) : (pad r).length = r.length + 5 := by unfold pad; simp
theorem places_length (r : List UInt8) : (places r).length = 4 := by unfold places; rw [List.length_take, pad_length]; omega
theorem parse_neg (m : List UInt8) (w : World) (hs : m.length ≤ 2000) : Calls Try.prog 17 #[.string ⟨(45 :: m).toArray⟩] w fun e w' => e = .returned (.tuple #[.int .i64 (Lv.read true m).1, .int .i64 (Lv.read true m).2]) ∧ Kept w w' := by
  have ln : nd m ≤ m.length := nd_le m; rcases ht : m.drop (nd m) with _ | ⟨c, _ | ⟨c2, r2⟩⟩
  · by_cases n0 : nd m = 0
    · exact parse_z_neg m _ _ w hs rfl rfl ht (Lib.hid n0)
    · have lm : m.length = nd m := by have := List.drop_eq_nil_iff.1 ht; omega
      exact parse_w_neg m _ w hs rfl (by rw [← lm, List.take_length]) ht (by omega) _ rfl (by simp; omega) lm (by intro c hc; rcases List.mem_append.1 hc with h | h; exact nd_all lm.symm c h; simp at h; subst h; rfl) (Lib.hid (read_whole (by omega) ht))
  · by_cases n0 : nd m = 0
    · exact parse_a0_neg m _ [] c _ w hs rfl rfl ht (Lib.hid n0)
    · exact parse_a1_neg m _ [] c _ w hs rfl rfl ht (by omega)
  · have hr : 0 < (c2 :: r2).length := by simp
    generalize c2 :: r2 = r at *
    by_cases n0 : nd m = 0
    · by_cases hc : c = 46
      · by_cases hd : nd r = r.length
        · exact parse_d_neg m _ r c _ w hs rfl rfl ht (Lib.hid n0) hr hc hd
        · exact parse_c0_neg m _ r c _ w hs rfl rfl ht (Lib.hid n0) hr hc hd
      · exact parse_b0_neg m _ r c _ w hs rfl rfl ht (Lib.hid n0) hr hc
    · by_cases hc : c = 46
      · by_cases hd : nd r = r.length
        · subst hc
          have rp := read_places (b := true) (by omega) ht hr hd; have dg : ∀ c ∈ m.take (nd m) ++ places r, isD c = true := fun c hc => by rcases List.mem_append.1 hc with h | h; exact take_digits m c h; exact places_digits hd c h
          have ll : (m.take (nd m) ++ places r).length = nd m + 4 := by rw [List.length_append, places_length, List.length_take]; omega
          have lw : (m.take (nd m)).length = nd m := by rw [List.length_take]; omega
          by_cases h5 : 53 ≤ (fifth r).toNat
          · exact parse_v1_neg m _ r 46 _ w hs rfl rfl ht (by omega) hr rfl hd (pad r) (places r) _ rfl (pad_length r) rfl rfl ll lw (places_length r) (fifth r).toNat (fun h => by rw [fifth_byte]) (by omega) dg (Lib.hid (rp.1 h5))
          · exact parse_v0_neg m _ r 46 _ w hs rfl rfl ht (by omega) hr rfl hd (pad r) (places r) _ rfl (pad_length r) rfl rfl ll lw (places_length r) (fifth r).toNat (fun h => by rw [fifth_byte]) (by omega) dg (Lib.hid (rp.2 h5))
        · exact parse_c1_neg m _ r c _ w hs rfl rfl ht (by omega) hr hc hd
      · exact parse_b1_neg m _ r c _ w hs rfl rfl ht (by omega) hr hc
theorem parse_pos (m : List UInt8) (w : World) (hs : m.length ≤ 2000) (hb : ∀ h, ((((ByteArray.mk m.toArray)[0]'h).toNat : Int) == 45) = false) (hl0 : 0 < m.length) : Calls Try.prog 17 #[.string ⟨m.toArray⟩] w fun e w' => e = .returned (.tuple #[.int .i64 (Lv.read false m).1, .int .i64 (Lv.read false m).2]) ∧ Kept w w' := by
  have ln : nd m ≤ m.length := nd_le m; rcases ht : m.drop (nd m) with _ | ⟨c, _ | ⟨c2, r2⟩⟩
  · by_cases n0 : nd m = 0
    · exfalso; rw [n0, List.drop_zero] at ht; subst ht; simp at hl0
    · have lm : m.length = nd m := by have := List.drop_eq_nil_iff.1 ht; omega
      exact parse_w_pos m _ w hs rfl (by rw [← lm, List.take_length]) ht hb (by omega) (by omega) _ rfl (by simp; omega) lm (by intro c hc; rcases List.mem_append.1 hc with h | h; exact nd_all lm.symm c h; simp at h; subst h; rfl) (Lib.hid (read_whole (by omega) ht))
  · by_cases n0 : nd m = 0
    · exact parse_a0_pos m _ [] c _ w hs rfl rfl ht hb (by omega) (Lib.hid n0)
    · exact parse_a1_pos m _ [] c _ w hs rfl rfl ht hb (by omega) (by omega)
  · have hr : 0 < (c2 :: r2).length := by simp
    generalize c2 :: r2 = r at *
    by_cases n0 : nd m = 0
    · by_cases hc : c = 46
      · by_cases hd : nd r = r.length
        · exact parse_d_pos m _ r c _ w hs rfl rfl ht hb (by omega) (Lib.hid n0) hr hc hd
        · exact parse_c0_pos m _ r c _ w hs rfl rfl ht hb (by omega) (Lib.hid n0) hr hc hd
      · exact parse_b0_pos m _ r c _ w hs rfl rfl ht hb (by omega) (Lib.hid n0) hr hc
    · by_cases hc : c = 46
      · by_cases hd : nd r = r.length
        · subst hc
          have rp := read_places (b := false) (by omega) ht hr hd; have dg : ∀ c ∈ m.take (nd m) ++ places r, isD c = true := fun c hc => by rcases List.mem_append.1 hc with h | h; exact take_digits m c h; exact places_digits hd c h
          have ll : (m.take (nd m) ++ places r).length = nd m + 4 := by rw [List.length_append, places_length, List.length_take]; omega
          have lw : (m.take (nd m)).length = nd m := by rw [List.length_take]; omega
          by_cases h5 : 53 ≤ (fifth r).toNat
          · exact parse_v1_pos m _ r 46 _ w hs rfl rfl ht hb (by omega) (by omega) hr rfl hd (pad r) (places r) _ rfl (pad_length r) rfl rfl ll lw (places_length r) (fifth r).toNat (fun h => by rw [fifth_byte]) (by omega) dg (Lib.hid (rp.1 h5))
          · exact parse_v0_pos m _ r 46 _ w hs rfl rfl ht hb (by omega) (by omega) hr rfl hd (pad r) (places r) _ rfl (pad_length r) rfl rfl ll lw (places_length r) (fifth r).toNat (fun h => by rw [fifth_byte]) (by omega) dg (Lib.hid (rp.2 h5))
        · exact parse_c1_pos m _ r c _ w hs rfl rfl ht hb (by omega) (by omega) hr hc hd
      · exact parse_b1_pos m _ r c _ w hs rfl rfl ht hb (by omega) (by omega) hr hc
theorem parse_any (l : List UInt8) (w : World) (hs : l.length ≤ 2000) : Calls Try.prog 17 #[.string ⟨l.toArray⟩] w fun e w' => e = .returned (.tuple #[.int .i64 (dParse l).1, .int .i64 (dParse l).2]) ∧ Kept w w' := by
  unfold dParse; rcases l with _ | ⟨c, m⟩
  · exact parse_empty w
  · by_cases hc : c = 45
    · subst hc
      rw [if_pos (by rfl)]; exact parse_neg m w (by simp at hs; omega)
    · rw [if_neg (by simpa using hc)]
      refine parse_pos (c :: m) w hs (fun h => ?_) (by simp); rw [beq_eq_false_iff_ne]; intro e; apply hc; apply UInt8.toNat_inj.1; exact Int.ofNat_inj.1 e
end Go.Proofs.Ytbgpbopnfodjoaa

namespace Go.Proofs.Ytbgpbopnfodjoaa
open Go.RowKit Lv
theorem abs_natAbs (a : Int) : Lv.abs a = (a.natAbs : Int) := by unfold Lv.abs; split <;> omega
theorem ret_str {l m : List UInt8} (h : l = m) : Ending.returned (.string ⟨l.toArray⟩) = .returned (.string ⟨m.toArray⟩) := by rw [h]
set_option maxHeartbeats 800000 in
theorem format_any (a : Int) (w : World) (ha : i64 a) :
    Calls Try.prog 18 #[.int .i64 a] w fun e w' => e = .returned (.string ⟨(fmt a).toArray⟩) ∧ Kept w w' := by
  have Z := fun w => size_any a w ha; rw [abs_natAbs] at Z; have hn : a.natAbs ≤ 9223372036854775808 := by have := ha.1; have := ha.2; omega
  have F := Lib.hid (show fmt a = (if a < 0 then [45] else []) ++ digs (a.natAbs / 10000) ++ (if a.natAbs % 10000 = 0 then [] else 46 :: strip ((digs (10000 + a.natAbs % 10000)).drop 1)) from rfl); have HZ := Lib.hid Z; generalize fmt a = out at *; clear Z ha; have D1 := fun w => decimal_any (a.natAbs / 10000) w (by omega); have HD := Lib.hid D1; have L1 : (digs (a.natAbs / 10000)).length ≤ 20 := digs_len 20 (by omega) (by omega) (by omega); clear D1; generalize a.natAbs = n at *
  by_cases ca : a < 0
  · by_cases cp : n % 10000 = 0
    · have c1 : ((n : Int) % 10000 == 0) = true := by simp; omega
      have E : Hid ([45] ++ digs (n / 10000) = out) := by rw [F.out, if_pos ca, if_pos cp, List.append_nil]; rfl
      go_enter Try.func18, Try.ntmps18; go_wp2_with fail; refine (HZ.out _).mono ?_; rintro e w' ⟨rfl, rfl⟩; go_wp2_with (refine append_byte rfl (.tmp 11) (.tmp 12) rfl w.heap.size _ [] rfl ((OwnB.nil w w.heap.size).alloc _) w.heap.size 1 45 45 rfl rfl (by simp [go_sem]) (by simp) (by simp) ?_; intro v0 w0 o0 g0); have k0 : Kept w w0 := ((OwnB.nil w w.heap.size).alloc _).grown (Nat.le_refl _) ((Kept.refl w).alloc _) g0; rw [List.nil_append] at o0; refine (HD.out _).mono ?_; rintro e w1 ⟨rfl, k1'⟩; have k1 := Kept.trans k0 k1'; have o1 := o0.kept k1'; clear o0 g0 k0 k1'; go_wp2_with (refine append_string rfl (.tmp 14) (.tmp 17) rfl w.heap.size v0 [45] (digs (n / 10000)) rfl o1 rfl (by simp; omega) k1.size ?_; intro v2 w2 o2 g2; have hcv := conv_own o2); go_ret; exact ⟨ret_str E.out, o1.grown (Nat.le_refl _) k1 g2⟩
    · have c1 : ((n : Int) % 10000 == 0) = false := by simp; omega
      have D2 := fun w => decimal_any (10000 + n % 10000) w (by omega); rw [digs_four (by omega)] at D2; have HD2 := Lib.hid D2; clear D2; have FS := Lib.hid (four_some (p := n % 10000) (by omega) cp); have FF := Lib.hid (show (digs (10000 + n % 10000)).drop 1 = four (n % 10000) by rw [digs_four (by omega)]; rfl); obtain ⟨f, hf⟩ : ∃ f, f = four (n % 10000) := ⟨_, rfl⟩; have f4 : f.length = 4 := by rw [hf]; rfl
      rw [← hf] at FS FF HD2; have F4 := Lib.hid f4; clear hf f4; go_enter Try.func18, Try.ntmps18; go_wp2_with fail; refine (HZ.out _).mono ?_; rintro e w' ⟨rfl, rfl⟩; go_wp2_with (refine append_byte rfl (.tmp 11) (.tmp 12) rfl w.heap.size _ [] rfl ((OwnB.nil w w.heap.size).alloc _) w.heap.size 1 45 45 rfl rfl (by simp [go_sem]) (by simp) (by simp) ?_; intro v0 w0 o0 g0); have k0 : Kept w w0 := ((OwnB.nil w w.heap.size).alloc _).grown (Nat.le_refl _) ((Kept.refl w).alloc _) g0; rw [List.nil_append] at o0; refine (HD.out _).mono ?_; rintro e w1 ⟨rfl, k1'⟩; have k1 := Kept.trans k0 k1'; have o1 := o0.kept k1'; clear o0 g0 k0 k1'; go_wp2_with (refine append_string rfl (.tmp 14) (.tmp 17) rfl w.heap.size v0 [45] (digs (n / 10000)) rfl o1 rfl (by simp; omega) k1.size ?_; intro v2 w2 o2 g2); have k2 := o1.grown (Nat.le_refl _) k1 g2; clear o1 g2; have hpl : (10000 : Int) + (n : Int) % 10000 = ((10000 + n % 10000 : Nat) : Int) := by omega
      rw [hpl]; refine (HD2.out _).mono ?_; clear hpl; rintro e w3 ⟨rfl, k3⟩; go_wp2_with fail
      go_loop [6] (fun x => ∃ s : ByteArray, x = .string s ∧ strip s.data.toList = strip f ∧ (∃ y ∈ s.data.toList, y ≠ 48) ∧ s.size ≤ 4) (fun x => match x with | .string s => s.size | _ => 0)
      case atStart => exact ⟨_, rfl, by rw [tail_bytes], by rw [tail_bytes]; exact FS.out, by rw [← size_toList, tail_bytes, F4.out]; omega⟩
      case round =>
        obtain ⟨s, rfl, hs1, hs2, hs3⟩ := hrel
        have hpos : 0 < s.data.toList.length := by
          obtain ⟨y, hy, _⟩ := hs2; exact List.length_pos_of_mem hy
        obtain ⟨m, c, hmc⟩ := last_apart hpos; have hp0 : 0 < s.size := by rw [size_apart hmc]; omega
        have hb := last_byte hmc (Nat.sub_lt hp0 (by omega)); have hi0 : (0 : Int) ≤ (s.size : Int) - 1 := by omega
        have H1 := Lib.hid hs1; have H2 := Lib.hid hs2; have HM := Lib.hid hmc; have HS := Lib.hid (size_apart hmc); clear hs1 hs2 hmc hpos
        by_cases cc : c = 48
        · have hb' : ((s[s.size - 1].toNat : Int) == 48) = true := by rw [hb, cc]; rfl
          clear hb; go_wp2_with fail
          go_round
          case rel =>
            refine ⟨_, rfl, ?_, ?_, ?_⟩
            · rw [but_last HM.out, ← H1.out, HM.out, cc, strip_zero]
            · rw [but_last HM.out]
              obtain ⟨y, hy, hy2⟩ := H2.out; rw [HM.out] at hy
              simp at hy
              rcases hy with hy | hy
              · exact ⟨y, hy, hy2⟩
              · subst hy; exact absurd cc hy2
            · rw [← size_toList, but_last HM.out]; have := HS.out; omega
          case measure => simp; omega
        · have hb' : ((s[s.size - 1].toNat : Int) == 48) = false := by
            rw [hb]
            simp only [beq_eq_false_iff_ne]
            intro h; apply cc; apply UInt8.toNat_inj.1; show c.toNat = 48; omega
          clear hb
          have E : Hid ([45] ++ digs (n / 10000) ++ [46] ++ s.data.toList = out) := by
            have e := H1.out; rw [HM.out, strip_other _ cc] at e; rw [HM.out, e, F.out, if_pos ca, if_neg cp, FF.out]
            simp
            exact trivial
          go_wp2_with (first | (refine append_byte rfl (.tmp 40) (.tmp 41) rfl w.heap.size v2 ([45] ++ digs (n / 10000)) rfl ((o2.kept k3).alloc _) w3.heap.size 1 46 46 rfl rfl (by simp [go_sem]) (by simp; omega) (by simp; have := k2.size; have := k3.size; omega) ?_; intro v4 w4 o4 g4; have k4 : Kept w w4 := ((o2.kept k3).alloc _).grown (Nat.le_refl _) ((Kept.trans k2 k3).alloc _) g4) | (refine append_str rfl (.tmp 42) (.tmp 43) rfl w.heap.size v4 _ s rfl o4 rfl (by simp; omega) k4.size ?_; intro v5 w5 o5 g5; have hcv := conv_own o5)); go_ret; exact ⟨ret_str (by rw [← E.out]; simp), o4.grown (Nat.le_refl _) k4 g5⟩
  · by_cases cp : n % 10000 = 0
    · have c1 : ((n : Int) % 10000 == 0) = true := by simp; omega
      have E : Hid ([] ++ digs (n / 10000) = out) := by rw [F.out, if_neg (by omega), if_pos cp, List.append_nil]; rfl
      go_enter Try.func18, Try.ntmps18; go_wp2_with fail; refine (HZ.out _).mono ?_; rintro e w' ⟨rfl, rfl⟩; go_wp2_with fail; refine (HD.out _).mono ?_; rintro e w1 ⟨rfl, k1⟩; have o1 := (OwnB.nil w w.heap.size).kept k1; go_wp2_with (refine append_string rfl (.tmp 14) (.tmp 17) rfl w.heap.size _ [] (digs (n / 10000)) rfl o1 rfl (by simp; omega) k1.size ?_; intro v2 w2 o2 g2; have hcv := conv_own o2); go_ret; exact ⟨ret_str E.out, o1.grown (Nat.le_refl _) k1 g2⟩
    · have c1 : ((n : Int) % 10000 == 0) = false := by simp; omega
      have D2 := fun w => decimal_any (10000 + n % 10000) w (by omega); rw [digs_four (by omega)] at D2; have HD2 := Lib.hid D2; clear D2; have FS := Lib.hid (four_some (p := n % 10000) (by omega) cp); have FF := Lib.hid (show (digs (10000 + n % 10000)).drop 1 = four (n % 10000) by rw [digs_four (by omega)]; rfl); obtain ⟨f, hf⟩ : ∃ f, f = four (n % 10000) := ⟨_, rfl⟩; have f4 : f.length = 4 := by rw [hf]; rfl
      rw [← hf] at FS FF HD2; have F4 := Lib.hid f4; clear hf f4; go_enter Try.func18, Try.ntmps18; go_wp2_with fail; refine (HZ.out _).mono ?_; rintro e w' ⟨rfl, rfl⟩; go_wp2_with fail; refine (HD.out _).mono ?_; rintro e w1 ⟨rfl, k1⟩; have o1 := (OwnB.nil w w.heap.size).kept k1; go_wp2_with (refine append_string rfl (.tmp 14) (.tmp 17) rfl w.heap.size _ [] (digs (n / 10000)) rfl o1 rfl (by simp; omega) k1.size ?_; intro v2 w2 o2 g2); have k2 := o1.grown (Nat.le_refl _) k1 g2; clear o1 g2; have hpl : (10000 : Int) + (n : Int) % 10000 = ((10000 + n % 10000 : Nat) : Int) := by omega
      rw [hpl]; refine (HD2.out _).mono ?_; clear hpl; rintro e w3 ⟨rfl, k3⟩; go_wp2_with fail
      go_loop [6] (fun x => ∃ s : ByteArray, x = .string s ∧ strip s.data.toList = strip f ∧ (∃ y ∈ s.data.toList, y ≠ 48) ∧ s.size ≤ 4) (fun x => match x with | .string s => s.size | _ => 0)
      case atStart => exact ⟨_, rfl, by rw [tail_bytes], by rw [tail_bytes]; exact FS.out, by rw [← size_toList, tail_bytes, F4.out]; omega⟩
      case round =>
        obtain ⟨s, rfl, hs1, hs2, hs3⟩ := hrel
        have hpos : 0 < s.data.toList.length := by
          obtain ⟨y, hy, _⟩ := hs2; exact List.length_pos_of_mem hy
        obtain ⟨m, c, hmc⟩ := last_apart hpos; have hp0 : 0 < s.size := by rw [size_apart hmc]; omega
        have hb := last_byte hmc (Nat.sub_lt hp0 (by omega)); have hi0 : (0 : Int) ≤ (s.size : Int) - 1 := by omega
        have H1 := Lib.hid hs1; have H2 := Lib.hid hs2; have HM := Lib.hid hmc; have HS := Lib.hid (size_apart hmc); clear hs1 hs2 hmc hpos
        by_cases cc : c = 48
        · have hb' : ((s[s.size - 1].toNat : Int) == 48) = true := by rw [hb, cc]; rfl
          clear hb; go_wp2_with fail
          go_round
          case rel =>
            refine ⟨_, rfl, ?_, ?_, ?_⟩
            · rw [but_last HM.out, ← H1.out, HM.out, cc, strip_zero]
            · rw [but_last HM.out]
              obtain ⟨y, hy, hy2⟩ := H2.out; rw [HM.out] at hy
              simp at hy
              rcases hy with hy | hy
              · exact ⟨y, hy, hy2⟩
              · subst hy; exact absurd cc hy2
            · rw [← size_toList, but_last HM.out]; have := HS.out; omega
          case measure => simp; omega
        · have hb' : ((s[s.size - 1].toNat : Int) == 48) = false := by
            rw [hb]
            simp only [beq_eq_false_iff_ne]
            intro h; apply cc; apply UInt8.toNat_inj.1; show c.toNat = 48; omega
          clear hb
          have E : Hid ([] ++ digs (n / 10000) ++ [46] ++ s.data.toList = out) := by
            have e := H1.out; rw [HM.out, strip_other _ cc] at e; rw [HM.out, e, F.out, if_neg (by omega), if_neg cp, FF.out]
            simp
            exact trivial
          go_wp2_with (first | (refine append_byte rfl (.tmp 40) (.tmp 41) rfl w.heap.size v2 ([] ++ digs (n / 10000)) rfl ((o2.kept k3).alloc _) w3.heap.size 1 46 46 rfl rfl (by simp [go_sem]) (by simp; omega) (by simp; have := k2.size; have := k3.size; omega) ?_; intro v4 w4 o4 g4; have k4 : Kept w w4 := ((o2.kept k3).alloc _).grown (Nat.le_refl _) ((Kept.trans k2 k3).alloc _) g4) | (refine append_str rfl (.tmp 42) (.tmp 43) rfl w.heap.size v4 _ s rfl o4 rfl (by simp; omega) k4.size ?_; intro v5 w5 o5 g5; have hcv := conv_own o5)); go_ret; exact ⟨ret_str (by rw [← E.out]; simp), o4.grown (Nat.le_refl _) k4 g5⟩
end Go.Proofs.Ytbgpbopnfodjoaa

namespace Go.Proofs
open Go.Shelf
def Try.lays134_ren : Go.Shelf.Ren := ⟨fun | 134 => 32 | 129 => 33 | n => n, fun | 53 => 41 | 3 => 3 | 4 => 4 | 46 => 58 | 5 => 5 | 9 => 9 | n => n, fun | n => n⟩
theorem Try.lays134 : Go.Proofs.Lays.n134 Try.prog Try.lays134_ren := {
  mixed := by kernel_rfl
  f129 := Try.func33.trans (congrArg some (by kernel_rfl))
  f134 := Try.func32.trans (congrArg some (by kernel_rfl))
  t3 := Try.underlying3
  a3 := Try.isAgg3
  z3 := Try.sizeOf3
  v3 := Try.zeroValue3
  t4 := Try.underlying4
  a4 := Try.isAgg4
  z4 := Try.sizeOf4
  v4 := Try.zeroValue4
  t5 := Try.underlying5
  a5 := Try.isAgg5
  z5 := Try.sizeOf5
  v5 := Try.zeroValue5
  t9 := Try.underlying9
  a9 := Try.isAgg9
  z9 := Try.sizeOf9
  v9 := Try.zeroValue9
  t46 := Try.underlying58
  a46 := Try.isAgg58
  z46 := Try.sizeOf58
  v46 := Try.zeroValue58
  t53 := Try.underlying41
  a53 := Try.isAgg41
  z53 := Try.sizeOf41
  v53 := Try.zeroValue41 }
theorem Try.bits_LeadingZeros64 (x : Int) (w : World) (h0 : 0 ≤ x) (h1 : x ≤ 18446744073709551615) :
    Calls Try.prog 32 #[.int .u64 x] w fun e w' => e = .returned (.int .i64 (64 - (Lib.bitLen x.toNat : Int))) ∧ w' = w := Any.bits_LeadingZeros64 Try.lays134 x w h0 h1
def Try.lays264_ren : Go.Shelf.Ren := ⟨fun | 264 => 26 | n => n, fun | 53 => 41 | 46 => 58 | n => n, fun | n => n⟩
theorem Try.lays264 : Go.Proofs.Lays.n264 Try.prog Try.lays264_ren := {
  mixed := by kernel_rfl
  f264 := Try.func26.trans (congrArg some (by kernel_rfl))
  t46 := Try.underlying58
  a46 := Try.isAgg58
  z46 := Try.sizeOf58
  v46 := Try.zeroValue58
  t53 := Try.underlying41
  a53 := Try.isAgg41
  z53 := Try.sizeOf41
  v53 := Try.zeroValue41 }
open Go.RowKit Go.Lib in
theorem Try.bits_Mul64 (x y : Nat) (hx : x < 18446744073709551616) (hy : y < 18446744073709551616) (w : World) :
    Calls Try.prog 26 #[.int .u64 x, .int .u64 y] w fun e w' => e = .returned (.tuple #[.int .u64 ((x * y / 18446744073709551616 : Nat) : Int), .int .u64 ((x * y % 18446744073709551616 : Nat) : Int)]) ∧ w' = w := Any.bits_Mul64 Try.lays264 x y hx hy w
end Go.Proofs

namespace Go.Proofs.Ytbgpbopnfodjoaa.Lv
open Go
theorem and_lo (t : Int) (h0 : 0 ≤ t) (h1 : t ≤ 18446744073709551615) : bits .and .u64 t 4294967295 = t % 4294967296 := and_low32 t h0 (by omega)
theorem wrap_in (x : Int) (h0 : 0 ≤ x) (h1 : x ≤ 18446744073709551615) : IntKind.u64.wrap x = x := by
  show x % 2 ^ 64 = x
  omega
theorem wrap_def (x : Int) : IntKind.u64.wrap x = x % 18446744073709551616 := rfl
theorem or_add (p k l : Nat) (hl : l < 2 ^ k) (hp : p * 2 ^ k + l < 18446744073709551616) : bits .or .u64 ((p * 2 ^ k : Nat) : Int) (l : Int) = ((p * 2 ^ k + l : Nat) : Int) := by
  rw [bits_or_u64_nat _ _ (by omega) (by omega)]; rw [Nat.mul_comm, ← Nat.two_pow_add_eq_or_of_lt hl]
theorem shr_lt (lo k : Nat) (hk : k ≤ 64) (h : lo < 18446744073709551616) : lo / 2 ^ (64 - k) < 2 ^ k := by
  rw [Nat.div_lt_iff_lt_mul (Nat.two_pow_pos _), ← Nat.pow_add]; have : k + (64 - k) = 64 := by omega
  rw [this]; omega
theorem shift_split (hi lo k : Nat) (hk : k ≤ 64) : (hi * 18446744073709551616 + lo) * 2 ^ k = (hi * 2 ^ k + lo / 2 ^ (64 - k)) * 18446744073709551616 + lo * 2 ^ k % 18446744073709551616 := by
  have e : 2 ^ (64 - k) * 2 ^ k = 18446744073709551616 := by rw [← Nat.pow_add, show 64 - k + k = 64 from by omega]
  have h1 : lo * 2 ^ k / 18446744073709551616 = lo / 2 ^ (64 - k) := by
    rw [← e, Nat.mul_div_mul_right _ _ (Nat.two_pow_pos k)]
  have h2 := Nat.div_add_mod (lo * 2 ^ k) 18446744073709551616; rw [h1] at h2; generalize lo * 2 ^ k % 18446744073709551616 = m at *; generalize lo / 2 ^ (64 - k) = l at *; generalize 2 ^ k = t at *
  grind
theorem step_lo (B a b q r u1 u : Int) (hq : u = q * a + r) (h : q * b ≤ B * r + u1) : q * (a * B + b) ≤ u * B + u1 := by
  subst hq; grind
theorem step_hi (B a b q r u1 u : Int) (hq : u = q * a + r) (h : B * r + u1 < q * b) : u * B + u1 < q * (a * B + b) := by
  subst hq; grind
def Guess (u u1 a v : Int) (Q R : Int) : Prop := 0 ≤ Q ∧ Q ≤ 4294967297 ∧ 0 ≤ R ∧ u = Q * a + R ∧ (u * 4294967296 + u1) / v ≤ Q
structure Digit (u u1 a b v : Int) : Prop where
  u0 : 0 ≤ u
  uv : u < v
  l0 : 0 ≤ u1
  l1 : u1 < 4294967296
  a0 : 2147483648 ≤ a
  a1 : a < 4294967296
  b0 : 0 ≤ b
  b1 : b < 4294967296
  hv : v = a * 4294967296 + b
theorem Digit.lt {u u1 a b v : Int} (d : Digit u u1 a b v) : (u * 4294967296 + u1) / v < 4294967296 := by
  have h := d.uv; have h2 := d.l1; have h3 := d.u0; apply Int.ediv_lt_of_lt_mul (by omega)
  omega
theorem Digit.qa {u u1 a b v : Int} (d : Digit u u1 a b v) : 0 ≤ u / a ∧ u / a ≤ 4294967297 ∧ 0 ≤ u - u / a * a ∧ u - u / a * a < a ∧ 0 ≤ u / a * a ∧ u / a * a ≤ u := by
  obtain ⟨u0, uv, l0, l1, a0, a1, b0, b1, hv⟩ := d; have h1 := Int.emod_nonneg u (b := a) (by omega); have h2 := Int.emod_lt_of_pos u (b := a) (by omega); have h3 := Int.ediv_nonneg (a := u) (b := a) u0 (by omega)
  have h4 : u / a < 4294967298 := by
    apply Int.ediv_lt_of_lt_mul (by omega); omega
  have h5 : u / a * a = u - u % a := by have := Int.mul_ediv_add_emod u a; have := Int.mul_comm a (u / a); omega
  have h6 : 0 ≤ u / a * a := Int.mul_nonneg h3 (by omega)
  omega
theorem Digit.start {u u1 a b v : Int} (d : Digit u u1 a b v) : Guess u u1 a v (u / a) (u - u / a * a) := by
  have q := d.qa; obtain ⟨q1, q2, q3, q4, q5, q6⟩ := q; refine ⟨q1, q2, q3, by omega, ?_⟩; obtain ⟨u0, uv, l0, l1, a0, a1, b0, b1, hv⟩ := d
  have h : (u * 4294967296 + u1) / v < u / a + 1 := by
    apply Int.ediv_lt_of_lt_mul (by omega); generalize u / a = q at *; subst hv; have e : u = q * a + (u - q * a) := by omega
    generalize u - q * a = r at *; subst e; have : q * b ≥ 0 := Int.mul_nonneg q1 b0; have e2 : (q + 1) * (a * 4294967296 + b) = q * a * 4294967296 + q * b + a * 4294967296 + b := by grind
    rw [e2]; omega
  omega
theorem Guess.done {u u1 a b v Q R : Int} (d : Digit u u1 a b v) (g : Guess u u1 a v Q R) (h : Q * b ≤ 4294967296 * R + u1) : Q = (u * 4294967296 + u1) / v := by
  obtain ⟨g1, g2, g3, g4, g5⟩ := g; have h6 := step_lo 4294967296 a b Q R u1 u g4 h; rw [← d.hv] at h6; have := (Int.le_ediv_iff_mul_le (c := v) (a := Q) (b := u * 4294967296 + u1) (by have := d.uv; have := d.u0; omega)).2 h6
  omega
theorem Guess.past {u u1 a b v Q R : Int} (d : Digit u u1 a b v) (g : Guess u u1 a v Q R) (hQ : Q ≤ 4294967296) (h : 4294967296 ≤ R) : Q = (u * 4294967296 + u1) / v := by
  refine g.done d ?_; obtain ⟨g1, g2, g3, g4, g5⟩ := g; have h1 : Q * b ≤ 4294967296 * b := Int.mul_le_mul_of_nonneg_right hQ d.b0; have := d.b1; have := d.l0; have := d.b0
  omega
theorem Guess.less {u u1 a b v Q R : Int} (d : Digit u u1 a b v) (g : Guess u u1 a v Q R) (h : 4294967296 ≤ Q ∨ 4294967296 * R + u1 < Q * b) : 1 ≤ Q ∧ Guess u u1 a v (Q - 1) (R + a) := by
  obtain ⟨g1, g2, g3, g4, g5⟩ := g; have hl := d.lt; have ha := d.a0
  have hd : (u * 4294967296 + u1) / v < Q := by
    rcases h with h | h
    · omega
    · have h6 := step_hi 4294967296 a b Q R u1 u g4 h
      rw [← d.hv] at h6; exact Int.ediv_lt_of_lt_mul (by have := d.uv; have := d.u0; omega) h6
  have h7 : 0 ≤ (u * 4294967296 + u1) / v := Int.ediv_nonneg (by have := d.u0; have := d.l0; omega) (by have := d.uv; have := d.u0; omega); refine ⟨by omega, by omega, by omega, by omega, ?_, by omega⟩; rw [g4]; grind
theorem Guess.bounds {u u1 a b v Q R : Int} (d : Digit u u1 a b v) (g : Guess u u1 a v Q R) : 0 ≤ Q * b ∧ Q * b ≤ 18446744073709551615 := by
  obtain ⟨g1, g2, g3, g4, g5⟩ := g; have h1 : Q * b ≤ 4294967297 * b := Int.mul_le_mul_of_nonneg_right g2 d.b0; have h2 : 0 ≤ Q * b := Int.mul_nonneg g1 d.b0; have := d.b1
  omega
theorem Digit.rest {u u1 a b v : Int} (d : Digit u u1 a b v) (hv : v ≤ 18446744073709551615) : IntKind.u64.wrap (IntKind.u64.wrap (IntKind.u64.wrap (u * 4294967296) + u1) - IntKind.u64.wrap ((u * 4294967296 + u1) / v * v)) = (u * 4294967296 + u1) % v := by
  have h1 := Int.mul_ediv_add_emod (u * 4294967296 + u1) v; have h2 := Int.emod_lt_of_pos (u * 4294967296 + u1) (b := v) (by have := d.uv; have := d.u0; omega); have h3 := Int.emod_nonneg (u * 4294967296 + u1) (b := v) (by have := d.uv; have := d.u0; omega); rw [Int.mul_comm] at h1
  simp only [wrap_def]
  omega
end Go.Proofs.Ytbgpbopnfodjoaa.Lv

namespace Go.Proofs.Ytbgpbopnfodjoaa
open Go.RowKit Lv
def LzSome (y : Int) (w : World) (e : Ending) (w' : World) : Prop := ∃ k : Nat, k ≤ 63 ∧ y * 2 ^ k ≤ 18446744073709551615 ∧ 9223372036854775808 ≤ y * 2 ^ k ∧ e = .returned (.int .i64 k) ∧ w = w'
theorem lz_any (y : Int) (w : World) (h1 : 0 < y) (h2 : y ≤ 18446744073709551615) : Calls Try.prog 32 #[.int .u64 y] w (LzSome y w) := by
  obtain ⟨y, rfl⟩ := Int.eq_ofNat_of_zero_le (show 0 ≤ y by omega); refine (Try.bits_LeadingZeros64 y w (by omega) (by omega)).mono ?_; rintro e w' ⟨rfl, rfl⟩; obtain ⟨hb1, s3, s1⟩ := Lib.bitLenAux_bounds 64 y (by omega) (by omega); have hb : Lib.bitLen y ≤ 64 := Lib.bitLen_le y 64 (by omega) (by omega)
  change 1 ≤ Lib.bitLen y at hb1
  change 2 ^ (Lib.bitLen y - 1) ≤ y at s3
  change y < 2 ^ Lib.bitLen y at s1
  have e1 : (2 : Nat) ^ Lib.bitLen y * 2 ^ (64 - Lib.bitLen y) = 18446744073709551616 := by rw [← Nat.pow_add, show Lib.bitLen y + (64 - Lib.bitLen y) = 64 from by omega]
  have e2 : (2 : Nat) ^ (Lib.bitLen y - 1) * 2 ^ (64 - Lib.bitLen y) = 9223372036854775808 := by rw [← Nat.pow_add, show Lib.bitLen y - 1 + (64 - Lib.bitLen y) = 63 from by omega]
  have f1 := (Nat.mul_lt_mul_right (Nat.two_pow_pos (64 - Lib.bitLen y))).2 s1; have f2 := Nat.mul_le_mul_right (2 ^ (64 - Lib.bitLen y)) s3; have e3 : ((y * 2 ^ (64 - Lib.bitLen y) : Nat) : Int) = (y : Int) * 2 ^ (64 - Lib.bitLen y) := by simp
  refine ⟨64 - Lib.bitLen y, by omega, by rw [← e3]; omega, by rw [← e3]; omega, ?_, rfl⟩
  simp only [Ending.returned.injEq, Value.int.injEq, true_and]
  rw [Int.toNat_natCast]
  omega
structure Prep (hi lo y v a b hs ls u t u1 u0 q : Int) (k : Nat) : Prop where
  v_ : y * 2 ^ k = v
  a_ : v / 4294967296 = a
  b_ : bits .and .u64 v 4294967295 = b
  hs_ : IntKind.u64.wrap (hi * 2 ^ k) = hs
  ls_ : lo / 2 ^ (64 - k) = ls
  u_ : bits .or .u64 hs ls = u
  t_ : IntKind.u64.wrap (lo * 2 ^ k) = t
  u1_ : t / 4294967296 = u1
  u0_ : bits .and .u64 t 4294967295 = u0
  q_ : u / a = q
  d : Digit u u1 a b v
  t0 : 0 ≤ t
  t1 : t ≤ 18446744073709551615
  w0 : 0 ≤ u0
  w1 : u0 < 4294967296
  tt : t = u1 * 4294967296 + u0
  whole : (hi * 18446744073709551616 + lo) * 2 ^ k = u * 18446744073709551616 + t
theorem prep (hi lo y : Int) (k : Nat) (h0 : 0 < hi) (h1 : hi < y) (h3 : 0 ≤ lo) (h4 : lo ≤ 18446744073709551615) (k1 : k ≤ 63) (k2 : y * 2 ^ k ≤ 18446744073709551615) (k3 : 9223372036854775808 ≤ y * 2 ^ k) :
    ∃ v a b hs ls u t u1 u0 q : Int, Prep hi lo y v a b hs ls u t u1 u0 q k := by
  obtain ⟨hi, rfl⟩ := Int.eq_ofNat_of_zero_le (show 0 ≤ hi by omega); obtain ⟨lo, rfl⟩ := Int.eq_ofNat_of_zero_le (show 0 ≤ lo by omega); obtain ⟨y, rfl⟩ := Int.eq_ofNat_of_zero_le (show 0 ≤ y by omega)
  have g1 : hi * 2 ^ k + 2 ^ k ≤ y * 2 ^ k := by
    have := Nat.mul_le_mul_right (2 ^ k) (show hi + 1 ≤ y by omega); rw [Nat.add_mul] at this; omega
  have g2 : lo / 2 ^ (64 - k) < 2 ^ k := shr_lt lo k (by omega) (by omega); have g3 := shift_split hi lo k (by omega); have p1 : ((2 ^ k : Nat) : Int) = 2 ^ k := by simp
  have p2 : ((2 ^ (64 - k) : Nat) : Int) = 2 ^ (64 - k) := by simp
  rw [← p1] at k2 k3; have g4 := fun h => or_add hi k (lo / 2 ^ (64 - k)) g2 h; refine ⟨_, _, _, _, _, _, _, _, _, _, ⟨rfl, rfl, rfl, rfl, rfl, rfl, rfl, rfl, rfl, rfl, ?_, ?_, ?_, ?_, ?_, ?_, ?_⟩⟩
  all_goals simp only [← p1, ← p2]
  all_goals clear p1 p2 k1
  all_goals generalize 2 ^ k = p at *
  all_goals generalize 2 ^ (64 - k) = p' at *
  all_goals have e1 : (y : Int) * (p : Int) = ((y * p : Nat) : Int) := by simp
  all_goals have e2 : (hi : Int) * (p : Int) = ((hi * p : Nat) : Int) := by simp
  all_goals have e3 : (lo : Int) * (p : Int) = ((lo * p : Nat) : Int) := by simp
  all_goals have e4 : (lo : Int) / (p' : Int) = ((lo / p' : Nat) : Int) := by simp
  all_goals have e5 : ((hi : Int) * 18446744073709551616 + lo) * p = (((hi * 18446744073709551616 + lo) * p : Nat) : Int) := by simp
  all_goals rw [e1] at k2 k3
  all_goals have g5 := g4 (by omega)
  all_goals have hs : IntKind.u64.wrap ((hi * p : Nat) : Int) = ((hi * p : Nat) : Int) := wrap_in _ (by omega) (by omega)
  all_goals have ht : IntKind.u64.wrap ((lo * p : Nat) : Int) = ((lo * p % 18446744073709551616 : Nat) : Int) := by rw [wrap_def]; simp
  all_goals have t1 : lo * p % 18446744073709551616 < 18446744073709551616 := Nat.mod_lt _ (by omega)
  all_goals have a1 := and_lo ((y * p : Nat) : Int) (by omega) (by omega)
  all_goals have a2 := and_lo ((lo * p % 18446744073709551616 : Nat) : Int) (by omega) (by omega)
  all_goals clear g4
  all_goals simp only [e1, e2, e3, e4, e5, hs, ht, g5, a1, a2, g3]
  all_goals clear e1 e2 e3 e4 e5 hs ht g5 a1 a2 g3
  all_goals generalize lo * p % 18446744073709551616 = t at *
  all_goals generalize y * p = v at *
  all_goals generalize lo / p' = l at *
  all_goals generalize hi * p = h at *
  · exact ⟨by omega, by omega, by omega, by omega, by omega, by omega, by omega, by omega, by omega⟩
  all_goals omega
theorem Lv.Digit.second {u u1 a b v u0 : Int} (d : Digit u u1 a b v) (w0 : 0 ≤ u0) (w1 : u0 < 4294967296) : Digit ((u * 4294967296 + u1) % v) u0 a b v := by
  have h2 := Int.emod_lt_of_pos (u * 4294967296 + u1) (b := v) (by have := d.uv; have := d.u0; omega); have h3 := Int.emod_nonneg (u * 4294967296 + u1) (b := v) (by have := d.uv; have := d.u0; omega); exact ⟨h3, h2, w0, w1, d.a0, d.a1, d.b0, d.b1, d.hv⟩
theorem Lv.Digit.ge {u u1 a b v : Int} (d : Digit u u1 a b v) : 0 ≤ (u * 4294967296 + u1) / v := Int.ediv_nonneg (by have := d.u0; have := d.l0; omega) (by have := d.uv; have := d.u0; omega)
theorem Prep.final {hi lo y v a b hs ls u t u1 u0 q : Int} {k : Nat} (P : Prep hi lo y v a b hs ls u t u1 u0 q k) (d : Digit u u1 a b v) (d2 : Digit ((u * 4294967296 + u1) % v) u0 a b v) :
    (hi * 18446744073709551616 + lo) / y = (u * 4294967296 + u1) / v * 4294967296 + ((u * 4294967296 + u1) % v * 4294967296 + u0) / v ∧
    (hi * 18446744073709551616 + lo) % y = ((u * 4294967296 + u1) % v * 4294967296 + u0) % v / 2 ^ k ∧
    0 ≤ ((u * 4294967296 + u1) % v * 4294967296 + u0) % v := by
  have h1 := Int.mul_ediv_add_emod (u * 4294967296 + u1) v; have h2 := Int.mul_ediv_add_emod ((u * 4294967296 + u1) % v * 4294967296 + u0) v; have vpos : 0 < v := by have := d.uv; have := d.u0; omega
  have h3 := Int.emod_lt_of_pos ((u * 4294967296 + u1) % v * 4294967296 + u0) (b := v) vpos; have h4 := Int.emod_nonneg ((u * 4294967296 + u1) % v * 4294967296 + u0) (b := v) (by omega); generalize (u * 4294967296 + u1) / v = q1 at *; generalize (u * 4294967296 + u1) % v = r1 at *; generalize (r1 * 4294967296 + u0) / v = q2 at *; generalize (r1 * 4294967296 + u0) % v = r2 at *; have hw := P.whole; have htt := P.tt; have hv := P.v_; have pp : (0 : Int) < 2 ^ k := Int.pow_pos (by omega); generalize (2 : Int) ^ k = p at *; generalize hi * 18446744073709551616 + lo = n at *
  have e1 : n * p = (q1 * 4294967296 + q2) * v + r2 := by
    rw [hw, htt]; grind
  have ypos : 0 < y := by
    by_cases c : 0 < y
    · exact c
    · have := Int.mul_le_mul_of_nonneg_right (show y ≤ 0 by omega) (show 0 ≤ p by omega)
      omega
  subst hv; have e2 : n * p / (y * p) = n / y := Int.mul_ediv_mul_of_pos_left n y pp
  have e3 : n * p / (y * p) = q1 * 4294967296 + q2 := by
    rw [e1, Int.add_comm, Int.add_mul_ediv_right _ _ (by omega), Int.ediv_eq_zero_of_lt h4 h3]; omega
  have e4 : n * p % (y * p) = n % y * p := by rw [Int.mul_comm n, Int.mul_comm y, Int.mul_emod_mul_of_pos n y pp, Int.mul_comm]
  have e5 : n * p % (y * p) = r2 := by
    rw [e1, Int.add_comm, Int.add_mul_emod_self_right, Int.emod_eq_of_lt h4 h3]
  refine ⟨by omega, ?_, h4⟩; rw [← e5, e4, Int.mul_ediv_cancel _ (by omega)]
set_option maxHeartbeats 1000000 in
theorem div_big (hi lo y : Int) (w : World) (h0 : 0 < hi) (h1 : hi < y) (h2 : y ≤ 18446744073709551615) (h3 : 0 ≤ lo) (h4 : lo ≤ 18446744073709551615) :
    Calls Try.prog 31 #[.int .u64 hi, .int .u64 lo, .int .u64 y] w fun e w' => e = .returned (.tuple #[.int .u64 ((hi * 18446744073709551616 + lo) / y), .int .u64 ((hi * 18446744073709551616 + lo) % y)]) ∧ w = w' := by
  go_enter Try.func31, Try.ntmps31; go_wp2_with fail; refine (lz_any _ _ (by omega) (by omega)).mono ?_; rintro e w' ⟨k, hk1, hk2, hk3, rfl, rfl⟩; obtain ⟨v, a, b, hs, ls, u, t, u1, u0, q, P⟩ := prep hi lo y k h0 h1 h3 h4 hk1 hk2 hk3; have v_ := P.v_; have a_ := P.a_; have b_ := P.b_; have hs_ := P.hs_; have ls_ := P.ls_; have u_ := P.u_; have t_ := P.t_; have u1_ := P.u1_; have u0_ := P.u0_; have q_ := P.q_; have d := P.d; have dq := d.qa; have g0 := d.start; rw [q_] at dq g0; obtain ⟨dq1, dq2, dq3, dq4, dq5, dq6⟩ := dq; have du0 := d.u0; have duv := d.uv; have dl0 := d.l0; have dl1 := d.l1; have da0 := d.a0; have da1 := d.a1; have db0 := d.b0; have db1 := d.b1; have dv1 : v ≤ 18446744073709551615 := by rw [← v_]; omega
  have dv0 : 9223372036854775808 ≤ v := by rw [← v_]; omega
  have t0 := P.t0; have t1 := P.t1; have w0 := P.w0; have w1 := P.w1; have hwhole := Lib.hid P.whole; have htt := Lib.hid P.tt; have hv_ := Lib.hid v_
  go_upto_block 0 with fail
  clear v_ a_ b_ hs_ ls_ u_ t_ u1_ u0_ q_
  go_cut [15] (fun x wx => x = .int .u64 ((u * 4294967296 + u1) / v) ∧ w = wx)
  case first =>
    go_wp2_with fail
    go_loop [15, 16] (fun x z => ∃ Q R : Int, Guess u u1 a v Q R ∧ R < 4294967296 ∧ x = .int .u64 Q ∧ z = .int .u64 R) (fun x _ => (intOf x).toNat)
    case atStart => exact ⟨u / a, u - u / a * a, d.start, by have := d.qa; omega, rfl, by rw [P.q_]⟩
    case round =>
      obtain ⟨Q, R, g, hR, rfl, rfl⟩ := hrel; have gb := g.bounds d; obtain ⟨gb1, gb2⟩ := gb; have gs := g; obtain ⟨gs1, gs2, gs3, gs4, gs5⟩ := gs; clear gs4 g0 P
      by_cases c : 4294967296 ≤ Q ∨ 4294967296 * R + u1 < Q * b
      · have gl := g.less d c
        obtain ⟨gl1, gl2⟩ := gl; have Hgl2 := Lib.hid gl2; clear gl2 g
        by_cases c1 : 4294967296 ≤ Q
        · by_cases c2 : 4294967296 ≤ R + a
          · go_wp2_with fail
            go_meet
            exact ⟨by rw [Hgl2.out.past d (by omega) c2], rfl⟩
          · go_wp2_with fail
            go_round
            case rel => exact ⟨Q - 1, R + a, Hgl2.out, by omega, rfl, rfl⟩
            case measure => simp [intOf]; omega
        · by_cases c2 : 4294967296 ≤ R + a
          · go_wp2_with fail
            go_meet
            exact ⟨by rw [Hgl2.out.past d (by omega) c2], rfl⟩
          · go_wp2_with fail
            go_round
            case rel => exact ⟨Q - 1, R + a, Hgl2.out, by omega, rfl, rfl⟩
            case measure => simp [intOf]; omega
      · have Hg := Lib.hid g
        clear g; go_wp2_with fail
        go_meet
        exact ⟨by rw [Hg.out.done d (by omega)], rfl⟩
  case rest =>
    obtain ⟨rfl, rfl⟩ := hcut; have d2 := d.second P.w0 P.w1; have hfin := P.final d d2; have hr := Lib.hid (d.rest dv1); have hr2 := Lib.hid (d2.rest dv1); have dlt := d.lt; have dge := d.ge; have dlt2 := d2.lt; have dge2 := d2.ge; clear P g0 d; generalize (u * 4294967296 + u1) / v = q1 at *; generalize (u * 4294967296 + u1) % v = r1 at *; have d2q := d2.qa; have d2s := d2.start; obtain ⟨e1, e2, e3, e4, e5, e6⟩ := d2q; have hr' := hr.out; have z0 := d2.u0; have z1 := d2.uv
    go_upto_block 2 with fail
    clear hr'
    go_cut [18] (fun x wx => x = .int .u64 ((r1 * 4294967296 + u0) / v) ∧ w = wx)
    case first =>
      go_wp2_with fail
      go_loop [18, 16] (fun x z => ∃ Q R : Int, Guess r1 u0 a v Q R ∧ R < 4294967296 ∧ x = .int .u64 Q ∧ z = .int .u64 R) (fun x _ => (intOf x).toNat)
      case atStart => exact ⟨r1 / a, r1 - r1 / a * a, d2.start, by have := d2.qa; omega, rfl, rfl⟩
      case round =>
        obtain ⟨Q, R, g, hR, rfl, rfl⟩ := hrel; have gb := g.bounds d2; obtain ⟨gb1, gb2⟩ := gb; have gs := g; obtain ⟨gs1, gs2, gs3, gs4, gs5⟩ := gs; clear gs4 d2s
        by_cases c : 4294967296 ≤ Q ∨ 4294967296 * R + u0 < Q * b
        · have gl := g.less d2 c
          obtain ⟨gl1, gl2⟩ := gl; have Hgl2 := Lib.hid gl2; clear gl2 g
          by_cases c1 : 4294967296 ≤ Q
          · by_cases c2 : 4294967296 ≤ R + a
            · go_wp2_with fail
              go_meet
              exact ⟨by rw [Hgl2.out.past d2 (by omega) c2], rfl⟩
            · go_wp2_with fail
              go_round
              case rel => exact ⟨Q - 1, R + a, Hgl2.out, by omega, rfl, rfl⟩
              case measure => simp [intOf]; omega
          · by_cases c2 : 4294967296 ≤ R + a
            · go_wp2_with fail
              go_meet
              exact ⟨by rw [Hgl2.out.past d2 (by omega) c2], rfl⟩
            · go_wp2_with fail
              go_round
              case rel => exact ⟨Q - 1, R + a, Hgl2.out, by omega, rfl, rfl⟩
              case measure => simp [intOf]; omega
        · have Hg := Lib.hid g
          clear g; go_wp2_with fail
          go_meet
          exact ⟨by rw [Hg.out.done d2 (by omega)], rfl⟩
    case rest =>
      obtain ⟨rfl, rfl⟩ := hcut; generalize (r1 * 4294967296 + u0) / v = q2 at *; generalize (r1 * 4294967296 + u0) % v = r2 at *; have hr2' := hr2.out; obtain ⟨hf1, hf2, hf3⟩ := hfin; have Hf1 := Lib.hid hf1; have Hf2 := Lib.hid hf2; clear hf1 hf2; go_wp2_with fail; go_ret2; exact ⟨ret_ii Hf1.out.symm Hf2.out.symm, rfl⟩
end Go.Proofs.Ytbgpbopnfodjoaa

namespace Go.Proofs.Ytbgpbopnfodjoaa
open Go.RowKit Lv
theorem div_small (lo y : Int) (w : World) (h1 : 0 < y) (h2 : y ≤ 18446744073709551615) (h3 : 0 ≤ lo) (h4 : lo ≤ 18446744073709551615) :
    Calls Try.prog 31 #[.int .u64 0, .int .u64 lo, .int .u64 y] w fun e w' => e = .returned (.tuple #[.int .u64 (lo / y), .int .u64 (lo % y)]) ∧ ∃ n, w' = w.drewN n := by
  have b1 : 0 ≤ lo / y := Int.ediv_nonneg h3 (by omega); have b2 : lo / y ≤ lo := Int.ediv_le_self y h3; have b3 := Int.emod_nonneg lo (b := y) (by omega); have b4 := Int.emod_lt_of_pos lo h1; have c : (y == 0) = false := beq_eq_false_iff_ne.2 (by omega); go_enter Try.func31, Try.ntmps31; go_wp2_with fail
  go_quiet (fail)
  go_wp2; go_ret2; exact ⟨rfl, _, rfl⟩
theorem div_any (hi lo y : Int) (w : World) (h : u64 hi) (h1 : hi < y) (h2 : y ≤ 18446744073709551615) (h' : u64 lo) :
    Calls Try.prog 31 #[.int .u64 hi, .int .u64 lo, .int .u64 y] w fun e w' => e = .returned (.tuple #[.int .u64 ((hi * 18446744073709551616 + lo) / y), .int .u64 ((hi * 18446744073709551616 + lo) % y)]) ∧ ∃ n, w' = w.drewN n := by
  obtain ⟨h3, h4⟩ := h'
  by_cases c : hi = 0
  · subst c
    rw [show 0 * 18446744073709551616 + lo = lo by omega]; exact div_small lo y w (by omega) h2 h3 h4
  · refine (div_big hi lo y w (by have := h.1; omega) h1 h2 h3 h4).mono ?_
    rintro e w' ⟨he, rfl⟩; exact ⟨he, 0, rfl⟩
theorem nearest_any (hi lo d : Int) (w : World) (h : u64 hi) (h' : u64 lo) (hd : u64 d) :
    Calls Try.prog 25 #[.int .u64 hi, .int .u64 lo, .int .u64 d] w fun e w' => e = .returned (.tuple #[.int .u64 (near (hi * 18446744073709551616 + lo) d).1, .bool (near (hi * 18446744073709551616 + lo) d).2]) ∧ ∃ n, w' = w.drewN n := by
  obtain ⟨d1, d2⟩ := hd
  by_cases c : d = 0
  · subst c
    rw [show near (hi * 18446744073709551616 + lo) 0 = (0, false) from if_neg (by simp)]; go_enter Try.func25, Try.ntmps25; go_wp2; go_ret2; exact ⟨rfl, 0, rfl⟩
  · obtain ⟨h1, h2⟩ := h
    have c' : (d == 0) = false := beq_eq_false_iff_ne.2 c
    by_cases c2 : d ≤ hi
    · have e1 : near (hi * 18446744073709551616 + lo) d = (0, false) := by
        refine if_neg ?_; have := h'.1
        have h5 : 18446744073709551616 ≤ (hi * 18446744073709551616 + lo) / d := by
          rw [Int.le_ediv_iff_mul_le (by omega)]; omega
        omega
      have E := Lib.hid e1; clear e1; go_enter Try.func25, Try.ntmps25; go_wp2; go_ret2; exact ⟨ret_p E.out, 0, rfl⟩
    · have hx0 : 0 ≤ hi * 18446744073709551616 + lo := by have := h'.1; omega
      have b1 : 0 ≤ (hi * 18446744073709551616 + lo) / d := Int.ediv_nonneg hx0 (by omega)
      have b2 : (hi * 18446744073709551616 + lo) / d ≤ 18446744073709551615 := by
        have : (hi * 18446744073709551616 + lo) / d < 18446744073709551616 := Int.ediv_lt_of_lt_mul (by omega) (by have := h'.2; omega)
        omega
      have b3 := Int.emod_nonneg (hi * 18446744073709551616 + lo) (b := d) (by omega); have b4 := Int.emod_lt_of_pos (hi * 18446744073709551616 + lo) (b := d) (by omega); have E := Lib.hid (show near (hi * 18446744073709551616 + lo) d = if d ≠ 0 ∧ (hi * 18446744073709551616 + lo) / d ≤ 9223372036854775807 then (rnd (hi * 18446744073709551616 + lo) d, true) else (0, false) from rfl); have R := Lib.hid (show rnd (hi * 18446744073709551616 + lo) d = (hi * 18446744073709551616 + lo) / d + if d ≤ 2 * ((hi * 18446744073709551616 + lo) % d) then 1 else 0 from rfl); have D := Lib.hid (div_any hi lo d w ⟨h1, h2⟩ (by omega) d2 h'); generalize near (hi * 18446744073709551616 + lo) d = N at *; generalize rnd (hi * 18446744073709551616 + lo) d = N2 at *; clear h'; generalize (hi * 18446744073709551616 + lo) / d = q at *; generalize (hi * 18446744073709551616 + lo) % d = r at *
      by_cases c3 : 9223372036854775807 < q
      · go_enter Try.func25, Try.ntmps25
        go_wp2_with (go_at_call 31; refine D.out.mono ?_; rintro e w' ⟨rfl, n, rfl⟩); go_ret2; exact ⟨ret_p (by rw [E.out, if_neg (by omega)]), _, rfl⟩
      · by_cases c4 : d - r ≤ r
        · go_enter Try.func25, Try.ntmps25
          go_wp2_with (go_at_call 31; refine D.out.mono ?_; rintro e w' ⟨rfl, n, rfl⟩); go_ret2; exact ⟨ret_p (by rw [E.out, R.out, if_pos (by omega), if_pos (by omega)]), _, rfl⟩
        · go_enter Try.func25, Try.ntmps25
          go_wp2_with (go_at_call 31; refine D.out.mono ?_; rintro e w' ⟨rfl, n, rfl⟩); go_ret2; exact ⟨ret_p (by rw [E.out, R.out, if_pos (by omega), if_neg (by omega)]; simp), _, rfl⟩
theorem scaled_any (a b d : Int) (ng : Bool) (w : World) (h : u64 a) (h' : u64 b) (hd : u64 d) :
    Calls Try.prog 24 #[.int .u64 a, .int .u64 b, .int .u64 d, .bool ng] w fun e w' => e = .returned (.tuple #[.int .i64 (scaled a b d ng).1, .bool (scaled a b d ng).2]) ∧ ∃ n, w' = w.drewN n := by
  obtain ⟨a, rfl⟩ := Int.eq_ofNat_of_zero_le h.1; obtain ⟨b, rfl⟩ := Int.eq_ofNat_of_zero_le h'.1; have ha := h.2; have hb := h'.2; have M := Lib.hid (Try.bits_Mul64 a b (by omega) (by omega) w)
  have hlt : a * b / 18446744073709551616 < 18446744073709551616 := by
    rw [Nat.div_lt_iff_lt_mul (by omega)]; exact Nat.mul_lt_mul_of_le_of_lt (show a ≤ 18446744073709551616 by omega) (by omega) (by omega)
  have hlo : a * b % 18446744073709551616 < 18446744073709551616 := Nat.mod_lt _ (by omega)
  have hsplit : ((a * b / 18446744073709551616 : Nat) : Int) * 18446744073709551616 + ((a * b % 18446744073709551616 : Nat) : Int) = (a : Int) * (b : Int) := by
    rw [← Int.natCast_mul]; omega
  have S := Lib.hid (show scaled a b d ng = if d = 0 then (0, false) else fit (sg ng (rnd ((a : Int) * b) d)) from rfl); generalize scaled a b d ng = Z at *; rw [← hsplit] at S; clear hsplit; generalize a * b / 18446744073709551616 = hi at *; generalize a * b % 18446744073709551616 = lo at *; have NE := fun w => nearest_any hi lo d w ⟨by omega, by omega⟩ ⟨by omega, by omega⟩ hd; generalize hx : (hi : Int) * 18446744073709551616 + (lo : Int) = x at *; have hx0 : 0 ≤ x := by omega
  clear hx; have d1 := hd.1; have hd2 := hd.2
  by_cases c : d ≠ 0 ∧ x / d ≤ 9223372036854775807
  · have e1 : near x d = (rnd x d, true) := if_pos c
    have q0 : 0 ≤ x / d := Int.ediv_nonneg hx0 d1; have rb := rnd_bounds x d; have SG := fun w => signed_any 0 (rnd x d) ng w ⟨by omega, by omega⟩ ⟨by omega, by omega⟩; have HN := Lib.hid NE; have HS := Lib.hid SG; have E := Lib.hid e1; clear NE SG e1 rb q0; rw [if_neg c.1] at S; clear c h h' hd; rw [E.out] at HN; go_enter Try.func24, Try.ntmps24; go_wp2_with fail; refine M.out.mono ?_; rintro e w' ⟨rfl, rfl⟩; go_wp2_with fail; refine (HN.out _).mono ?_; rintro e w' ⟨rfl, n, rfl⟩; go_wp2_with fail; refine (HS.out _).mono ?_; rintro e w' ⟨rfl, rfl⟩; go_wp2_with fail; go_ret2; exact ⟨ret_p (by rw [S.out]), _, rfl⟩
  · have e1 : near x d = (0, false) := if_neg c
    have HN := Lib.hid NE; have E := Lib.hid e1
    have e2 : (if d = 0 then (0, false) else fit (sg ng (rnd x d))) = ((0 : Int), false) := by
      by_cases c2 : d = 0
      · rw [if_pos c2]
      · rw [if_neg c2]
        have rb := rnd_bounds x d; refine fit_out ?_
        cases ng <;> simp only [sg] <;> simp <;> omega
    rw [e2] at S; clear NE e1 e2 c h h' hd; rw [E.out] at HN; go_enter Try.func24, Try.ntmps24; go_wp2_with fail; refine M.out.mono ?_; rintro e w' ⟨rfl, rfl⟩; go_wp2_with fail; refine (HN.out _).mono ?_; rintro e w' ⟨rfl, n, rfl⟩; go_wp2_with fail; go_ret2; exact ⟨ret_p S.out, _, rfl⟩
theorem neg_any (a : Int) (w : World) (h : i64 a) : Calls Try.prog 7 #[.int .i64 a] w fun e w' => e = .returned (.tuple #[.int .i64 (dNeg a).1, .bool (dNeg a).2]) ∧ ∃ n, w' = w.drewN n := by
  have hs : fit (sg (decide (0 < a)) (0 * 18446744073709551616 + Lv.abs a)) = dNeg a := by
    unfold dNeg
    congr 1
    unfold sg Lv.abs
    by_cases c : 0 < a
    · simp [c]; omega
    · simp [c]; omega
  have S := Lib.hid (signed_any 0 (Lv.abs a) (decide (0 < a)) w ⟨by omega, by omega⟩ (abs_u64 h)); rw [hs] at S; have Z := Lib.hid (size_any a w h); obtain ⟨h1, h2⟩ := h; go_enter Try.func7, Try.ntmps7; go_wp2_with fail; refine Z.out.mono ?_; rintro e w' ⟨rfl, rfl⟩; go_wp2_with fail; refine S.out.mono ?_; rintro e w' ⟨rfl, rfl⟩; go_wp2_with fail; go_ret2; exact ⟨rfl, 0, rfl⟩
theorem mul_any (a b : Int) (w : World) (h : i64 a) (h' : i64 b) : Calls Try.prog 8 #[.int .i64 a, .int .i64 b] w fun e w' => e = .returned (.tuple #[.int .i64 (dMul a b).1, .bool (dMul a b).2]) ∧ ∃ n, w' = w.drewN n := by
  have hs : scaled (Lv.abs a) (Lv.abs b) 10000 (decide (a < 0) != decide (b < 0)) = dMul a b := by
    unfold dMul scaled; rw [if_neg (by omega)]; rfl
  have S := fun w => scaled_any (Lv.abs a) (Lv.abs b) 10000 (decide (a < 0) != decide (b < 0)) w (abs_u64 h) (abs_u64 h') ⟨by omega, by omega⟩; rw [hs] at S; have HS := Lib.hid S; have Z := Lib.hid (fun w => size_any a w h); have Z2 := Lib.hid (fun w => size_any b w h'); clear S hs; obtain ⟨h1, h2⟩ := h; go_enter Try.func8, Try.ntmps8; go_wp2_with fail; refine (Z.out _).mono ?_; rintro e w' ⟨rfl, rfl⟩; go_wp2_with fail; refine (Z2.out _).mono ?_; rintro e w' ⟨rfl, rfl⟩; go_wp2_with fail; refine (HS.out _).mono ?_; rintro e w' ⟨rfl, n, rfl⟩; go_wp2_with fail; go_ret2; exact ⟨rfl, _, rfl⟩
theorem quo_any (a b : Int) (w : World) (h : i64 a) (h' : i64 b) : Calls Try.prog 9 #[.int .i64 a, .int .i64 b] w fun e w' => e = .returned (.tuple #[.int .i64 (dQuo a b).1, .bool (dQuo a b).2]) ∧ ∃ n, w' = w.drewN n := by
  have hs : scaled (Lv.abs a) 10000 (Lv.abs b) (decide (a < 0) != decide (b < 0)) = dQuo a b := by
    unfold dQuo scaled
    by_cases c : b = 0
    · rw [if_pos c, if_pos ((abs_zero b).2 c)]
    · rw [if_neg c, if_neg (fun x => c ((abs_zero b).1 x))]; rfl
  have S := fun w => scaled_any (Lv.abs a) 10000 (Lv.abs b) (decide (a < 0) != decide (b < 0)) w (abs_u64 h) ⟨by omega, by omega⟩ (abs_u64 h'); rw [hs] at S; have HS := Lib.hid S; have Z := Lib.hid (fun w => size_any a w h); have Z2 := Lib.hid (fun w => size_any b w h'); clear S hs; obtain ⟨h1, h2⟩ := h; go_enter Try.func9, Try.ntmps9; go_wp2_with fail; refine (Z.out _).mono ?_; rintro e w' ⟨rfl, rfl⟩; go_wp2_with fail; refine (Z2.out _).mono ?_; rintro e w' ⟨rfl, rfl⟩; go_wp2_with fail; refine (HS.out _).mono ?_; rintro e w' ⟨rfl, n, rfl⟩; go_wp2_with fail; go_ret2; exact ⟨rfl, _, rfl⟩
end Go.Proofs.Ytbgpbopnfodjoaa

namespace Go.Proofs.Ytbgpbopnfodjoaa.Lv
open Go
def wd (h l : Int) : Int := h * 18446744073709551616 + l
def hi64 (n : Int) : Int := n / 18446744073709551616 % 18446744073709551616
def lo64 (n : Int) : Int := n % 18446744073709551616
theorem hi64_u (n : Int) : u64 (hi64 n) := by unfold hi64 u64; omega
theorem lo64_u (n : Int) : u64 (lo64 n) := by unfold lo64 u64; omega
theorem wd_hilo (n : Int) : wd (hi64 n) (lo64 n) = n % 340282366920938463463374607431768211456 := by unfold wd hi64 lo64; omega
theorem wd_in {n : Int} (h : 0 ≤ n) (g : n < 340282366920938463463374607431768211456) : wd (hi64 n) (lo64 n) = n := by rw [wd_hilo]; omega
end Go.Proofs.Ytbgpbopnfodjoaa.Lv

namespace Go.Proofs.Ytbgpbopnfodjoaa
open Go.RowKit Lv
end Go.Proofs.Ytbgpbopnfodjoaa

namespace Go.Proofs.Ytbgpbopnfodjoaa
open Go.RowKit Lv
end Go.Proofs.Ytbgpbopnfodjoaa

namespace Go.Proofs.Ytbgpbopnfodjoaa.Lv
open Go
structure Bits (X T Y : Int) (k : Nat) : Prop where
  le : k ≤ 128
  e : X * 2 ^ k = T * 340282366920938463463374607431768211456 + Y
  t0 : 0 ≤ T
  y0 : 0 ≤ Y
  y1 : Y < 340282366920938463463374607431768211456
theorem Bits.start {X : Int} (h : 0 ≤ X) (g : X < 340282366920938463463374607431768211456) : Bits X 0 X 0 := ⟨by omega, by simp, by omega, h, g⟩
theorem Bits.done {X T Y : Int} (b : Bits X T Y 128) : T = X := by
  obtain ⟨h1, h2, h3, h4, h5⟩ := b; have h8 : (2 : Int) ^ 128 = 340282366920938463463374607431768211456 := by decide
  rw [h8] at h2
  omega
end Go.Proofs.Ytbgpbopnfodjoaa.Lv

namespace Go.Proofs.Ytbgpbopnfodjoaa
open Go.RowKit Lv
end Go.Proofs.Ytbgpbopnfodjoaa

namespace Go.Proofs.Ytbgpbopnfodjoaa
open Go.RowKit Lv
def subEntry : Array Value → Sem Value := fun args => do
  let (x, y, b) ← Extern.MathBitsCarry.three "Sub64" args
  pure (Extern.MathBitsCarry.pair ((x + Extern.MathBitsCarry.m64 - y - b) % Extern.MathBitsCarry.m64) (if x < y + b then 1 else 0))
theorem run_sub_nat (x y b : Nat) (hb : b ≤ 1) (w : World) :
    (subEntry #[.int .u64 x, .int .u64 y, .int .u64 b]).run Try.prog w =
      .ok (.tuple #[.int .u64 (((x + 18446744073709551616 - y - b) % 18446744073709551616 : Nat) : Int), .int .u64 ((if x < y + b then 1 else 0 : Nat) : Int)]) w := by
  have : b = 0 ∨ b = 1 := by omega
  rcases this with rfl | rfl <;> rfl
theorem run_add (x y c : Int) (h : u64 x) (h' : u64 y) (c0 : 0 ≤ c) (c1 : c ≤ 1) (w : World) :
    (callFunc 29 #[.int .u64 x, .int .u64 y, .int .u64 c]).run Try.prog w = .ok (.value (.tuple #[.int .u64 ((x + y + c) % 18446744073709551616), .int .u64 ((x + y + c) / 18446744073709551616)])) w := by
  rw [run_callFunc_extern Try.func29 (by kernel_rfl) (by kernel_rfl) (by kernel_rfl) (e := add64Entry) (by kernel_rfl), run_add64 x y c h.1 h'.1 c0 c1]
  rfl
theorem run_sub (x y b : Int) (h : u64 x) (h' : u64 y) (b0 : 0 ≤ b) (b1 : b ≤ 1) (w : World) :
    (callFunc 30 #[.int .u64 x, .int .u64 y, .int .u64 b]).run Try.prog w = .ok (.value (.tuple #[.int .u64 ((x - y - b) % 18446744073709551616), .int .u64 (if x < y + b then 1 else 0)])) w := by
  obtain ⟨x, rfl⟩ := Int.eq_ofNat_of_zero_le h.1; obtain ⟨y, rfl⟩ := Int.eq_ofNat_of_zero_le h'.1; obtain ⟨b, rfl⟩ := Int.eq_ofNat_of_zero_le b0; rw [run_callFunc_extern Try.func30 (by kernel_rfl) (by kernel_rfl) (by kernel_rfl) (e := subEntry) (by kernel_rfl), run_sub_nat x y b (by omega)]; have h2 := h'.2; have e1 : (((x + 18446744073709551616 - y - b) % 18446744073709551616 : Nat) : Int) = ((x : Int) - y - b) % 18446744073709551616 := by omega
  have e2 : ((if x < y + b then 1 else 0 : Nat) : Int) = if (x : Int) < y + b then 1 else 0 := by
    by_cases c : x < y + b
    · rw [if_pos c, if_pos (by omega)]; rfl
    · rw [if_neg c, if_neg (by omega)]; rfl
  rw [e1, e2]
  rfl
set_option maxHeartbeats 400000 in
theorem add_ff (h0 h1 l0 l1 a : Int) (g : Nat) (w : World) (ha : i64 a) (hb : Box w g 56 #[.int .u64 h0, .int .u64 h1, .int .u64 l0, .int .u64 l1]) (uh : u64 h0) (ul : u64 l0) (c : 0 ≤ a) (hc : h0 < 18446744073709551615) :
    Calls Try.prog 20 #[.pointer (some ⟨g, 0, none⟩), .int .i64 a, .bool false] w fun e w' => e = .returned (.tuple #[]) ∧ Only g w w' ∧
      Box w' g 56 #[.int .u64 (h0 + (l0 + Lv.abs a) / 18446744073709551616), .int .u64 h1, .int .u64 ((l0 + Lv.abs a) % 18446744073709551616), .int .u64 l1] := by
  have hA := run_add l0 (Lv.abs a) 0 ul (abs_u64 ha) (by omega) (by omega); rw [show l0 + Lv.abs a + 0 = l0 + Lv.abs a by omega] at hA; have hs := fun w => size_any a w ha; have b0 : w.cell? ⟨g, 0, none⟩ = some (.int .u64 h0) := hb.cell 0; have b1 : w.cell? ⟨g, 1, none⟩ = some (.int .u64 h1) := hb.cell 1; have b2 : w.cell? ⟨g, 2, none⟩ = some (.int .u64 l0) := hb.cell 2; have b3 : w.cell? ⟨g, 3, none⟩ = some (.int .u64 l1) := hb.cell 3; have f0 := hb.loose 0; have f1 := hb.loose 1; have f2 := hb.loose 2; have f3 := hb.loose 3; have HB := Lib.hid hb; clear hb; go_enter Try.func20, Try.ntmps20; go_wp2_with fail
  go_quiet ((go_at_call 23; first | exact quiet_same (hs _) | exact quiet_same_drewN (hs _)))
  have au := abs_u64 ha; obtain ⟨au1, au2⟩ := au; obtain ⟨uh1, uh2⟩ := uh; obtain ⟨ul1, ul2⟩ := ul; have k0 : 0 ≤ (l0 + Lv.abs a) / 18446744073709551616 := by omega
  have k1 : (l0 + Lv.abs a) / 18446744073709551616 ≤ 1 := by omega
  go_wp2_with fail
  go_region
  go_end0
  have hb := HB.out; exact ⟨rfl, by repeat (first | with_reducible exact Only.refl _ _ | with_reducible apply Only.drew | with_reducible apply Only.drewN | with_reducible apply Only.setCell), bxd⟩
set_option maxHeartbeats 400000 in
theorem add_ft (h0 h1 l0 l1 a : Int) (g : Nat) (w : World) (ha : i64 a) (hb : Box w g 56 #[.int .u64 h0, .int .u64 h1, .int .u64 l0, .int .u64 l1]) (uh : u64 h1) (ul : u64 l1) (c : a < 0) (hc : h1 < 18446744073709551615) :
    Calls Try.prog 20 #[.pointer (some ⟨g, 0, none⟩), .int .i64 a, .bool false] w fun e w' => e = .returned (.tuple #[]) ∧ Only g w w' ∧
      Box w' g 56 #[.int .u64 h0, .int .u64 (h1 + (l1 + Lv.abs a) / 18446744073709551616), .int .u64 l0, .int .u64 ((l1 + Lv.abs a) % 18446744073709551616)] := by
  have hA := run_add l1 (Lv.abs a) 0 ul (abs_u64 ha) (by omega) (by omega); rw [show l1 + Lv.abs a + 0 = l1 + Lv.abs a by omega] at hA; have hs := fun w => size_any a w ha; have b0 : w.cell? ⟨g, 0, none⟩ = some (.int .u64 h0) := hb.cell 0; have b1 : w.cell? ⟨g, 1, none⟩ = some (.int .u64 h1) := hb.cell 1; have b2 : w.cell? ⟨g, 2, none⟩ = some (.int .u64 l0) := hb.cell 2; have b3 : w.cell? ⟨g, 3, none⟩ = some (.int .u64 l1) := hb.cell 3; have f0 := hb.loose 0; have f1 := hb.loose 1; have f2 := hb.loose 2; have f3 := hb.loose 3; have HB := Lib.hid hb; clear hb; go_enter Try.func20, Try.ntmps20; go_wp2_with fail
  go_quiet ((go_at_call 23; first | exact quiet_same (hs _) | exact quiet_same_drewN (hs _)))
  have au := abs_u64 ha; obtain ⟨au1, au2⟩ := au; obtain ⟨uh1, uh2⟩ := uh; obtain ⟨ul1, ul2⟩ := ul; have k0 : 0 ≤ (l1 + Lv.abs a) / 18446744073709551616 := by omega
  have k1 : (l1 + Lv.abs a) / 18446744073709551616 ≤ 1 := by omega
  go_wp2_with fail
  go_region
  go_end0
  have hb := HB.out; exact ⟨rfl, by repeat (first | with_reducible exact Only.refl _ _ | with_reducible apply Only.drew | with_reducible apply Only.drewN | with_reducible apply Only.setCell), bxd⟩
set_option maxHeartbeats 400000 in
theorem add_tf (h0 h1 l0 l1 a : Int) (g : Nat) (w : World) (ha : i64 a) (hb : Box w g 56 #[.int .u64 h0, .int .u64 h1, .int .u64 l0, .int .u64 l1]) (uh : u64 h1) (ul : u64 l1) (c : 0 ≤ a) (hc : h1 < 18446744073709551615) :
    Calls Try.prog 20 #[.pointer (some ⟨g, 0, none⟩), .int .i64 a, .bool true] w fun e w' => e = .returned (.tuple #[]) ∧ Only g w w' ∧
      Box w' g 56 #[.int .u64 h0, .int .u64 (h1 + (l1 + Lv.abs a) / 18446744073709551616), .int .u64 l0, .int .u64 ((l1 + Lv.abs a) % 18446744073709551616)] := by
  have hA := run_add l1 (Lv.abs a) 0 ul (abs_u64 ha) (by omega) (by omega); rw [show l1 + Lv.abs a + 0 = l1 + Lv.abs a by omega] at hA; have hs := fun w => size_any a w ha; have b0 : w.cell? ⟨g, 0, none⟩ = some (.int .u64 h0) := hb.cell 0; have b1 : w.cell? ⟨g, 1, none⟩ = some (.int .u64 h1) := hb.cell 1; have b2 : w.cell? ⟨g, 2, none⟩ = some (.int .u64 l0) := hb.cell 2; have b3 : w.cell? ⟨g, 3, none⟩ = some (.int .u64 l1) := hb.cell 3; have f0 := hb.loose 0; have f1 := hb.loose 1; have f2 := hb.loose 2; have f3 := hb.loose 3; have c' : decide (a < 0) = false := decide_eq_false (by omega); have HB := Lib.hid hb; clear hb; go_enter Try.func20, Try.ntmps20; go_wp2_with fail
  go_quiet ((go_at_call 23; first | exact quiet_same (hs _) | exact quiet_same_drewN (hs _)))
  have au := abs_u64 ha; obtain ⟨au1, au2⟩ := au; obtain ⟨uh1, uh2⟩ := uh; obtain ⟨ul1, ul2⟩ := ul; have k0 : 0 ≤ (l1 + Lv.abs a) / 18446744073709551616 := by omega
  have k1 : (l1 + Lv.abs a) / 18446744073709551616 ≤ 1 := by omega
  go_wp2_with fail
  go_region
  go_end0
  have hb := HB.out; exact ⟨rfl, by repeat (first | with_reducible exact Only.refl _ _ | with_reducible apply Only.drew | with_reducible apply Only.drewN | with_reducible apply Only.setCell), bxd⟩
set_option maxHeartbeats 400000 in
theorem add_tt (h0 h1 l0 l1 a : Int) (g : Nat) (w : World) (ha : i64 a) (hb : Box w g 56 #[.int .u64 h0, .int .u64 h1, .int .u64 l0, .int .u64 l1]) (uh : u64 h0) (ul : u64 l0) (c : a < 0) (hc : h0 < 18446744073709551615) :
    Calls Try.prog 20 #[.pointer (some ⟨g, 0, none⟩), .int .i64 a, .bool true] w fun e w' => e = .returned (.tuple #[]) ∧ Only g w w' ∧
      Box w' g 56 #[.int .u64 (h0 + (l0 + Lv.abs a) / 18446744073709551616), .int .u64 h1, .int .u64 ((l0 + Lv.abs a) % 18446744073709551616), .int .u64 l1] := by
  have hA := run_add l0 (Lv.abs a) 0 ul (abs_u64 ha) (by omega) (by omega); rw [show l0 + Lv.abs a + 0 = l0 + Lv.abs a by omega] at hA; have hs := fun w => size_any a w ha; have b0 : w.cell? ⟨g, 0, none⟩ = some (.int .u64 h0) := hb.cell 0; have b1 : w.cell? ⟨g, 1, none⟩ = some (.int .u64 h1) := hb.cell 1; have b2 : w.cell? ⟨g, 2, none⟩ = some (.int .u64 l0) := hb.cell 2; have b3 : w.cell? ⟨g, 3, none⟩ = some (.int .u64 l1) := hb.cell 3; have f0 := hb.loose 0; have f1 := hb.loose 1; have f2 := hb.loose 2; have f3 := hb.loose 3; have HB := Lib.hid hb; clear hb; go_enter Try.func20, Try.ntmps20; go_wp2_with fail
  go_quiet ((go_at_call 23; first | exact quiet_same (hs _) | exact quiet_same_drewN (hs _)))
  have au := abs_u64 ha; obtain ⟨au1, au2⟩ := au; obtain ⟨uh1, uh2⟩ := uh; obtain ⟨ul1, ul2⟩ := ul; have k0 : 0 ≤ (l0 + Lv.abs a) / 18446744073709551616 := by omega
  have k1 : (l0 + Lv.abs a) / 18446744073709551616 ≤ 1 := by omega
  go_wp2_with fail
  go_region
  go_end0
  have hb := HB.out; exact ⟨rfl, by repeat (first | with_reducible exact Only.refl _ _ | with_reducible apply Only.drew | with_reducible apply Only.drewN | with_reducible apply Only.setCell), bxd⟩
end Go.Proofs.Ytbgpbopnfodjoaa

namespace Go.Proofs.Ytbgpbopnfodjoaa
open Go.RowKit Lv
theorem run_sub_is (x y b d k : Int) (h : u64 x) (h' : u64 y) (b0 : 0 ≤ b) (b1 : b ≤ 1) (hd : u64 d) (k0 : 0 ≤ k) (k1 : k ≤ 1) (he : d = x - y - b + k * 18446744073709551616) (w : World) :
    (callFunc 30 #[.int .u64 x, .int .u64 y, .int .u64 b]).run Try.prog w = .ok (.value (.tuple #[.int .u64 d, .int .u64 k])) w := by
  rw [run_sub x y b h h' b0 b1]; obtain ⟨h1, h2⟩ := h; obtain ⟨h3, h4⟩ := h'; obtain ⟨h5, h6⟩ := hd; have e1 : (x - y - b) % 18446744073709551616 = d := by omega
  have e2 : (if x < y + b then (1 : Int) else 0) = k := by split <;> omega
  rw [e1, e2]
theorem ret_iib' {a b c d : Int} {x y : Bool} (h : a = b) (g : c = d) (i : x = y) : Ending.returned (.tuple #[.int .u64 a, .int .u64 c, .bool x]) = .returned (.tuple #[.int .u64 b, .int .u64 d, .bool y]) := by rw [h, g, i]
set_option maxHeartbeats 1000000 in
theorem all_A (h0 h1 l0 l1 : Int) (g : Nat) (w : World) (hb : Box w g 56 #[.int .u64 h0, .int .u64 h1, .int .u64 l0, .int .u64 l1]) (u0 : u64 h0) (u1 : u64 h1) (v0 : u64 l0) (v1 : u64 l1) (c1 : l1 ≤ l0) (c2 : h1 ≤ h0) :
    Calls Try.prog 22 #[.pointer (some ⟨g, 0, none⟩)] w fun e w' => e = .returned (.tuple #[.int .u64 (hi64 (Lv.abs (wd h0 l0 - wd h1 l1))), .int .u64 (lo64 (Lv.abs (wd h0 l0 - wd h1 l1))), .bool (Lv.neg (wd h0 l0 - wd h1 l1))]) ∧ ∃ n, w' = w.drewN n := by
  have b0 : w.cell? ⟨g, 0, none⟩ = some (.int .u64 h0) := hb.cell 0; have b1 : w.cell? ⟨g, 1, none⟩ = some (.int .u64 h1) := hb.cell 1; have b2 : w.cell? ⟨g, 2, none⟩ = some (.int .u64 l0) := hb.cell 2; have b3 : w.cell? ⟨g, 3, none⟩ = some (.int .u64 l1) := hb.cell 3; clear hb; have U0 := u0; have U1 := u1; have V0 := v0; have V1 := v1; obtain ⟨U0, U0'⟩ := U0; obtain ⟨U1, U1'⟩ := U1; obtain ⟨V0, V0'⟩ := V0; obtain ⟨V1, V1'⟩ := V1; obtain ⟨lo, hlo⟩ : ∃ lo, lo = l0 - l1 := ⟨_, rfl⟩; obtain ⟨hi, hhi⟩ : ∃ hi, hi = h0 - h1 := ⟨_, rfl⟩; have s1 := run_sub_is l0 l1 0 lo 0 v0 v1 (by omega) (by omega) ⟨by omega, by omega⟩ (by omega) (by omega) (by omega); have s2 := run_sub_is h0 h1 0 hi 0 u0 u1 (by omega) (by omega) ⟨by omega, by omega⟩ (by omega) (by omega) (by omega); have e : 0 ≤ wd h0 l0 - wd h1 l1 := by unfold wd; omega
  have E1 : hi = hi64 (Lv.abs (wd h0 l0 - wd h1 l1)) := by unfold Lv.abs hi64 wd at *; rw [if_neg (by omega)]; omega
  have E2 : lo = lo64 (Lv.abs (wd h0 l0 - wd h1 l1)) := by unfold Lv.abs lo64 wd at *; rw [if_neg (by omega)]; omega
  have E3 : false = Lv.neg (wd h0 l0 - wd h1 l1) := (decide_eq_false (by omega)).symm; have HE1 := Lib.hid E1; have HE2 := Lib.hid E2; have HE3 := Lib.hid E3; clear c1 c2 E1 E2 E3 e u0 u1 v0 v1 hlo hhi; go_enter Try.func22, Try.ntmps22; go_wp2_with fail
  go_quiet (fail)
  go_wp2_with fail
  go_quiet (fail)
  go_wp2_with fail
  go_ret3
  exact ⟨ret_iib' HE1.out HE2.out HE3.out, _, rfl⟩
set_option maxHeartbeats 1000000 in
theorem all_B0 (h0 h1 l0 l1 : Int) (g : Nat) (w : World) (hb : Box w g 56 #[.int .u64 h0, .int .u64 h1, .int .u64 l0, .int .u64 l1]) (u0 : u64 h0) (u1 : u64 h1) (v0 : u64 l0) (v1 : u64 l1) (c1 : l1 = l0) (c2 : h0 < h1) :
    Calls Try.prog 22 #[.pointer (some ⟨g, 0, none⟩)] w fun e w' => e = .returned (.tuple #[.int .u64 (hi64 (Lv.abs (wd h0 l0 - wd h1 l1))), .int .u64 (lo64 (Lv.abs (wd h0 l0 - wd h1 l1))), .bool (Lv.neg (wd h0 l0 - wd h1 l1))]) ∧ ∃ n, w' = w.drewN n := by
  have b0 : w.cell? ⟨g, 0, none⟩ = some (.int .u64 h0) := hb.cell 0; have b1 : w.cell? ⟨g, 1, none⟩ = some (.int .u64 h1) := hb.cell 1; have b2 : w.cell? ⟨g, 2, none⟩ = some (.int .u64 l0) := hb.cell 2; have b3 : w.cell? ⟨g, 3, none⟩ = some (.int .u64 l1) := hb.cell 3; clear hb; have U0 := u0; have U1 := u1; have V0 := v0; have V1 := v1; obtain ⟨U0, U0'⟩ := U0; obtain ⟨U1, U1'⟩ := U1; obtain ⟨V0, V0'⟩ := V0; obtain ⟨V1, V1'⟩ := V1; obtain ⟨lo, hlo⟩ : ∃ lo, lo = l0 - l1 := ⟨_, rfl⟩; obtain ⟨hi, hhi⟩ : ∃ hi, hi = h0 - h1 + 18446744073709551616 := ⟨_, rfl⟩; have s1 := run_sub_is l0 l1 0 lo 0 v0 v1 (by omega) (by omega) ⟨by omega, by omega⟩ (by omega) (by omega) (by omega); have s2 := run_sub_is h0 h1 0 hi 1 u0 u1 (by omega) (by omega) ⟨by omega, by omega⟩ (by omega) (by omega) (by omega); obtain ⟨lo2, hlo2⟩ : ∃ lo2, lo2 = 0 := ⟨_, rfl⟩; obtain ⟨hi2, hhi2⟩ : ∃ hi2, hi2 = h1 - h0 := ⟨_, rfl⟩; have s3 := run_sub_is 0 lo 0 lo2 0 ⟨by omega, by omega⟩ ⟨by omega, by omega⟩ (by omega) (by omega) ⟨by omega, by omega⟩ (by omega) (by omega) (by omega); have s4 := run_sub_is 0 hi 0 hi2 1 ⟨by omega, by omega⟩ ⟨by omega, by omega⟩ (by omega) (by omega) ⟨by omega, by omega⟩ (by omega) (by omega) (by omega); have e : wd h0 l0 - wd h1 l1 < 0 := by unfold wd; omega
  have E1 : hi2 = hi64 (Lv.abs (wd h0 l0 - wd h1 l1)) := by unfold Lv.abs hi64 wd at *; rw [if_pos (by omega)]; omega
  have E2 : lo2 = lo64 (Lv.abs (wd h0 l0 - wd h1 l1)) := by unfold Lv.abs lo64 wd at *; rw [if_pos (by omega)]; omega
  have E3 : true = Lv.neg (wd h0 l0 - wd h1 l1) := (decide_eq_true (by omega)).symm; have HE1 := Lib.hid E1; have HE2 := Lib.hid E2; have HE3 := Lib.hid E3; clear c1 c2 E1 E2 E3 e u0 u1 v0 v1 hlo hhi hlo2 hhi2; go_enter Try.func22, Try.ntmps22; go_wp2_with fail
  go_quiet (fail)
  go_wp2_with fail
  go_quiet (fail)
  go_wp2_with fail
  go_ret3
  exact ⟨ret_iib' HE1.out HE2.out HE3.out, _, rfl⟩
set_option maxHeartbeats 1000000 in
theorem all_B1 (h0 h1 l0 l1 : Int) (g : Nat) (w : World) (hb : Box w g 56 #[.int .u64 h0, .int .u64 h1, .int .u64 l0, .int .u64 l1]) (u0 : u64 h0) (u1 : u64 h1) (v0 : u64 l0) (v1 : u64 l1) (c1 : l1 < l0) (c2 : h0 < h1) :
    Calls Try.prog 22 #[.pointer (some ⟨g, 0, none⟩)] w fun e w' => e = .returned (.tuple #[.int .u64 (hi64 (Lv.abs (wd h0 l0 - wd h1 l1))), .int .u64 (lo64 (Lv.abs (wd h0 l0 - wd h1 l1))), .bool (Lv.neg (wd h0 l0 - wd h1 l1))]) ∧ ∃ n, w' = w.drewN n := by
  have b0 : w.cell? ⟨g, 0, none⟩ = some (.int .u64 h0) := hb.cell 0; have b1 : w.cell? ⟨g, 1, none⟩ = some (.int .u64 h1) := hb.cell 1; have b2 : w.cell? ⟨g, 2, none⟩ = some (.int .u64 l0) := hb.cell 2; have b3 : w.cell? ⟨g, 3, none⟩ = some (.int .u64 l1) := hb.cell 3; clear hb; have U0 := u0; have U1 := u1; have V0 := v0; have V1 := v1; obtain ⟨U0, U0'⟩ := U0; obtain ⟨U1, U1'⟩ := U1; obtain ⟨V0, V0'⟩ := V0; obtain ⟨V1, V1'⟩ := V1; obtain ⟨lo, hlo⟩ : ∃ lo, lo = l0 - l1 := ⟨_, rfl⟩; obtain ⟨hi, hhi⟩ : ∃ hi, hi = h0 - h1 + 18446744073709551616 := ⟨_, rfl⟩; have s1 := run_sub_is l0 l1 0 lo 0 v0 v1 (by omega) (by omega) ⟨by omega, by omega⟩ (by omega) (by omega) (by omega); have s2 := run_sub_is h0 h1 0 hi 1 u0 u1 (by omega) (by omega) ⟨by omega, by omega⟩ (by omega) (by omega) (by omega); obtain ⟨lo2, hlo2⟩ : ∃ lo2, lo2 = l1 - l0 + 18446744073709551616 := ⟨_, rfl⟩; obtain ⟨hi2, hhi2⟩ : ∃ hi2, hi2 = h1 - h0 - 1 := ⟨_, rfl⟩; have s3 := run_sub_is 0 lo 0 lo2 1 ⟨by omega, by omega⟩ ⟨by omega, by omega⟩ (by omega) (by omega) ⟨by omega, by omega⟩ (by omega) (by omega) (by omega); have s4 := run_sub_is 0 hi 1 hi2 1 ⟨by omega, by omega⟩ ⟨by omega, by omega⟩ (by omega) (by omega) ⟨by omega, by omega⟩ (by omega) (by omega) (by omega); have e : wd h0 l0 - wd h1 l1 < 0 := by unfold wd; omega
  have E1 : hi2 = hi64 (Lv.abs (wd h0 l0 - wd h1 l1)) := by unfold Lv.abs hi64 wd at *; rw [if_pos (by omega)]; omega
  have E2 : lo2 = lo64 (Lv.abs (wd h0 l0 - wd h1 l1)) := by unfold Lv.abs lo64 wd at *; rw [if_pos (by omega)]; omega
  have E3 : true = Lv.neg (wd h0 l0 - wd h1 l1) := (decide_eq_true (by omega)).symm; have HE1 := Lib.hid E1; have HE2 := Lib.hid E2; have HE3 := Lib.hid E3; clear c1 c2 E1 E2 E3 e u0 u1 v0 v1 hlo hhi hlo2 hhi2; go_enter Try.func22, Try.ntmps22; go_wp2_with fail
  go_quiet (fail)
  go_wp2_with fail
  go_quiet (fail)
  go_wp2_with fail
  go_ret3
  exact ⟨ret_iib' HE1.out HE2.out HE3.out, _, rfl⟩
set_option maxHeartbeats 1000000 in
theorem all_C (h0 h1 l0 l1 : Int) (g : Nat) (w : World) (hb : Box w g 56 #[.int .u64 h0, .int .u64 h1, .int .u64 l0, .int .u64 l1]) (u0 : u64 h0) (u1 : u64 h1) (v0 : u64 l0) (v1 : u64 l1) (c1 : l0 < l1) (c2 : h1 < h0) :
    Calls Try.prog 22 #[.pointer (some ⟨g, 0, none⟩)] w fun e w' => e = .returned (.tuple #[.int .u64 (hi64 (Lv.abs (wd h0 l0 - wd h1 l1))), .int .u64 (lo64 (Lv.abs (wd h0 l0 - wd h1 l1))), .bool (Lv.neg (wd h0 l0 - wd h1 l1))]) ∧ ∃ n, w' = w.drewN n := by
  have b0 : w.cell? ⟨g, 0, none⟩ = some (.int .u64 h0) := hb.cell 0; have b1 : w.cell? ⟨g, 1, none⟩ = some (.int .u64 h1) := hb.cell 1; have b2 : w.cell? ⟨g, 2, none⟩ = some (.int .u64 l0) := hb.cell 2; have b3 : w.cell? ⟨g, 3, none⟩ = some (.int .u64 l1) := hb.cell 3; clear hb; have U0 := u0; have U1 := u1; have V0 := v0; have V1 := v1; obtain ⟨U0, U0'⟩ := U0; obtain ⟨U1, U1'⟩ := U1; obtain ⟨V0, V0'⟩ := V0; obtain ⟨V1, V1'⟩ := V1; obtain ⟨lo, hlo⟩ : ∃ lo, lo = l0 - l1 + 18446744073709551616 := ⟨_, rfl⟩; obtain ⟨hi, hhi⟩ : ∃ hi, hi = h0 - h1 - 1 := ⟨_, rfl⟩; have s1 := run_sub_is l0 l1 0 lo 1 v0 v1 (by omega) (by omega) ⟨by omega, by omega⟩ (by omega) (by omega) (by omega); have s2 := run_sub_is h0 h1 1 hi 0 u0 u1 (by omega) (by omega) ⟨by omega, by omega⟩ (by omega) (by omega) (by omega); have e : 0 ≤ wd h0 l0 - wd h1 l1 := by unfold wd; omega
  have E1 : hi = hi64 (Lv.abs (wd h0 l0 - wd h1 l1)) := by unfold Lv.abs hi64 wd at *; rw [if_neg (by omega)]; omega
  have E2 : lo = lo64 (Lv.abs (wd h0 l0 - wd h1 l1)) := by unfold Lv.abs lo64 wd at *; rw [if_neg (by omega)]; omega
  have E3 : false = Lv.neg (wd h0 l0 - wd h1 l1) := (decide_eq_false (by omega)).symm; have HE1 := Lib.hid E1; have HE2 := Lib.hid E2; have HE3 := Lib.hid E3; clear c1 c2 E1 E2 E3 e u0 u1 v0 v1 hlo hhi; go_enter Try.func22, Try.ntmps22; go_wp2_with fail
  go_quiet (fail)
  go_wp2_with fail
  go_quiet (fail)
  go_wp2_with fail
  go_ret3
  exact ⟨ret_iib' HE1.out HE2.out HE3.out, _, rfl⟩
set_option maxHeartbeats 1000000 in
theorem all_D (h0 h1 l0 l1 : Int) (g : Nat) (w : World) (hb : Box w g 56 #[.int .u64 h0, .int .u64 h1, .int .u64 l0, .int .u64 l1]) (u0 : u64 h0) (u1 : u64 h1) (v0 : u64 l0) (v1 : u64 l1) (c1 : l0 < l1) (c2 : h0 ≤ h1) :
    Calls Try.prog 22 #[.pointer (some ⟨g, 0, none⟩)] w fun e w' => e = .returned (.tuple #[.int .u64 (hi64 (Lv.abs (wd h0 l0 - wd h1 l1))), .int .u64 (lo64 (Lv.abs (wd h0 l0 - wd h1 l1))), .bool (Lv.neg (wd h0 l0 - wd h1 l1))]) ∧ ∃ n, w' = w.drewN n := by
  have b0 : w.cell? ⟨g, 0, none⟩ = some (.int .u64 h0) := hb.cell 0; have b1 : w.cell? ⟨g, 1, none⟩ = some (.int .u64 h1) := hb.cell 1; have b2 : w.cell? ⟨g, 2, none⟩ = some (.int .u64 l0) := hb.cell 2; have b3 : w.cell? ⟨g, 3, none⟩ = some (.int .u64 l1) := hb.cell 3; clear hb; have U0 := u0; have U1 := u1; have V0 := v0; have V1 := v1; obtain ⟨U0, U0'⟩ := U0; obtain ⟨U1, U1'⟩ := U1; obtain ⟨V0, V0'⟩ := V0; obtain ⟨V1, V1'⟩ := V1; obtain ⟨lo, hlo⟩ : ∃ lo, lo = l0 - l1 + 18446744073709551616 := ⟨_, rfl⟩; obtain ⟨hi, hhi⟩ : ∃ hi, hi = h0 - h1 - 1 + 18446744073709551616 := ⟨_, rfl⟩; have s1 := run_sub_is l0 l1 0 lo 1 v0 v1 (by omega) (by omega) ⟨by omega, by omega⟩ (by omega) (by omega) (by omega); have s2 := run_sub_is h0 h1 1 hi 1 u0 u1 (by omega) (by omega) ⟨by omega, by omega⟩ (by omega) (by omega) (by omega); obtain ⟨lo2, hlo2⟩ : ∃ lo2, lo2 = l1 - l0 := ⟨_, rfl⟩; obtain ⟨hi2, hhi2⟩ : ∃ hi2, hi2 = h1 - h0 := ⟨_, rfl⟩; have s3 := run_sub_is 0 lo 0 lo2 1 ⟨by omega, by omega⟩ ⟨by omega, by omega⟩ (by omega) (by omega) ⟨by omega, by omega⟩ (by omega) (by omega) (by omega); have s4 := run_sub_is 0 hi 1 hi2 1 ⟨by omega, by omega⟩ ⟨by omega, by omega⟩ (by omega) (by omega) ⟨by omega, by omega⟩ (by omega) (by omega) (by omega); have e : wd h0 l0 - wd h1 l1 < 0 := by unfold wd; omega
  have E1 : hi2 = hi64 (Lv.abs (wd h0 l0 - wd h1 l1)) := by unfold Lv.abs hi64 wd at *; rw [if_pos (by omega)]; omega
  have E2 : lo2 = lo64 (Lv.abs (wd h0 l0 - wd h1 l1)) := by unfold Lv.abs lo64 wd at *; rw [if_pos (by omega)]; omega
  have E3 : true = Lv.neg (wd h0 l0 - wd h1 l1) := (decide_eq_true (by omega)).symm; have HE1 := Lib.hid E1; have HE2 := Lib.hid E2; have HE3 := Lib.hid E3; clear c1 c2 E1 E2 E3 e u0 u1 v0 v1 hlo hhi hlo2 hhi2; go_enter Try.func22, Try.ntmps22; go_wp2_with fail
  go_quiet (fail)
  go_wp2_with fail
  go_quiet (fail)
  go_wp2_with fail
  go_ret3
  exact ⟨ret_iib' HE1.out HE2.out HE3.out, _, rfl⟩
theorem all_any (h0 h1 l0 l1 : Int) (g : Nat) (w : World) (hb : Box w g 56 #[.int .u64 h0, .int .u64 h1, .int .u64 l0, .int .u64 l1]) (u0 : u64 h0) (u1 : u64 h1) (v0 : u64 l0) (v1 : u64 l1) :
    Calls Try.prog 22 #[.pointer (some ⟨g, 0, none⟩)] w fun e w' => e = .returned (.tuple #[.int .u64 (hi64 (Lv.abs (wd h0 l0 - wd h1 l1))), .int .u64 (lo64 (Lv.abs (wd h0 l0 - wd h1 l1))), .bool (Lv.neg (wd h0 l0 - wd h1 l1))]) ∧ ∃ n, w' = w.drewN n := by
  by_cases c1 : l0 < l1
  · by_cases c2 : h1 < h0
    · exact all_C h0 h1 l0 l1 g w hb u0 u1 v0 v1 c1 c2
    · exact all_D h0 h1 l0 l1 g w hb u0 u1 v0 v1 c1 (by omega)
  · by_cases c2 : h1 ≤ h0
    · exact all_A h0 h1 l0 l1 g w hb u0 u1 v0 v1 (by omega) c2
    · by_cases c3 : l1 = l0
      · exact all_B0 h0 h1 l0 l1 g w hb u0 u1 v0 v1 c3 (by omega)
      · exact all_B1 h0 h1 l0 l1 g w hb u0 u1 v0 v1 (by omega) (by omega)
end Go.Proofs.Ytbgpbopnfodjoaa

namespace Go.Proofs.Ytbgpbopnfodjoaa.Lv
open Go
def up : List Int → Int
  | [] => 0
  | a :: l => (if a < 0 then 0 else a) + up l
def down : List Int → Int
  | [] => 0
  | a :: l => (if a < 0 then -a else 0) + down l
def total : List Int → Int
  | [] => 0
  | a :: l => a + total l
def All64 (l : List Int) : Prop := ∀ a ∈ l, i64 a
theorem up_append (l m : List Int) : up (l ++ m) = up l + up m := by
  induction l with
  | nil => simp [up]
  | cons a l ih => simp only [List.cons_append, up, ih]; omega
theorem down_append (l m : List Int) : down (l ++ m) = down l + down m := by
  induction l with
  | nil => simp [down]
  | cons a l ih => simp only [List.cons_append, down, ih]; omega
theorem up_down (l : List Int) : up l - down l = total l := by
  induction l with
  | nil => simp [up, down, total]
  | cons a l ih => simp only [up, down, total]; split <;> omega
theorem up_bounds (l : List Int) (h : All64 l) : 0 ≤ up l ∧ up l ≤ 9223372036854775808 * l.length ∧ 0 ≤ down l ∧ down l ≤ 9223372036854775808 * l.length := by
  induction l with
  | nil => simp [up, down]
  | cons a l ih =>
    have ih := ih (fun b hb => h b (List.mem_cons_of_mem _ hb)); have ha := h a (List.mem_cons_self ..); obtain ⟨h1, h2⟩ := ha
    simp only [up, down, List.length_cons]
    split <;> omega
theorem All64.take {l : List Int} (h : All64 l) (k : Nat) : All64 (l.take k) := fun a ha => h a (List.mem_of_mem_take ha)
theorem take_snoc (l : List Int) (k : Nat) (h : k < l.length) : l.take (k + 1) = l.take k ++ [l.getD k 0] := by
  rw [List.take_succ_eq_append_getElem h]; simp [h]
theorem All64.get {l : List Int} (h : All64 l) {k : Nat} (hk : k < l.length) : i64 (l.getD k 0) := by
  have : l.getD k 0 = l[k] := by simp [hk]
  rw [this]; exact h _ (List.getElem_mem hk)
theorem hi_add {u s : Int} (u0 : 0 ≤ u) (u1 : u < 170141183460469231731687303715884105728) (s0 : 0 ≤ s) (s1 : s ≤ 18446744073709551615) : hi64 u + (lo64 u + s) / 18446744073709551616 = hi64 (u + s) := by unfold hi64 lo64; omega
theorem lo_add (u s : Int) : (lo64 u + s) % 18446744073709551616 = lo64 (u + s) := by unfold lo64; omega
theorem hi_small {u : Int} (u0 : 0 ≤ u) (u1 : u < 170141183460469231731687303715884105728) : hi64 u < 18446744073709551615 := by unfold hi64; omega
theorem up_snoc (l : List Int) (a : Int) : up (l ++ [a]) = up l + (if a < 0 then 0 else a) := by rw [up_append]; simp [up]
theorem down_snoc (l : List Int) (a : Int) : down (l ++ [a]) = down l + (if a < 0 then -a else 0) := by rw [down_append]; simp [down]
theorem abs_sub_lt {u d : Int} (u0 : 0 ≤ u) (u1 : u < 170141183460469231731687303715884105728) (d0 : 0 ≤ d) (d1 : d < 170141183460469231731687303715884105728) : 0 ≤ abs (u - d) ∧ abs (u - d) < 170141183460469231731687303715884105728 := by
  unfold abs; split <;> omega
def dSum (l : List Int) : Int × Bool := fit (total l)
def dMean (l : List Int) : Int × Bool := if l = [] then (0, false) else fit (sg (neg (total l)) (rnd (abs (total l)) l.length))
end Go.Proofs.Ytbgpbopnfodjoaa.Lv
