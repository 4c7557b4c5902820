/- Layer 1: Parse, walked. -/
import Derived.Test.YtingopdeckgpaaaWDigits
import Derived.Test.YtingopdeckgpaaaWDec1
import Derived.Lib.ConvBytes
namespace Go.Proofs.Ytingopdeckgpaaa
set_option linter.unusedVariables false
set_option linter.unusedSimpArgs false
open Go.RowKit Lv

theorem ba_extract (l : List UInt8) (i j : Nat) : (ByteArray.mk l.toArray).extract i j = ⟨((l.take j).drop i).toArray⟩ := bytes_of (extract_list l i j)
theorem ba_size (l : List UInt8) : (ByteArray.mk l.toArray).size = l.length := rfl
theorem ba_append (l m : List UInt8) : (ByteArray.mk l.toArray) ++ (ByteArray.mk m.toArray) = ⟨(l ++ m).toArray⟩ := by
  refine bytes_of ?_
  simp

theorem bytes_kept (w : World) (e : TypeId) (s : ByteArray) : Kept w (Lib.bytesWorld w e s) where
  os := rfl
  tape := rfl
  output := rfl
  size := by rw [Lib.bytesWorld_size]; omega
  block := fun k hk => Lib.bytesWorld_at_old w e s k hk
theorem conv_bytes (s : ByteArray) (w : World) : (convert 9 71 (.string s)).run Try.prog w = .ok (.slice (some ⟨w.heap.size, 0, none⟩) s.size (grownCap w s.size 0 5)) (Lib.bytesWorld w 5 s) :=
  Lib.run_convert_string_bytes w _ _ _ s Try.underlying9 Try.underlying71 Try.underlying5

theorem wrap_u64_0 (x : Int) : 0 ≤ IntKind.u64.wrap x := by have e : IntKind.u64.wrap x = x % 18446744073709551616 := rfl; omega
theorem wrap_u64_1 (x : Int) : IntKind.u64.wrap x ≤ 18446744073709551615 := by have e : IntKind.u64.wrap x = x % 18446744073709551616 := rfl; omega
theorem all_digits {L : List UInt8} (h : ∀ c ∈ L, isD c = true) : Hid (∀ k (hk : k < L.length), 48 ≤ L[k].toNat ∧ L[k].toNat ≤ 57) := fun k hk => isD_iff.1 (h _ (List.getElem_mem hk))
theorem bytes_cells (w : World) (L : List UInt8) : ∀ j (hj : j < L.length), (Lib.bytesWorld w 5 ⟨L.toArray⟩).cell? ⟨w.heap.size, j, none⟩ = some (.int .u8 L[j].toNat) := fun j hj => by
  rw [Lib.bytesWorld_cell w _ ⟨L.toArray⟩ j hj]
  simp [hj]

set_option maxHeartbeats 800000 in
theorem parse_neg_whole (m : List UInt8) (w : World) (hs : m.length ≤ 2000) (n0 : 0 < m.length) (hn : nd m = m.length) :
    Calls Try.prog 42 #[.string ⟨(45 :: m).toArray⟩] w fun e w' => e = .returned (.tuple #[.int .i64 (Lv.read true m).1, .int .i64 (Lv.read true m).2]) ∧ Kept w w' := by
  have X := ba_extract
  have Z := ba_size
  have Y := ba_append
  have D := fun w => digits_any ⟨m.toArray⟩ w (by rw [ba_size]; omega)
  rw [show nd (ByteArray.mk m.toArray).data.toList = m.length from hn] at D
  have HD := Lib.hid D
  have HN := Lib.hid hn
  clear D hn
  have lp : (0 : Int) < ((45 :: m).length : Int) := by simp
  have b0 : (((ByteArray.mk (45 :: m).toArray)[0]'(by rw [ba_size]; simp)).toNat : Int) = 45 := rfl
  have t1 : m.take m.length = m := List.take_length
  have t2 : m.drop m.length = [] := List.drop_length
  have n1 : ((m.length : Int) == 0) = false := by rw [beq_eq_false_iff_ne]; omega
  go_enter Try.func42, Try.ntmps42
  go_wp2_with fail
  refine (HD.out _).mono ?_
  rintro e w' ⟨rfl, rfl⟩
  go_wp2_with fail
  go_region
  have CV := conv_bytes
  have AD := all_digits (L := m ++ [48, 48, 48, 48]) (by
    intro c hc
    rcases List.mem_append.1 hc with hc | hc
    · exact nd_all HN.out c hc
    · simp at hc; subst hc; rfl)
  have E : Hid (Lv.read true m = if (val (m ++ [48, 48, 48, 48]) : Int) + 0 ≤ 9223372036854775807 then (sg true ((val (m ++ [48, 48, 48, 48]) : Int) + 0), 0) else (0, 3)) := by
    show _ = _
    unfold Lv.read
    rw [HN.out, if_neg (by omega), List.drop_length, List.take_length]
    rfl
  go_wp2_with fail
  have HC := Lib.hid (bytes_cells w.drew (m ++ [48, 48, 48, 48]))
  have HK : Kept w (Lib.bytesWorld w.drew 5 ⟨(m ++ [48, 48, 48, 48]).toArray⟩) := Kept.trans ((Kept.refl w).drew) (bytes_kept _ _ _)
  have hl : (m ++ [48, 48, 48, 48] : List UInt8).length = m.length + 4 := by simp
  generalize Lib.bytesWorld w.drew 5 ⟨(m ++ [48, 48, 48, 48]).toArray⟩ = wb at *
  clear CV
  generalize m ++ [48, 48, 48, 48] = L at *
  go_loop [9, 10, 67] (fun x y i => ∃ (k : Nat) (v : Int), k ≤ L.length ∧ i = .int .i64 k ∧ x = .int .u64 v ∧ 0 ≤ v ∧ v ≤ 18446744073709551615 ∧ y = .bool (decide (9223372036854775807 < val (L.take k))) ∧ (val (L.take k) ≤ 9223372036854775807 → v = val (L.take k))) (fun _ _ i => L.length - (intOf i).toNat)
  case atStart => exact ⟨0, 0, by omega, rfl, rfl, by omega, by omega, by simp [val], by simp [val]⟩
  case round =>
    obtain ⟨k, v, hk, rfl, rfl, v0, v1, rfl, hv⟩ := hrel
    have HV := Lib.hid hv
    clear hv
    by_cases c : k < L.length
    · have cell := HC.out k c
      have ad := AD.out k c
      obtain ⟨a1, a2⟩ := ad
      have vt := val_take c
      obtain ⟨d, hd⟩ : ∃ d : Nat, d = L[k].toNat := ⟨_, rfl⟩
      rw [← hd] at cell a1 a2 vt
      clear hd
      have VT := Lib.hid vt
      have wo : (wb.cell? ⟨w.heap.size, k, none⟩) = some (.int .u8 d) := cell
      by_cases g : 9223372036854775807 < val (L.take k)
      · have G : Hid (9223372036854775807 < val (L.take (k + 1))) := by show _ < _; omega
        rw [decide_eq_true g]
        clear g vt cell
        by_cases vb : 922337203685477580 < v
        · go_wp2_with fail
          go_round
          case rel => exact ⟨k + 1, _, by omega, by go_num, rfl, by (first | exact wrap_u64_0 _ | omega), by (first | exact wrap_u64_1 _ | omega), by rw [decide_eq_true G.out], fun h => absurd h (by have := G.out; omega)⟩
          case measure => simp [intOf]; omega
        · go_wp2_with fail
          go_round
          case rel => exact ⟨k + 1, _, by omega, by go_num, rfl, by (first | exact wrap_u64_0 _ | omega), by (first | exact wrap_u64_1 _ | omega), by rw [decide_eq_true G.out], fun h => absurd h (by have := G.out; omega)⟩
          case measure => simp [intOf]; omega
      · obtain rfl : v = (val (L.take k) : Int) := HV.out (by omega)
        rw [decide_eq_false g]
        clear cell
        generalize val (L.take k) = V at *
        by_cases vb : 922337203685477580 < V
        · have G : Hid (9223372036854775807 < val (L.take (k + 1))) := by show _ < _; omega
          clear vt
          go_wp2_with fail
          go_round
          case rel => exact ⟨k + 1, _, by omega, by go_num, rfl, by (first | exact wrap_u64_0 _ | omega), by (first | exact wrap_u64_1 _ | omega), by rw [decide_eq_true G.out], fun h => absurd h (by have := G.out; omega)⟩
          case measure => simp [intOf]; omega
        · have G1 : Hid (val (L.take (k + 1)) = 10 * V + (d - 48)) := vt
          clear vt
          by_cases vc : 9223372036854775807 < 10 * V + (d - 48)
          · go_wp2_with fail
            go_round
            case rel => exact ⟨k + 1, ((10 * V + (d - 48) : Nat) : Int), by omega, by go_num, by congr 1; omega, by omega, by omega, by rw [G1.out, decide_eq_true vc]; first | rfl | exact congrArg Value.bool (decide_eq_true (by omega)), fun _ => by rw [G1.out]⟩
            case measure => simp [intOf]; omega
          · go_wp2_with fail
            go_round
            case rel => exact ⟨k + 1, ((10 * V + (d - 48) : Nat) : Int), by omega, by go_num, by congr 1; omega, by omega, by omega, by rw [G1.out, decide_eq_false vc]; first | rfl | exact congrArg Value.bool (decide_eq_false (by omega)), fun _ => by rw [G1.out]⟩
            case measure => simp [intOf]; omega
    · obtain rfl : k = L.length := by omega
      rw [List.take_length] at HV
      rw [List.take_length]
      by_cases g : 9223372036854775807 < val L
      · have E2 : Hid (Lv.read true m = (0, 3)) := by rw [E.out, if_neg (by omega)]; rfl
        rw [decide_eq_true g]
        clear g
        go_wp2_with fail
        go_ret2
        exact ⟨ret_ii (by rw [E2.out]) (by rw [E2.out]), (by repeat (first | with_reducible exact Kept.refl _ | with_reducible apply Kept.drew | with_reducible apply Kept.drewN | with_reducible apply Kept.alloc | (with_reducible refine Kept.setCellX ?_ ?_ _; focus (first | (simp; done) | (simp; omega))) | (with_reducible refine Kept.trans ?_ (by assumption))))⟩
      · obtain rfl : v = (val L : Int) := HV.out (by omega)
        have E2 : Hid (Lv.read true m = (-(val L : Int), 0)) := by rw [E.out, if_pos (by omega), Int.add_zero]; rfl
        rw [decide_eq_false g]
        have Sg := fun w => signed_any 0 (val L : Int) true w ⟨by omega, by omega⟩ ⟨by omega, by omega⟩
        rw [Int.zero_mul, Int.zero_add, show sg true (val L : Int) = -(val L : Int) from rfl, fit_in (by omega) (by omega)] at Sg
        have HS := Lib.hid Sg
        clear Sg
        generalize val L = V at *
        go_wp2_with fail
        refine (HS.out _).mono ?_
        rintro e w' ⟨rfl, rfl⟩
        go_wp2_with fail
        go_ret2
        exact ⟨ret_ii (by rw [E2.out]) (by rw [E2.out]), (by repeat (first | with_reducible exact Kept.refl _ | with_reducible apply Kept.drew | with_reducible apply Kept.drewN | with_reducible apply Kept.alloc | (with_reducible refine Kept.setCellX ?_ ?_ _; focus (first | (simp; done) | (simp; omega))) | (with_reducible refine Kept.trans ?_ (by assumption))))⟩
end Go.Proofs.Ytingopdeckgpaaa
