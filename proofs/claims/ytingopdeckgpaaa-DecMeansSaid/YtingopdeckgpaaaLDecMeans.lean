/- The law DecMeans, walked. -/
import Derived.Test.YtingopdeckgpaaaInts
import Derived.Test.YtingopdeckgpaaaMMeans
import Derived.Test.YtingopdeckgpaaaWArgs
import Derived.Test.YtingopdeckgpaaaMRoot
namespace Go.Proofs.Ytingopdeckgpaaa
set_option linter.unusedVariables false
set_option linter.unusedSimpArgs false
open Go.RowKit Lv

theorem tmod_range (a : Int) {d : Nat} (h : 0 < d) : -(d : Int) < a.tmod d ∧ a.tmod d < d := by
  have h1 := Int.tmod_lt_of_pos a (b := (d : Int)) (by omega)
  have h2 := Int.tmod_lt_of_pos (-a) (b := (d : Int)) (by omega)
  rw [Int.neg_tmod] at h2
  omega
theorem tmod9 (a : Int) : -9 < a.tmod 9 ∧ a.tmod 9 < 9 := by
  have h := tmod_range a (d := 9) (by omega)
  exact h
theorem bool_self (a : Bool) : (a != a) = false := by cases a <;> rfl
theorem drop_get {l : List Int} {i : Nat} (h : i < l.length) : l.drop i = l.getD i 0 :: l.drop (i + 1) := by
  rw [List.drop_eq_getElem_cons h]
  simp [h]

set_option maxHeartbeats 4000000 in
set_option maxRecDepth 100000 in
theorem DecMeans_walk (a0 : Option Addr) (len0 cap0 : Nat) (z0 : List Int) (a1 : Int) (a2 : Int) (w : World) (w0 : IsRow .i64 w a0 len0 cap0 z0) (w1 : (Lit.int .i64 a1).wf = true) (w2 : (Lit.int .i64 a2).wf = true) :
    Calls Try.prog 6 #[.slice a0 len0 cap0, .int .i64 a1, .int .i64 a2] w fun e w' => e = .returned (.bool true) ∧ Below w.heap.size w w' := by
  obtain ⟨hr, h64, hlen, hmax⟩ := w0.row
  have h1 := i64_of_lit w1
  have h2 := i64_of_lit w2
  have KN := Lib.hid known_any
  clear w1 w2
  by_cases c100 : 100 < len0
  · clear hr h64 hlen
    go_enter Try.func6, Try.ntmps6
    go_wp2_with fail
    refine (KN.out _).mono ?_
    rintro e w' ⟨rfl, k1⟩
    go_wp2_with fail
    go_ret
    exact ⟨rfl, (by repeat (first | with_reducible exact Kept.refl _ | with_reducible apply Kept.drew | with_reducible apply Kept.drewN | with_reducible apply Kept.alloc | (with_reducible refine Kept.setCellX ?_ ?_ _; focus (first | (simp; done) | (simp; omega))) | (with_reducible refine Kept.trans ?_ (by assumption))))⟩
  · by_cases c0 : len0 = 0
    · have c0' : ((len0 : Int) == 0) = true := by rw [c0]; rfl
      clear hr h64 hlen
      go_enter Try.func6, Try.ntmps6
      go_wp2_with fail
      refine (KN.out _).mono ?_
      rintro e w' ⟨rfl, k1⟩
      go_wp2_with fail
      go_ret
      exact ⟨rfl, (by repeat (first | with_reducible exact Kept.refl _ | with_reducible apply Kept.drew | with_reducible apply Kept.drewN | with_reducible apply Kept.alloc | (with_reducible refine Kept.setCellX ?_ ?_ _; focus (first | (simp; done) | (simp; omega))) | (with_reducible refine Kept.trans ?_ (by assumption))))⟩
    · have hcap : len0 ≤ cap0 := by
        rcases w0 with ⟨_, h, _, _⟩ | ⟨x, _, h, _⟩
        · omega
        · exact h
      clear w0
      generalize z0.take len0 = l at *
      obtain ⟨b, off, rfl, hb, hc0⟩ := hr 0 (by omega)
      subst hlen
      have lp : 0 < l.length := by omega
      have c0' : ((l.length : Int) == 0) = false := by rw [beq_eq_false_iff_ne]; omega
      have HR := Lib.hid hr
      have H64 := Lib.hid h64
      have g0 := h64.get lp
      obtain ⟨x0, hx0⟩ : ∃ x, x = l.getD 0 0 := ⟨_, rfl⟩
      rw [← hx0] at hc0 g0
      rw [Nat.add_zero] at hc0
      have HX := Lib.hid hx0
      clear hr h64 hx0 c0
      obtain ⟨g1, g2⟩ := g0
      go_enter Try.func6, Try.ntmps6
      go_wp2_with fail
      go_region
      go_wp2_with fail
      go_loopw [7, 8, 9, 10] (fun s x y i wr => ∃ (k : Nat) (L G : Int), k ≤ l.length ∧ i = .int .i64 ((k : Int) - 1) ∧ x = .int .i64 L ∧ y = .int .i64 G ∧ -9223372036854775808 ≤ L ∧ L ≤ 9223372036854775807 ∧ -9223372036854775808 ≤ G ∧ G ≤ 9223372036854775807 ∧ OwnI wr w.heap.size s (l.drop k).reverse ∧ Kept w wr ∧ L ≤ x0 ∧ x0 ≤ G ∧ (∀ x ∈ l.drop k, L ≤ x ∧ x ≤ G)) (fun _ _ _ i _ => (intOf i + 1).toNat)
      case atStart => exact ⟨l.length, x0, x0, by omega, rfl, rfl, rfl, g1, g2, g1, g2, by rw [List.drop_length]; exact OwnI.nil _ _, (by repeat (first | with_reducible exact Kept.refl _ | with_reducible apply Kept.drew | with_reducible apply Kept.drewN | with_reducible apply Kept.alloc | (with_reducible refine Kept.setCellX ?_ ?_ _; focus (first | (simp; done) | (simp; omega))) | (with_reducible refine Kept.trans ?_ (by assumption)))), by omega, by omega, by rw [List.drop_length]; simp⟩
      case round =>
        obtain ⟨k, L, G, hk, rfl, rfl, rfl, l1, l2, m1, m2, own, hkept, lx, xg, hall⟩ := hrel
        rcases k with _ | k
        · rw [List.drop_zero] at own hall
          have ne : l ≠ [] := by intro e; rw [e] at lp; simp at lp
          obtain ⟨A, cap, rfl, row⟩ := own.row
          rw [List.length_reverse]
          have r1 := HR.out.kept hkept
          have R64 : All64 l.reverse := fun a ha => H64.out a (List.mem_reverse.1 ha)
          have S1 := Lib.hid (fun wx (kx : Kept wr wx) => sum_any (some ⟨b, off, none⟩) cap0 l wx (r1.kept kx) H64.out (by omega))
          have M1 := fun wx (kx : Kept wr wx) => mean_any (some ⟨b, off, none⟩) cap0 l wx (r1.kept kx) H64.out (by omega)
          have S2 := fun wx (kx : Kept wr wx) => sum_any A cap l.reverse wx (row.kept kx) R64 (by rw [List.length_reverse]; omega)
          have M2 := fun wx (kx : Kept wr wx) => mean_any A cap l.reverse wx (row.kept kx) R64 (by rw [List.length_reverse]; omega)
          rw [dSum_reverse, List.length_reverse] at S2
          rw [dMean_reverse, List.length_reverse] at M2
          obtain ⟨K, hK, hK2⟩ : ∃ K : Nat, (a1.tmod (l.length : Int) + (l.length : Int)).tmod (l.length : Int) = (K : Int) ∧ K < l.length := by
            have h1 := tmod_range a1 lp
            have h3 := Int.tmod_nonneg (l.length : Int) (a := a1.tmod (l.length : Int) + (l.length : Int)) (by omega)
            have h4 := (tmod_range (a1.tmod (l.length : Int) + (l.length : Int)) lp).2
            exact ⟨((a1.tmod (l.length : Int) + (l.length : Int)).tmod (l.length : Int)).toNat, by omega, by omega⟩
          obtain ⟨C, hC, hC2⟩ : ∃ C : Nat, (a2.tmod 9 + 9).tmod 9 = (C : Int) ∧ C < 9 := by
            have h1 := tmod9 a2
            have h3 := Int.tmod_nonneg 9 (a := a2.tmod 9 + 9) (by omega)
            have h4 := (tmod9 (a2.tmod 9 + 9)).2
            exact ⟨((a2.tmod 9 + 9).tmod 9).toNat, by omega, by omega⟩
          have t1 := tmod_range a1 lp
          have t2 := tmod9 a2
          obtain ⟨t11, t12⟩ := t1
          obtain ⟨t21, t22⟩ := t2
          have tk : (l.take K).length = K := by rw [List.length_take]; omega
          have td : (l.drop K).length = l.length - K := List.length_drop
          have D64 : All64 (l.drop K) := fun a ha => H64.out a (List.mem_of_mem_drop ha)
          have S3 := fun cx wx (kx : Kept wr wx) => sum_any (some ⟨b, off, none⟩) cx (l.take K) wx ((r1.take K).kept kx) (H64.out.take K) (by omega)
          have S4 := fun cx wx (kx : Kept wr wx) => sum_any (some ⟨b, off + K, none⟩) cx (l.drop K) wx ((r1.drop K).kept kx) D64 (by omega)
          rw [tk] at S3
          rw [td] at S4
          have ci := r1 K hK2
          obtain ⟨b2, off2, e2, _, cK⟩ := ci
          cases e2
          have gv := H64.out.get hK2
          generalize l.getD K 0 = v at *
          have HCK := Lib.hid cK
          have J := Lib.hid (dSum_join (l := l.take K) (m := l.drop K))
          rw [List.take_append_drop] at J
          have A2 := fun w => add2_any (dSum (l.take K)).1 (dSum (l.drop K)).1 w (fit_i64 _) (fit_i64 _)
          have HA2 := Lib.hid A2
          have HS2 := Lib.hid S2; have HM1 := Lib.hid M1; have HM2 := Lib.hid M2; have HS3 := Lib.hid S3; have HS4 := Lib.hid S4
          have MC := dMean_cases ne hall m2
          clear S2 M1 M2 S3 S4 A2 cK row own hall lx xg tk td D64 R64 r1
          have fin : (dSum (l.take K)).2 = false ∨ ((dSum (l.take K)).2 = true ∧ (dSum (l.drop K)).2 = false) ∨ ((dSum (l.take K)).2 = true ∧ (dSum (l.drop K)).2 = true) := by
            cases (dSum (l.take K)).2 <;> cases (dSum (l.drop K)).2 <;> simp
          have go1 : ((dMean l).2 = true ∧ (L ≤ (dMean l).1 ∧ (dMean l).1 ≤ G)) ∨ ((dMean l).2 = false ∧ L < -9223372036854775807) := MC
          clear MC
          generalize dMean l = dm at *
          generalize dSum (l.take K) = d1 at *
          generalize dSum (l.drop K) = d2 at *
          rcases go1 with ⟨o1, o2, o3⟩ | ⟨o1, o2⟩ <;> rcases fin with f1 | ⟨f1, f2⟩ | ⟨f1, f2⟩
          · have kx := Kept.refl wr
            go_wp2_with fail
            refine (S1.out _ kx).mono ?_
            rintro e w1 ⟨rfl, k'⟩
            have kx := kx.trans k'
            clear k'
            go_wp2_with fail
            refine (HS2.out _ kx).mono ?_
            rintro e w2 ⟨rfl, k'⟩
            have kx := kx.trans k'
            clear k'
            go_wp2_with fail
            refine (HM1.out _ kx).mono ?_
            rintro e w3 ⟨rfl, k'⟩
            have kx := kx.trans k'
            clear k'
            go_wp2_with fail
            refine (HM2.out _ kx).mono ?_
            rintro e w4 ⟨rfl, k'⟩
            have kx := kx.trans k'
            clear k'
            go_wp2_with fail
            refine (HS3.out _ _ kx).mono ?_
            rintro e w5 ⟨rfl, k'⟩
            have kx := kx.trans k'
            clear k'
            go_wp2_with fail
            refine (HS4.out _ _ kx).mono ?_
            rintro e w6 ⟨rfl, k'⟩
            have kx := kx.trans k'
            clear k'
            go_wp2_with fail
            go_loopw [26, 27] (fun s i wx => ∃ j : Nat, j ≤ C + 1 ∧ i = .int .i64 j ∧ OwnI wx wr.heap.size s (List.replicate j v) ∧ Kept wr wx) (fun _ i _ => C + 1 - (intOf i).toNat)
            case atStart => exact ⟨0, by omega, rfl, OwnI.nil _ _, kx⟩
            case round =>
              obtain ⟨j, hj, rfl, own2, kx2⟩ := hrel
              by_cases cj : j < C + 1
              · have ho := Lib.hid (OwnI.alloc own2 (Obj.cells #[.int .i64 v] 2))
                have hc2 := (kx2.cell (p := ⟨b, off + K, none⟩) (World.block_lt_of_cell? _ _ HCK.out)).trans HCK.out
                clear own2
                go_wp2_with (refine append_int rfl (.tmp 180) (.tmp 185) rfl _ u26 _ rfl ho.out wr.heap.size 1 v rfl (by simp [go_sem]) (by simp; omega) (by have := kx2.size; simp; omega) ?_; intro v1 w1 o1 gr)
                have k1 := ho.out.grown (Nat.le_refl _) (kx2.alloc _) gr
                go_roundw
                case rel => exact ⟨j + 1, by omega, by go_num, by rw [List.replicate_succ']; exact o1, k1⟩
                case measure => (simp [intOf]; try omega)
              · obtain rfl : j = C + 1 := by omega
                obtain ⟨A3, cap3, rfl, row3⟩ := own2.row
                rw [List.length_replicate]
                have M3 := fun wx => mean_any A3 cap3 (List.replicate (C + 1) v) wx
                rw [List.length_replicate, dMean_same v (by omega)] at M3
                have M4 := Lib.hid (M3 _ row3 (fun a ha => by have := List.eq_of_mem_replicate ha; subst this; exact gv) (by omega))
                clear M3 own2 row3
                have hc2 := (kx2.cell (p := ⟨b, off + K, none⟩) (World.block_lt_of_cell? _ _ HCK.out)).trans HCK.out
                by_cases vm : -9223372036854775807 ≤ v
                · rw [fit_in vm gv.2] at M4
                  go_wp2_with fail
                  refine M4.out.mono ?_
                  rintro e w8 ⟨rfl, k8⟩
                  have hc8 := (k8.cell (p := ⟨b, off + K, none⟩) (World.block_lt_of_cell? _ _ hc2)).trans hc2
                  go_wp2_with fail
                  refine (KN.out _).mono ?_
                  rintro e w9 ⟨rfl, k9⟩
                  go_wp2_with fail
                  go_ret
                  exact ⟨rfl, ((hkept.trans kx2).trans k8).trans k9⟩
                · rw [fit_out (by omega)] at M4
                  go_wp2_with fail
                  refine M4.out.mono ?_
                  rintro e w8 ⟨rfl, k8⟩
                  have hc8 := (k8.cell (p := ⟨b, off + K, none⟩) (World.block_lt_of_cell? _ _ hc2)).trans hc2
                  go_wp2_with fail
                  refine (KN.out _).mono ?_
                  rintro e w9 ⟨rfl, k9⟩
                  go_wp2_with fail
                  go_ret
                  exact ⟨rfl, ((hkept.trans kx2).trans k8).trans k9⟩
          · have kx := Kept.refl wr
            go_wp2_with fail
            refine (S1.out _ kx).mono ?_
            rintro e w1 ⟨rfl, k'⟩
            have kx := kx.trans k'
            clear k'
            go_wp2_with fail
            refine (HS2.out _ kx).mono ?_
            rintro e w2 ⟨rfl, k'⟩
            have kx := kx.trans k'
            clear k'
            go_wp2_with fail
            refine (HM1.out _ kx).mono ?_
            rintro e w3 ⟨rfl, k'⟩
            have kx := kx.trans k'
            clear k'
            go_wp2_with fail
            refine (HM2.out _ kx).mono ?_
            rintro e w4 ⟨rfl, k'⟩
            have kx := kx.trans k'
            clear k'
            go_wp2_with fail
            refine (HS3.out _ _ kx).mono ?_
            rintro e w5 ⟨rfl, k'⟩
            have kx := kx.trans k'
            clear k'
            go_wp2_with fail
            refine (HS4.out _ _ kx).mono ?_
            rintro e w6 ⟨rfl, k'⟩
            have kx := kx.trans k'
            clear k'
            go_wp2_with fail
            go_loopw [26, 27] (fun s i wx => ∃ j : Nat, j ≤ C + 1 ∧ i = .int .i64 j ∧ OwnI wx wr.heap.size s (List.replicate j v) ∧ Kept wr wx) (fun _ i _ => C + 1 - (intOf i).toNat)
            case atStart => exact ⟨0, by omega, rfl, OwnI.nil _ _, kx⟩
            case round =>
              obtain ⟨j, hj, rfl, own2, kx2⟩ := hrel
              by_cases cj : j < C + 1
              · have ho := Lib.hid (OwnI.alloc own2 (Obj.cells #[.int .i64 v] 2))
                have hc2 := (kx2.cell (p := ⟨b, off + K, none⟩) (World.block_lt_of_cell? _ _ HCK.out)).trans HCK.out
                clear own2
                go_wp2_with (refine append_int rfl (.tmp 180) (.tmp 185) rfl _ u26 _ rfl ho.out wr.heap.size 1 v rfl (by simp [go_sem]) (by simp; omega) (by have := kx2.size; simp; omega) ?_; intro v1 w1 o1 gr)
                have k1 := ho.out.grown (Nat.le_refl _) (kx2.alloc _) gr
                go_roundw
                case rel => exact ⟨j + 1, by omega, by go_num, by rw [List.replicate_succ']; exact o1, k1⟩
                case measure => (simp [intOf]; try omega)
              · obtain rfl : j = C + 1 := by omega
                obtain ⟨A3, cap3, rfl, row3⟩ := own2.row
                rw [List.length_replicate]
                have M3 := fun wx => mean_any A3 cap3 (List.replicate (C + 1) v) wx
                rw [List.length_replicate, dMean_same v (by omega)] at M3
                have M4 := Lib.hid (M3 _ row3 (fun a ha => by have := List.eq_of_mem_replicate ha; subst this; exact gv) (by omega))
                clear M3 own2 row3
                have hc2 := (kx2.cell (p := ⟨b, off + K, none⟩) (World.block_lt_of_cell? _ _ HCK.out)).trans HCK.out
                by_cases vm : -9223372036854775807 ≤ v
                · rw [fit_in vm gv.2] at M4
                  go_wp2_with fail
                  refine M4.out.mono ?_
                  rintro e w8 ⟨rfl, k8⟩
                  have hc8 := (k8.cell (p := ⟨b, off + K, none⟩) (World.block_lt_of_cell? _ _ hc2)).trans hc2
                  go_wp2_with fail
                  refine (KN.out _).mono ?_
                  rintro e w9 ⟨rfl, k9⟩
                  go_wp2_with fail
                  go_ret
                  exact ⟨rfl, ((hkept.trans kx2).trans k8).trans k9⟩
                · rw [fit_out (by omega)] at M4
                  go_wp2_with fail
                  refine M4.out.mono ?_
                  rintro e w8 ⟨rfl, k8⟩
                  have hc8 := (k8.cell (p := ⟨b, off + K, none⟩) (World.block_lt_of_cell? _ _ hc2)).trans hc2
                  go_wp2_with fail
                  refine (KN.out _).mono ?_
                  rintro e w9 ⟨rfl, k9⟩
                  go_wp2_with fail
                  go_ret
                  exact ⟨rfl, ((hkept.trans kx2).trans k8).trans k9⟩
          · have fj := J.out f1 f2
            rw [fj] at HA2
            have kx := Kept.refl wr
            go_wp2_with fail
            refine (S1.out _ kx).mono ?_
            rintro e w1 ⟨rfl, k'⟩
            have kx := kx.trans k'
            clear k'
            go_wp2_with fail
            refine (HS2.out _ kx).mono ?_
            rintro e w2 ⟨rfl, k'⟩
            have kx := kx.trans k'
            clear k'
            go_wp2_with fail
            refine (HM1.out _ kx).mono ?_
            rintro e w3 ⟨rfl, k'⟩
            have kx := kx.trans k'
            clear k'
            go_wp2_with fail
            refine (HM2.out _ kx).mono ?_
            rintro e w4 ⟨rfl, k'⟩
            have kx := kx.trans k'
            clear k'
            go_wp2_with fail
            refine (HS3.out _ _ kx).mono ?_
            rintro e w5 ⟨rfl, k'⟩
            have kx := kx.trans k'
            clear k'
            go_wp2_with fail
            refine (HS4.out _ _ kx).mono ?_
            rintro e w6 ⟨rfl, k'⟩
            have kx := kx.trans k'
            clear k'
            go_wp2_with fail
            refine (HA2.out _).mono ?_
            rintro e w7 ⟨rfl, k'⟩
            have kx := kx.trans k'
            clear k'
            go_wp2_with fail
            go_loopw [26, 27] (fun s i wx => ∃ j : Nat, j ≤ C + 1 ∧ i = .int .i64 j ∧ OwnI wx wr.heap.size s (List.replicate j v) ∧ Kept wr wx) (fun _ i _ => C + 1 - (intOf i).toNat)
            case atStart => exact ⟨0, by omega, rfl, OwnI.nil _ _, kx⟩
            case round =>
              obtain ⟨j, hj, rfl, own2, kx2⟩ := hrel
              by_cases cj : j < C + 1
              · have ho := Lib.hid (OwnI.alloc own2 (Obj.cells #[.int .i64 v] 2))
                have hc2 := (kx2.cell (p := ⟨b, off + K, none⟩) (World.block_lt_of_cell? _ _ HCK.out)).trans HCK.out
                clear own2
                go_wp2_with (refine append_int rfl (.tmp 180) (.tmp 185) rfl _ u26 _ rfl ho.out wr.heap.size 1 v rfl (by simp [go_sem]) (by simp; omega) (by have := kx2.size; simp; omega) ?_; intro v1 w1 o1 gr)
                have k1 := ho.out.grown (Nat.le_refl _) (kx2.alloc _) gr
                go_roundw
                case rel => exact ⟨j + 1, by omega, by go_num, by rw [List.replicate_succ']; exact o1, k1⟩
                case measure => (simp [intOf]; try omega)
              · obtain rfl : j = C + 1 := by omega
                obtain ⟨A3, cap3, rfl, row3⟩ := own2.row
                rw [List.length_replicate]
                have M3 := fun wx => mean_any A3 cap3 (List.replicate (C + 1) v) wx
                rw [List.length_replicate, dMean_same v (by omega)] at M3
                have M4 := Lib.hid (M3 _ row3 (fun a ha => by have := List.eq_of_mem_replicate ha; subst this; exact gv) (by omega))
                clear M3 own2 row3
                have hc2 := (kx2.cell (p := ⟨b, off + K, none⟩) (World.block_lt_of_cell? _ _ HCK.out)).trans HCK.out
                by_cases vm : -9223372036854775807 ≤ v
                · rw [fit_in vm gv.2] at M4
                  go_wp2_with fail
                  refine M4.out.mono ?_
                  rintro e w8 ⟨rfl, k8⟩
                  have hc8 := (k8.cell (p := ⟨b, off + K, none⟩) (World.block_lt_of_cell? _ _ hc2)).trans hc2
                  go_wp2_with fail
                  refine (KN.out _).mono ?_
                  rintro e w9 ⟨rfl, k9⟩
                  go_wp2_with fail
                  go_ret
                  exact ⟨rfl, ((hkept.trans kx2).trans k8).trans k9⟩
                · rw [fit_out (by omega)] at M4
                  go_wp2_with fail
                  refine M4.out.mono ?_
                  rintro e w8 ⟨rfl, k8⟩
                  have hc8 := (k8.cell (p := ⟨b, off + K, none⟩) (World.block_lt_of_cell? _ _ hc2)).trans hc2
                  go_wp2_with fail
                  refine (KN.out _).mono ?_
                  rintro e w9 ⟨rfl, k9⟩
                  go_wp2_with fail
                  go_ret
                  exact ⟨rfl, ((hkept.trans kx2).trans k8).trans k9⟩
          · have kx := Kept.refl wr
            go_wp2_with fail
            refine (S1.out _ kx).mono ?_
            rintro e w1 ⟨rfl, k'⟩
            have kx := kx.trans k'
            clear k'
            go_wp2_with fail
            refine (HS2.out _ kx).mono ?_
            rintro e w2 ⟨rfl, k'⟩
            have kx := kx.trans k'
            clear k'
            go_wp2_with fail
            refine (HM1.out _ kx).mono ?_
            rintro e w3 ⟨rfl, k'⟩
            have kx := kx.trans k'
            clear k'
            go_wp2_with fail
            refine (HM2.out _ kx).mono ?_
            rintro e w4 ⟨rfl, k'⟩
            have kx := kx.trans k'
            clear k'
            go_wp2_with fail
            refine (HS3.out _ _ kx).mono ?_
            rintro e w5 ⟨rfl, k'⟩
            have kx := kx.trans k'
            clear k'
            go_wp2_with fail
            refine (HS4.out _ _ kx).mono ?_
            rintro e w6 ⟨rfl, k'⟩
            have kx := kx.trans k'
            clear k'
            go_wp2_with fail
            go_loopw [26, 27] (fun s i wx => ∃ j : Nat, j ≤ C + 1 ∧ i = .int .i64 j ∧ OwnI wx wr.heap.size s (List.replicate j v) ∧ Kept wr wx) (fun _ i _ => C + 1 - (intOf i).toNat)
            case atStart => exact ⟨0, by omega, rfl, OwnI.nil _ _, kx⟩
            case round =>
              obtain ⟨j, hj, rfl, own2, kx2⟩ := hrel
              by_cases cj : j < C + 1
              · have ho := Lib.hid (OwnI.alloc own2 (Obj.cells #[.int .i64 v] 2))
                have hc2 := (kx2.cell (p := ⟨b, off + K, none⟩) (World.block_lt_of_cell? _ _ HCK.out)).trans HCK.out
                clear own2
                go_wp2_with (refine append_int rfl (.tmp 180) (.tmp 185) rfl _ u26 _ rfl ho.out wr.heap.size 1 v rfl (by simp [go_sem]) (by simp; omega) (by have := kx2.size; simp; omega) ?_; intro v1 w1 o1 gr)
                have k1 := ho.out.grown (Nat.le_refl _) (kx2.alloc _) gr
                go_roundw
                case rel => exact ⟨j + 1, by omega, by go_num, by rw [List.replicate_succ']; exact o1, k1⟩
                case measure => (simp [intOf]; try omega)
              · obtain rfl : j = C + 1 := by omega
                obtain ⟨A3, cap3, rfl, row3⟩ := own2.row
                rw [List.length_replicate]
                have M3 := fun wx => mean_any A3 cap3 (List.replicate (C + 1) v) wx
                rw [List.length_replicate, dMean_same v (by omega)] at M3
                have M4 := Lib.hid (M3 _ row3 (fun a ha => by have := List.eq_of_mem_replicate ha; subst this; exact gv) (by omega))
                clear M3 own2 row3
                have hc2 := (kx2.cell (p := ⟨b, off + K, none⟩) (World.block_lt_of_cell? _ _ HCK.out)).trans HCK.out
                by_cases vm : -9223372036854775807 ≤ v
                · rw [fit_in vm gv.2] at M4
                  go_wp2_with fail
                  refine M4.out.mono ?_
                  rintro e w8 ⟨rfl, k8⟩
                  have hc8 := (k8.cell (p := ⟨b, off + K, none⟩) (World.block_lt_of_cell? _ _ hc2)).trans hc2
                  go_wp2_with fail
                  refine (KN.out _).mono ?_
                  rintro e w9 ⟨rfl, k9⟩
                  go_wp2_with fail
                  go_ret
                  exact ⟨rfl, ((hkept.trans kx2).trans k8).trans k9⟩
                · rw [fit_out (by omega)] at M4
                  go_wp2_with fail
                  refine M4.out.mono ?_
                  rintro e w8 ⟨rfl, k8⟩
                  have hc8 := (k8.cell (p := ⟨b, off + K, none⟩) (World.block_lt_of_cell? _ _ hc2)).trans hc2
                  go_wp2_with fail
                  refine (KN.out _).mono ?_
                  rintro e w9 ⟨rfl, k9⟩
                  go_wp2_with fail
                  go_ret
                  exact ⟨rfl, ((hkept.trans kx2).trans k8).trans k9⟩
          · have kx := Kept.refl wr
            go_wp2_with fail
            refine (S1.out _ kx).mono ?_
            rintro e w1 ⟨rfl, k'⟩
            have kx := kx.trans k'
            clear k'
            go_wp2_with fail
            refine (HS2.out _ kx).mono ?_
            rintro e w2 ⟨rfl, k'⟩
            have kx := kx.trans k'
            clear k'
            go_wp2_with fail
            refine (HM1.out _ kx).mono ?_
            rintro e w3 ⟨rfl, k'⟩
            have kx := kx.trans k'
            clear k'
            go_wp2_with fail
            refine (HM2.out _ kx).mono ?_
            rintro e w4 ⟨rfl, k'⟩
            have kx := kx.trans k'
            clear k'
            go_wp2_with fail
            refine (HS3.out _ _ kx).mono ?_
            rintro e w5 ⟨rfl, k'⟩
            have kx := kx.trans k'
            clear k'
            go_wp2_with fail
            refine (HS4.out _ _ kx).mono ?_
            rintro e w6 ⟨rfl, k'⟩
            have kx := kx.trans k'
            clear k'
            go_wp2_with fail
            go_loopw [26, 27] (fun s i wx => ∃ j : Nat, j ≤ C + 1 ∧ i = .int .i64 j ∧ OwnI wx wr.heap.size s (List.replicate j v) ∧ Kept wr wx) (fun _ i _ => C + 1 - (intOf i).toNat)
            case atStart => exact ⟨0, by omega, rfl, OwnI.nil _ _, kx⟩
            case round =>
              obtain ⟨j, hj, rfl, own2, kx2⟩ := hrel
              by_cases cj : j < C + 1
              · have ho := Lib.hid (OwnI.alloc own2 (Obj.cells #[.int .i64 v] 2))
                have hc2 := (kx2.cell (p := ⟨b, off + K, none⟩) (World.block_lt_of_cell? _ _ HCK.out)).trans HCK.out
                clear own2
                go_wp2_with (refine append_int rfl (.tmp 180) (.tmp 185) rfl _ u26 _ rfl ho.out wr.heap.size 1 v rfl (by simp [go_sem]) (by simp; omega) (by have := kx2.size; simp; omega) ?_; intro v1 w1 o1 gr)
                have k1 := ho.out.grown (Nat.le_refl _) (kx2.alloc _) gr
                go_roundw
                case rel => exact ⟨j + 1, by omega, by go_num, by rw [List.replicate_succ']; exact o1, k1⟩
                case measure => (simp [intOf]; try omega)
              · obtain rfl : j = C + 1 := by omega
                obtain ⟨A3, cap3, rfl, row3⟩ := own2.row
                rw [List.length_replicate]
                have M3 := fun wx => mean_any A3 cap3 (List.replicate (C + 1) v) wx
                rw [List.length_replicate, dMean_same v (by omega)] at M3
                have M4 := Lib.hid (M3 _ row3 (fun a ha => by have := List.eq_of_mem_replicate ha; subst this; exact gv) (by omega))
                clear M3 own2 row3
                have hc2 := (kx2.cell (p := ⟨b, off + K, none⟩) (World.block_lt_of_cell? _ _ HCK.out)).trans HCK.out
                by_cases vm : -9223372036854775807 ≤ v
                · rw [fit_in vm gv.2] at M4
                  go_wp2_with fail
                  refine M4.out.mono ?_
                  rintro e w8 ⟨rfl, k8⟩
                  have hc8 := (k8.cell (p := ⟨b, off + K, none⟩) (World.block_lt_of_cell? _ _ hc2)).trans hc2
                  go_wp2_with fail
                  refine (KN.out _).mono ?_
                  rintro e w9 ⟨rfl, k9⟩
                  go_wp2_with fail
                  go_ret
                  exact ⟨rfl, ((hkept.trans kx2).trans k8).trans k9⟩
                · rw [fit_out (by omega)] at M4
                  go_wp2_with fail
                  refine M4.out.mono ?_
                  rintro e w8 ⟨rfl, k8⟩
                  have hc8 := (k8.cell (p := ⟨b, off + K, none⟩) (World.block_lt_of_cell? _ _ hc2)).trans hc2
                  go_wp2_with fail
                  refine (KN.out _).mono ?_
                  rintro e w9 ⟨rfl, k9⟩
                  go_wp2_with fail
                  go_ret
                  exact ⟨rfl, ((hkept.trans kx2).trans k8).trans k9⟩
          · have fj := J.out f1 f2
            rw [fj] at HA2
            have kx := Kept.refl wr
            go_wp2_with fail
            refine (S1.out _ kx).mono ?_
            rintro e w1 ⟨rfl, k'⟩
            have kx := kx.trans k'
            clear k'
            go_wp2_with fail
            refine (HS2.out _ kx).mono ?_
            rintro e w2 ⟨rfl, k'⟩
            have kx := kx.trans k'
            clear k'
            go_wp2_with fail
            refine (HM1.out _ kx).mono ?_
            rintro e w3 ⟨rfl, k'⟩
            have kx := kx.trans k'
            clear k'
            go_wp2_with fail
            refine (HM2.out _ kx).mono ?_
            rintro e w4 ⟨rfl, k'⟩
            have kx := kx.trans k'
            clear k'
            go_wp2_with fail
            refine (HS3.out _ _ kx).mono ?_
            rintro e w5 ⟨rfl, k'⟩
            have kx := kx.trans k'
            clear k'
            go_wp2_with fail
            refine (HS4.out _ _ kx).mono ?_
            rintro e w6 ⟨rfl, k'⟩
            have kx := kx.trans k'
            clear k'
            go_wp2_with fail
            refine (HA2.out _).mono ?_
            rintro e w7 ⟨rfl, k'⟩
            have kx := kx.trans k'
            clear k'
            go_wp2_with fail
            go_loopw [26, 27] (fun s i wx => ∃ j : Nat, j ≤ C + 1 ∧ i = .int .i64 j ∧ OwnI wx wr.heap.size s (List.replicate j v) ∧ Kept wr wx) (fun _ i _ => C + 1 - (intOf i).toNat)
            case atStart => exact ⟨0, by omega, rfl, OwnI.nil _ _, kx⟩
            case round =>
              obtain ⟨j, hj, rfl, own2, kx2⟩ := hrel
              by_cases cj : j < C + 1
              · have ho := Lib.hid (OwnI.alloc own2 (Obj.cells #[.int .i64 v] 2))
                have hc2 := (kx2.cell (p := ⟨b, off + K, none⟩) (World.block_lt_of_cell? _ _ HCK.out)).trans HCK.out
                clear own2
                go_wp2_with (refine append_int rfl (.tmp 180) (.tmp 185) rfl _ u26 _ rfl ho.out wr.heap.size 1 v rfl (by simp [go_sem]) (by simp; omega) (by have := kx2.size; simp; omega) ?_; intro v1 w1 o1 gr)
                have k1 := ho.out.grown (Nat.le_refl _) (kx2.alloc _) gr
                go_roundw
                case rel => exact ⟨j + 1, by omega, by go_num, by rw [List.replicate_succ']; exact o1, k1⟩
                case measure => (simp [intOf]; try omega)
              · obtain rfl : j = C + 1 := by omega
                obtain ⟨A3, cap3, rfl, row3⟩ := own2.row
                rw [List.length_replicate]
                have M3 := fun wx => mean_any A3 cap3 (List.replicate (C + 1) v) wx
                rw [List.length_replicate, dMean_same v (by omega)] at M3
                have M4 := Lib.hid (M3 _ row3 (fun a ha => by have := List.eq_of_mem_replicate ha; subst this; exact gv) (by omega))
                clear M3 own2 row3
                have hc2 := (kx2.cell (p := ⟨b, off + K, none⟩) (World.block_lt_of_cell? _ _ HCK.out)).trans HCK.out
                by_cases vm : -9223372036854775807 ≤ v
                · rw [fit_in vm gv.2] at M4
                  go_wp2_with fail
                  refine M4.out.mono ?_
                  rintro e w8 ⟨rfl, k8⟩
                  have hc8 := (k8.cell (p := ⟨b, off + K, none⟩) (World.block_lt_of_cell? _ _ hc2)).trans hc2
                  go_wp2_with fail
                  refine (KN.out _).mono ?_
                  rintro e w9 ⟨rfl, k9⟩
                  go_wp2_with fail
                  go_ret
                  exact ⟨rfl, ((hkept.trans kx2).trans k8).trans k9⟩
                · rw [fit_out (by omega)] at M4
                  go_wp2_with fail
                  refine M4.out.mono ?_
                  rintro e w8 ⟨rfl, k8⟩
                  have hc8 := (k8.cell (p := ⟨b, off + K, none⟩) (World.block_lt_of_cell? _ _ hc2)).trans hc2
                  go_wp2_with fail
                  refine (KN.out _).mono ?_
                  rintro e w9 ⟨rfl, k9⟩
                  go_wp2_with fail
                  go_ret
                  exact ⟨rfl, ((hkept.trans kx2).trans k8).trans k9⟩
        · have hi := HR.out k (by omega)
          obtain ⟨b', off', he, hb', hc⟩ := hi
          cases he
          have hc' := (hkept.cell (p := ⟨b, off + k, none⟩) hb).trans hc
          have HCK := Lib.hid hc
          have hd := drop_get (l := l) (i := k) (by omega)
          have gk := H64.out.get (k := k) (by omega)
          obtain ⟨gk1, gk2⟩ := gk
          have ho := OwnI.alloc own (Obj.cells #[.int .i64 (l.getD k 0)] 2)
          have HO := Lib.hid ho
          have HA := Lib.hid hall
          have HD := Lib.hid hd
          clear own hall hd ho hc hb'
          generalize l.getD k 0 = v at *
          have ik : (((k + 1 : Nat) : Int)) - 1 = (k : Int) := by omega
          rw [ik]
          have ll : (l.drop (k + 1)).reverse.length ≤ 100 := by rw [List.length_reverse, List.length_drop]; omega
          go_wp2_with (refine append_int rfl (.tmp 51) (.tmp 56) rfl w.heap.size u7 _ rfl HO.out wr.heap.size 1 v rfl (by simp [go_sem]) (by omega) (by have := hkept.size; simp; omega) ?_; intro v1 w1 o1 gr)
          have k1 : Kept w w1 := HO.out.grown (Nat.le_refl _) (hkept.alloc _) gr
          have hc1 := (k1.cell (p := ⟨b, off + k, none⟩) hb).trans (HCK.out)
          go_region
          go_wp2_with fail
          go_roundw
          case rel =>
            exact ⟨k, min L v, max G v, by omega, rfl, rfl, rfl, by omega, by omega, by omega, by omega, by rw [HD.out, List.reverse_cons]; exact o1.drew, (by repeat (first | with_reducible exact Kept.refl _ | with_reducible apply Kept.drew | with_reducible apply Kept.drewN | with_reducible apply Kept.alloc | (with_reducible refine Kept.setCellX ?_ ?_ _; focus (first | (simp; done) | (simp; omega))) | (with_reducible refine Kept.trans ?_ (by assumption)))), by omega, by omega, fun x hx => by
              rw [HD.out] at hx
              rcases List.mem_cons.1 hx with rfl | hx
              · omega
              · have := HA.out x hx; omega⟩
          case measure => (simp [intOf]; try omega)
end Go.Proofs.Ytingopdeckgpaaa
