/- The law FtextPieces, walked (printed by wip/mklaw13.py). -/
import Derived.Test.YtbpkfnoenkoabaaDoorYaMixAT
namespace Go.Proofs.YtbpkfnoenkoabaaDoor
set_option linter.unusedVariables false
set_option linter.unusedSimpArgs false
open Go.RowKit Lv
set_option maxRecDepth 100000
theorem tmod_rg (a m : Int) (h : 0 < m) : -m < Int.tmod a m ∧ Int.tmod a m < m := ⟨Int.lt_tmod_of_pos a h, Int.tmod_lt_of_pos a h⟩
theorem of14_eq {x : Vl} (fn : Nat) (g : Nat) (l : List Vl) (w : World) (mx : Int) (HM : Mx w mx) (hr : w.heap[g]? = some (rowObj l)) (hs : ∀ v ∈ l, Small v) (hl : l.length ≤ 100) (hx : (vCall14 fn l).1 = x) :
    Calls Tryd.prog 7 #[.int .u8 fn, .slice (some ⟨g, 0, none⟩) l.length l.length] w fun e w' => e = .returned (aggV x) ∧ Kept w w' := by
  have h := of14_any fn (some ⟨g, 0, none⟩) l.length l w mx HM (rowObj_row hr) hs (by omega) (Nat.le_refl _)
  rwa [hx] at h
theorem small_T {s : List UInt8} (h : Okay s) : Small (⟨3, 0, s⟩ : Vl) := ⟨⟨by show (-9223372036854775808 : Int) ≤ 0; omega, by show (0 : Int) ≤ 9223372036854775807; omega⟩, by have := h.1; show s.length ≤ 2000; omega⟩
theorem small_num {n : Int} (h1 : -9223372036854775808 ≤ n) (h2 : n ≤ 9223372036854775807) : Small (⟨1, n, []⟩ : Vl) := ⟨⟨h1, h2⟩, by show ([] : List UInt8).length ≤ 2000; decide⟩
theorem smalls1 {a : Vl} (ha : Small a) : ∀ v ∈ [a], Small v := fun v hv => by rw [List.mem_singleton] at hv; subst hv; exact ha
theorem smalls2 {a b : Vl} (ha : Small a) (hb : Small b) : ∀ v ∈ [a, b], Small v := fun v hv => by
  rcases List.mem_cons.1 hv with rfl | h
  · exact ha
  · exact smalls1 hb v h
theorem smalls3 {a b c : Vl} (ha : Small a) (hb : Small b) (hc : Small c) : ∀ v ∈ [a, b, c], Small v := fun v hv => by
  rcases List.mem_cons.1 hv with rfl | h
  · exact ha
  · exact smalls2 hb hc v h
theorem okay_plain (s : List UInt8) (m : Nat) (hm : m ≤ 256) : Okay ((s.take m).map plainC) ∧ ((s.take m).map plainC).length ≤ m := by
  have hl : ((s.take m).map plainC).length ≤ m := by rw [List.length_map, List.length_take]; omega
  refine ⟨⟨by omega, ?_⟩, hl⟩; unfold plain; rw [List.all_eq_true]; intro c hc; obtain ⟨x, _, rfl⟩ := List.mem_map.1 hc; exact plainC_ok x
theorem left_n {s : List UInt8} {n : Nat} (h : Okay s) (h1 : n ≤ 100000) : (vCall14 32 [⟨3, 0, s⟩, ⟨1, (n : Int) * 10000, []⟩]).1 = ⟨3, 0, s.take n⟩ := by
  have := left_T (n := (n : Int)) h (by omega) (by omega)
  rwa [Int.toNat_natCast] at this
theorem right_n {s : List UInt8} {n : Nat} (h : Okay s) (h1 : n ≤ 100000) : (vCall14 33 [⟨3, 0, s⟩, ⟨1, (n : Int) * 10000, []⟩]).1 = ⟨3, 0, s.drop (s.length - n)⟩ := by
  have := right_T (n := (n : Int)) h (by omega) (by omega)
  rwa [Int.toNat_natCast] at this
theorem rest_n {s : List UInt8} {n : Nat} (h : Okay s) (h1 : n ≤ 100000) : (vCall14 34 [⟨3, 0, s⟩, ⟨1, ((n + 1 : Nat) : Int) * 10000, []⟩, ⟨1, (s.length : Int) * 10000, []⟩]).1 = ⟨3, 0, s.drop n⟩ := by
  have hl := h.1; have := mid_T (m := ((n + 1 : Nat) : Int)) (n := (s.length : Int)) h (by omega) (by omega) (by omega) (by omega); rw [show (((n + 1 : Nat) : Int) - 1).toNat = n by omega, Int.toNat_natCast, List.take_of_length_le (by rw [List.length_drop]; omega)] at this; exact this
theorem take_mn (s : List UInt8) (n : Nat) : s.take (min n s.length) = s.take n := by
  by_cases c : n ≤ s.length
  · rw [Nat.min_eq_left c]
  · rw [Nat.min_eq_right (by omega), List.take_of_length_le (Nat.le_refl _), List.take_of_length_le (by omega)]
theorem truth_one (p : Prop) [Decidable p] : decide ((vTruth (decide p)).n = (1 : Int)) = decide p := by
  unfold vTruth
  by_cases h : p <;> simp [h]
theorem modN (a : Int) : ∃ n : Nat, n ≤ 255 ∧ Int.tmod (Int.tmod a 256 + 256) 256 = (n : Int) := by
  have t1 := tmod_rg a 256 (by decide); have e : Int.tmod (Int.tmod a 256 + 256) 256 = (Int.tmod a 256 + 256) % 256 := Int.tmod_eq_emod_of_nonneg (by omega); exact ⟨(Int.tmod (Int.tmod a 256 + 256) 256).toNat, by omega, by omega⟩
theorem en_louvrelaw14_awake : En 10 := by intro args w; go_simp
theorem en_louvrelaw14_of : En 7 := by intro args w; go_simp
theorem en_louvrelaw14_plain : En 6 := by intro args w; go_simp
set_option maxHeartbeats 8000000 in
theorem FtextPieces_walk (a0 : ByteArray) (a1 a2 : Int) (w0 : a0.size ≤ maxLen) (w1 : (Lit.int .i64 a1).wf = true) (w2 : (Lit.int .i64 a2).wf = true) (w : World) (mx : Int) (HM : Mx w mx) :
    Calls Tryd.prog 3 #[.string a0, .int .i64 a1, .int .i64 a2] w fun e w' => e = .returned (.bool true) ∧ Below w.heap.size w w' := by
  have r1 := Go.bounds_i64 w1; have r2 := Go.bounds_i64 w2; clear w1 w2; have t1 := tmod_rg a1 256 (by decide); have t2 := tmod_rg a2 256 (by decide); obtain ⟨t0, rfl⟩ : ∃ l : List UInt8, a0 = ⟨l.toArray⟩ := ⟨a0.data.toList, bytes_of rfl⟩; have hl0 : t0.length ≤ 9223372036854775807 := w0; clear w0; go_enter Tryd.func3, Tryd.ntmps3; refine sq fun hK1 => ?_
  refine ro [yV _] 1 175 rfl rfl (Own.start w) (
    aS (fun hk bs hd => xassign rfl rfl) rfl <|
    arm0) fun fa fw bs hv ap z q ow => ?_
  have s0 := bs.get 0 rfl rfl; have s1 := bs.get 1 rfl rfl; have s2 := bs.get 2 rfl rfl; have s6 := gv hv 0 rfl rfl; refine wt hK1 ?_; refine sq fun hK2 => ?_
  refine ro [yV _, yV (.string ⟨((t0.take 200).map plainC).toArray⟩)] 2 175 z q ow (
    mvS s0 rfl rfl rfl rfl <|
    aC (fun hk bs hd => xcall2 rfl (dp hd 0 rfl) rfl (en_louvrelaw14_plain _ _)) (fun hk bs hd => plain14_any t0 200 _ (by omega) (by decide)) rfl <|
    arm0) fun fa fw bs hv ap z q ow => ?_
  obtain ⟨s0, s1, s2, s6⟩ := b4 bs s0 s1 s2 s6; have s14 := gv hv 1 rfl rfl; refine wl_value (v := .string ⟨((t0.take 200).map plainC).toArray⟩) (want0 rfl) (xassign rfl s14) ?_; refine wl_nil (fun fr u => ∃ (p : List UInt8), (Okay p) ∧ (p.length ≤ 200) ∧ fr.tmps.size = 175 ∧ fr.defers = [] ∧ Own w [] u ∧ fr.eval (.tmp 1) = .int .i64 a1 ∧ fr.eval (.tmp 2) = .int .i64 a2 ∧ fr.eval (.tmp 6) = .bool false ∧ fr.eval (.tmp 0) = .string ⟨p.toArray⟩) ⟨((t0.take 200).map plainC), (okay_plain t0 200 (by decide)).1, (okay_plain t0 200 (by decide)).2, put_size z, put_def q, ow, pb 0 s1 rfl, pb 0 s2 rfl, pb 0 s6 rfl, put_in (t := 0) z rfl⟩ ?_; rintro fa fw ⟨p, hp, hpl, z, q, ow, s1, s2, s6, s0⟩; refine tn hK2 ?_; refine sq fun hK3 => ?_
  refine ro [yV _, yV _, yV _, yV _, yV _, yV _, yV _, yV _] 8 175 z q ow (
    mvS s1 rfl rfl rfl rfl <|
    aS (fun hk bs hd => xrem (Or.inl rfl) rfl (dp hd 0 rfl) rfl (by omega) (by omega) (by omega)) rfl <|
    aS (fun hk bs hd => xadd (Or.inl rfl) rfl (dp hd 1 rfl) rfl (by omega) (by omega)) rfl <|
    aS (fun hk bs hd => xrem (Or.inl rfl) rfl (dp hd 2 rfl) rfl (by omega) (by omega) (by omega)) rfl <|
    mvS s2 rfl rfl rfl rfl <|
    aS (fun hk bs hd => xrem (Or.inl rfl) rfl (dp hd 4 rfl) rfl (by omega) (by omega) (by omega)) rfl <|
    aS (fun hk bs hd => xadd (Or.inl rfl) rfl (dp hd 5 rfl) rfl (by omega) (by omega)) rfl <|
    aS (fun hk bs hd => xrem (Or.inl rfl) rfl (dp hd 6 rfl) rfl (by omega) (by omega) (by omega)) rfl <|
    arm0) fun fa fw bs hv ap z q ow => ?_
  obtain ⟨s1, s2, s6, s0⟩ := b4 bs s1 s2 s6 s0; have s18 := gv hv 3 rfl rfl; have s22 := gv hv 7 rfl rfl; refine wl_value (v := .int .i64 (Int.tmod ((Int.tmod a1 256) + 256) 256)) (want0 rfl) (xassign rfl s18) ?_; refine wl_value (v := .int .i64 (Int.tmod ((Int.tmod a2 256) + 256) 256)) (want0 rfl) (xassign rfl (pb 1 s22 rfl)) ?_; obtain ⟨m, hm, em⟩ := modN a1; obtain ⟨n, hn, en⟩ := modN a2; refine wl_nil (fun fr u => fr.tmps.size = 175 ∧ fr.defers = [] ∧ Own w [] u ∧ fr.eval (.tmp 6) = .bool false ∧ fr.eval (.tmp 0) = .string ⟨p.toArray⟩ ∧ fr.eval (.tmp 1) = .int .i64 (m : Int) ∧ fr.eval (.tmp 2) = .int .i64 (n : Int)) ⟨put_size (put_size z), put_def (put_def q), ow, pb 2 (pb 1 s6 rfl) rfl, pb 2 (pb 1 s0 rfl) rfl, ((pb 2 (put_in (t := 1) z rfl) rfl).trans (congrArg (Value.int .i64) em)), ((put_in (t := 2) (put_size z) rfl).trans (congrArg (Value.int .i64) en))⟩ ?_; rintro fa fw ⟨z, q, ow, s6, s0, s1, s2⟩; refine tn hK3 ?_; refine sq fun hK4 => ?_
  refine ro [yV _, yV (aggV (⟨3, 0, p⟩ : Vl)), yV _, yV _, yV (aggV (⟨1, (n : Int) * 10000, []⟩ : Vl)), ySlice fw.heap.size 2 (rowObj [(⟨3, 0, p⟩ : Vl), (⟨1, (n : Int) * 10000, []⟩ : Vl)]), yV (aggV (⟨3, 0, p.take n⟩ : Vl)), yNew fw.heap.size (.cells #[.int .u8 0, .int .i64 0, .string ⟨[].toArray⟩] 24 (0, 0))] 8 175 z q ow (
    mvS s0 rfl rfl rfl rfl <|
    aC (fun hk bs hd => xcall1 rfl (dp hd 0 rfl) (en_louvrelaw14_text _ _)) (fun hk bs hd => ltext14_any p _) rfl <|
    mvS s2 rfl rfl rfl rfl <|
    aS (fun hk bs hd => xmul (Or.inr rfl) rfl (dp hd 2 rfl) rfl (by omega) (by omega)) rfl <|
    aC (fun hk bs hd => xcall1 rfl (dp hd 3 rfl) (en_louvrelaw14_num _ _)) (fun hk bs hd => lnum14_any ((n : Int) * 10000) _) rfl <|
    arm (fun aa ww hk bs hd => by
      have d1 := dp hd 1 rfl; have d4 := dp hd 4 rfl; exact stepX_new _ (want0 rfl) (xrow2 rfl (d1) (d4)) ⟨_, rfl, hk.size, Go.heap_alloc_new _ _⟩ ((Kept.refl _).alloc _) rfl (Nat.le_refl _)
      ) <|
    arm (fun aa ww hk bs hd => by
      have d5 := dL hd 5 rfl; obtain ⟨g5, e5, _, h5⟩ := d5; exact stepX_enter (want0 rfl) (xcall2 (u := .int .u8 32) (v := .slice (some ⟨g5, 0, none⟩) 2 2) rfl rfl e5 (en_louvrelaw14_of _ _)) ((of14_eq 32 g5 [(⟨3, 0, p⟩ : Vl), (⟨1, (n : Int) * 10000, []⟩ : Vl)] ww mx (HM.kept (ow.keep hk).kept) h5 (smalls2 (small_T hp) (small_num (by omega) (by omega))) (by simp) (left_n hp (by omega))).mono fun _ _ ⟨he, hk2⟩ => ⟨_, he, rfl, hk2⟩) rfl
      ) <|
    aP (fun hk bs hd => xalloc rfl (by kernel_rfl)) rfl <|
    arm0) fun fa fw bs hv ap z q ov => ?_
  obtain ⟨s6, s0, s1, s2⟩ := b4 bs s6 s0 s1 s2; have s29 := gv hv 6 rfl rfl; obtain ⟨gb1, s7, bgb1, hgb1⟩ := gotP hv 7 rfl rfl rfl; have ov := ov.cons hgb1 (Nat.le_trans ow.kept.size bgb1) (ow.below bgb1); have ow := ov; refine ws ow 0 0 s7 s29 fun fw ow => ?_; refine wt hK4 ?_; refine sq fun hK5 => ?_
  refine ro [yV _, yV (aggV (⟨3, 0, p⟩ : Vl)), yV _, yV (.int .i64 ((n + 1 : Nat) : Int)), yV _, yV (aggV (⟨1, ((n + 1 : Nat) : Int) * 10000, []⟩ : Vl)), yV _, yV _, yV _, yV (aggV (⟨1, ((p.length : Nat) : Int) * 10000, []⟩ : Vl)), ySlice fw.heap.size 3 (rowObj [(⟨3, 0, p⟩ : Vl), (⟨1, ((n + 1 : Nat) : Int) * 10000, []⟩ : Vl), (⟨1, ((p.length : Nat) : Int) * 10000, []⟩ : Vl)]), yV (aggV (⟨3, 0, p.drop n⟩ : Vl)), yNew fw.heap.size (.cells #[.int .u8 0, .int .i64 0, .string ⟨[].toArray⟩] 24 (0, 0))] 13 175 z q ow (
    mvS s0 rfl rfl rfl rfl <|
    aC (fun hk bs hd => xcall1 rfl (dp hd 0 rfl) (en_louvrelaw14_text _ _)) (fun hk bs hd => ltext14_any p _) rfl <|
    mvS s2 rfl rfl rfl rfl <|
    aS (fun hk bs hd => xadd (Or.inl rfl) rfl (dp hd 2 rfl) rfl (by omega) (by omega)) rfl <|
    aS (fun hk bs hd => xmul (Or.inr rfl) rfl (dp hd 3 rfl) rfl (by omega) (by omega)) rfl <|
    aC (fun hk bs hd => xcall1 rfl (dp hd 4 rfl) (en_louvrelaw14_num _ _)) (fun hk bs hd => lnum14_any (((n + 1 : Nat) : Int) * 10000) _) rfl <|
    mvS s0 rfl rfl rfl rfl <|
    aS (fun hk bs hd => xlenS Tryd.underlying9 rfl (dp hd 6 rfl)) rfl <|
    aS (fun hk bs hd => xmul (Or.inr rfl) rfl (dp hd 7 rfl) rfl (by omega) (by omega)) rfl <|
    aC (fun hk bs hd => xcall1 rfl (dp hd 8 rfl) (en_louvrelaw14_num _ _)) (fun hk bs hd => lnum14_any (((p.length : Nat) : Int) * 10000) _) rfl <|
    arm (fun aa ww hk bs hd => by
      have d1 := dp hd 1 rfl; have d5 := dp hd 5 rfl; have d9 := dp hd 9 rfl; exact stepX_new _ (want0 rfl) (xrow3 rfl (d1) (d5) (d9)) ⟨_, rfl, hk.size, Go.heap_alloc_new _ _⟩ ((Kept.refl _).alloc _) rfl (Nat.le_refl _)
      ) <|
    arm (fun aa ww hk bs hd => by
      have d10 := dL hd 10 rfl; obtain ⟨g10, e10, _, h10⟩ := d10; exact stepX_enter (want0 rfl) (xcall2 (u := .int .u8 34) (v := .slice (some ⟨g10, 0, none⟩) 3 3) rfl rfl e10 (en_louvrelaw14_of _ _)) ((of14_eq 34 g10 [(⟨3, 0, p⟩ : Vl), (⟨1, ((n + 1 : Nat) : Int) * 10000, []⟩ : Vl), (⟨1, ((p.length : Nat) : Int) * 10000, []⟩ : Vl)] ww mx (HM.kept (ow.keep hk).kept) h10 (smalls3 (small_T hp) (small_num (by omega) (by omega)) (small_num (by omega) (by omega))) (by simp) (rest_n hp (by omega))).mono fun _ _ ⟨he, hk2⟩ => ⟨_, he, rfl, hk2⟩) rfl
      ) <|
    aP (fun hk bs hd => xalloc rfl (by kernel_rfl)) rfl <|
    arm0) fun fa fw bs hv ap z q ov => ?_
  obtain ⟨s6, s0, s1, s2, s7⟩ := b5 bs s6 s0 s1 s2 s7; have s41 := gv hv 11 rfl rfl; obtain ⟨gb2, s8, bgb2, hgb2⟩ := gotP hv 12 rfl rfl rfl; have ov := ov.cons hgb2 (Nat.le_trans ow.kept.size bgb2) (ow.below bgb2); have ow := ov; refine ws ow 0 0 s8 s41 fun fw ow => ?_; refine wt hK5 ?_; refine sq fun hK6 => ?_
  refine ro [yV _, yV (aggV (⟨3, 0, p⟩ : Vl)), yV _, yV _, yV (aggV (⟨1, (n : Int) * 10000, []⟩ : Vl)), ySlice fw.heap.size 2 (rowObj [(⟨3, 0, p⟩ : Vl), (⟨1, (n : Int) * 10000, []⟩ : Vl)]), yV (aggV (⟨3, 0, p.drop (p.length - n)⟩ : Vl)), yNew fw.heap.size (.cells #[.int .u8 0, .int .i64 0, .string ⟨[].toArray⟩] 24 (0, 0))] 8 175 z q ow (
    mvS s0 rfl rfl rfl rfl <|
    aC (fun hk bs hd => xcall1 rfl (dp hd 0 rfl) (en_louvrelaw14_text _ _)) (fun hk bs hd => ltext14_any p _) rfl <|
    mvS s2 rfl rfl rfl rfl <|
    aS (fun hk bs hd => xmul (Or.inr rfl) rfl (dp hd 2 rfl) rfl (by omega) (by omega)) rfl <|
    aC (fun hk bs hd => xcall1 rfl (dp hd 3 rfl) (en_louvrelaw14_num _ _)) (fun hk bs hd => lnum14_any ((n : Int) * 10000) _) rfl <|
    arm (fun aa ww hk bs hd => by
      have d1 := dp hd 1 rfl; have d4 := dp hd 4 rfl; exact stepX_new _ (want0 rfl) (xrow2 rfl (d1) (d4)) ⟨_, rfl, hk.size, Go.heap_alloc_new _ _⟩ ((Kept.refl _).alloc _) rfl (Nat.le_refl _)
      ) <|
    arm (fun aa ww hk bs hd => by
      have d5 := dL hd 5 rfl; obtain ⟨g5, e5, _, h5⟩ := d5; exact stepX_enter (want0 rfl) (xcall2 (u := .int .u8 33) (v := .slice (some ⟨g5, 0, none⟩) 2 2) rfl rfl e5 (en_louvrelaw14_of _ _)) ((of14_eq 33 g5 [(⟨3, 0, p⟩ : Vl), (⟨1, (n : Int) * 10000, []⟩ : Vl)] ww mx (HM.kept (ow.keep hk).kept) h5 (smalls2 (small_T hp) (small_num (by omega) (by omega))) (by simp) (right_n hp (by omega))).mono fun _ _ ⟨he, hk2⟩ => ⟨_, he, rfl, hk2⟩) rfl
      ) <|
    aP (fun hk bs hd => xalloc rfl (by kernel_rfl)) rfl <|
    arm0) fun fa fw bs hv ap z q ov => ?_
  obtain ⟨s6, s0, s1, s2, s7, s8⟩ := b6 bs s6 s0 s1 s2 s7 s8; have s48 := gv hv 6 rfl rfl; obtain ⟨gb3, s9, bgb3, hgb3⟩ := gotP hv 7 rfl rfl rfl; have ov := ov.cons hgb3 (Nat.le_trans ow.kept.size bgb3) (ow.below bgb3); have ow := ov; refine ws ow 0 0 s9 s48 fun fw ow => ?_; refine wt hK6 ?_; refine sq fun hK7 => ?_; refine sq fun hK8 => ?_
  refine ro [yV (.pointer (some ⟨gb1, 0, none⟩)), yV _, yV (.bool false), yV _, yV (.pointer (some ⟨gb2, 0, none⟩)), yV _, yV (.bool false), yV _, yV _, yV (.pointer (some ⟨gb1, 2, none⟩)), yV _, yV (.pointer (some ⟨gb2, 2, none⟩)), yV _, yV _, yV _, yV (.bool false), yV _, yV _, yV (aggV (⟨3, 0, p.drop (p.length - n)⟩ : Vl)), yV _, yV _, yV _, yV _, yV _, yV _, yV (.int .i64 ((min n (p.length) : Nat) : Int)), yV _, yV _, yV (aggV (⟨3, 0, p.drop (p.length - min n p.length)⟩ : Vl)), yV (.bool false), yV _, yV _, yV (.pointer (some ⟨gb1, 2, none⟩)), yV _, yV _, yV _, yV _, yV _, yV (.int .i64 ((min n (p.length) : Nat) : Int)), yV _, yV (.bool false), yV _] 42 175 z q ow (
    aS (fun hk bs hd => xfieldAddr rfl (bg bs s7) (by kernel_rfl)) rfl <|
    aS (fun hk bs hd => xloadB rfl (by kernel_rfl) (dp hd 0 rfl) ((ow.keep hk).box 2 rfl) rfl) rfl <|
    aE (fun hk bs hd => xnei rfl (dp hd 1 rfl) rfl) (congrArg Value.bool rfl) rfl <|
    mvD 2 rfl rfl rfl rfl rfl rfl <|
    armS (wg (j := 3) (b := false) rfl rfl rfl) (fun aa ww hk bs hd => xfieldAddr rfl (bg bs s8) (by kernel_rfl)) rfl <|
    armS (wg (j := 3) (b := false) rfl rfl rfl) (fun aa ww hk bs hd => xloadB rfl (by kernel_rfl) (dp hd 4 rfl) ((ow.keep hk).box 1 rfl) rfl) rfl <|
    armE (wg (j := 3) (b := false) rfl rfl rfl) (fun aa ww hk bs hd => xnei rfl (dp hd 5 rfl) rfl) (congrArg Value.bool rfl) rfl <|
    aS (fun hk bs hd => xpickF rfl (dp hd 3 rfl) (dp hd 6 rfl)) rfl <|
    mvD 7 rfl rfl rfl rfl rfl rfl <|
    armS (wg (j := 8) (b := false) rfl rfl rfl) (fun aa ww hk bs hd => xfieldAddr rfl (bg bs s7) (by kernel_rfl)) rfl <|
    armS (wg (j := 8) (b := false) rfl rfl rfl) (fun aa ww hk bs hd => xloadB rfl (by kernel_rfl) (dp hd 9 rfl) ((ow.keep hk).box 2 rfl) rfl) rfl <|
    armS (wg (j := 8) (b := false) rfl rfl rfl) (fun aa ww hk bs hd => xfieldAddr rfl (bg bs s8) (by kernel_rfl)) rfl <|
    armS (wg (j := 8) (b := false) rfl rfl rfl) (fun aa ww hk bs hd => xloadB rfl (by kernel_rfl) (dp hd 11 rfl) ((ow.keep hk).box 1 rfl) rfl) rfl <|
    armS (wg (j := 8) (b := false) rfl rfl rfl) (fun aa ww hk bs hd => xcatS rfl (dp hd 10 rfl) (dp hd 12 rfl) (by simp only [List.length_take, List.length_drop]; omega)) rfl <|
    armS (wg (j := 8) (b := false) rfl rfl rfl) (fun aa ww hk bs hd => xmove rfl (bg bs s0)) rfl <|
    armE (wg (j := 8) (b := false) rfl rfl rfl) (fun aa ww hk bs hd => xneS rfl (dp hd 13 rfl) (dp hd 14 rfl)) (congrArg Value.bool (by rw [List.take_append_drop]; simp)) rfl <|
    aS (fun hk bs hd => xpickF rfl (dp hd 8 rfl) (dp hd 15 rfl)) rfl <|
    mvD 16 rfl rfl rfl rfl rfl rfl <|
    armS (wg (j := 17) (b := false) rfl rfl rfl) (fun aa ww hk bs hd => xloadN 3 rfl (by kernel_rfl) (by kernel_rfl) (bg bs s9) ((ow.keep hk).box 0 rfl) (Nat.le_of_ble_eq_true rfl) rfl) rfl <|
    armS (wg (j := 17) (b := false) rfl rfl rfl) (fun aa ww hk bs hd => xmove rfl (bg bs s0)) rfl <|
    armS (wg (j := 17) (b := false) rfl rfl rfl) (fun aa ww hk bs hd => xmove rfl (bg bs s0)) rfl <|
    armS (wg (j := 17) (b := false) rfl rfl rfl) (fun aa ww hk bs hd => xlenS Tryd.underlying9 rfl (dp hd 20 rfl)) rfl <|
    armS (wg (j := 17) (b := false) rfl rfl rfl) (fun aa ww hk bs hd => xmove rfl (bg bs s2)) rfl <|
    armS (wg (j := 17) (b := false) rfl rfl rfl) (fun aa ww hk bs hd => xmove rfl (bg bs s0)) rfl <|
    armS (wg (j := 17) (b := false) rfl rfl rfl) (fun aa ww hk bs hd => xlenS Tryd.underlying9 rfl (dp hd 23 rfl)) rfl <|
    armE (wg (j := 17) (b := false) rfl rfl rfl) (fun aa ww hk bs hd => xminI rfl (Or.inl rfl) (dp hd 22 rfl) (dp hd 24 rfl)) (congrArg (Value.int .i64) (by omega)) rfl <|
    armS (wg (j := 17) (b := false) rfl rfl rfl) (fun aa ww hk bs hd => xsub (Or.inl rfl) rfl (dp hd 21 rfl) (dp hd 25 rfl) (by omega) (by omega)) rfl <|
    armS (wg (j := 17) (b := false) rfl rfl rfl) (fun aa ww hk bs hd => xslice (u := .string ⟨p.toArray⟩) (l := some (.int .i64 ((p.length - min n p.length) : Nat))) (h := none) (m := none) rfl (dp hd 19 rfl) (congrArg some ((dp hd 26 rfl).trans (congrArg (Value.int .i64) (by omega)))) rfl rfl (run_sliceFrom Tryd.underlying9 p (p.length - min n p.length) (by omega))) rfl <|
    armC (wg (j := 17) (b := false) rfl rfl rfl) (fun aa ww hk bs hd => xcall1 rfl (dp hd 27 rfl) (en_louvrelaw14_text _ _)) (fun aa ww hk bs hd => ltext14_any (p.drop (p.length - min n p.length)) ww) rfl <|
    armE (wg (j := 17) (b := false) rfl rfl rfl) (fun aa ww hk bs hd => xnev rfl (dp hd 18 rfl) (dp hd 28 rfl)) (congrArg Value.bool (by rw [show p.length - min n p.length = p.length - n by omega, sameV_self]; rfl)) rfl <|
    aS (fun hk bs hd => xpickF rfl (dp hd 17 rfl) (dp hd 29 rfl)) rfl <|
    mvD 30 rfl rfl rfl rfl rfl rfl <|
    armS (wg (j := 31) (b := false) rfl rfl rfl) (fun aa ww hk bs hd => xfieldAddr rfl (bg bs s7) (by kernel_rfl)) rfl <|
    armS (wg (j := 31) (b := false) rfl rfl rfl) (fun aa ww hk bs hd => xloadB rfl (by kernel_rfl) (dp hd 32 rfl) ((ow.keep hk).box 2 rfl) rfl) rfl <|
    armS (wg (j := 31) (b := false) rfl rfl rfl) (fun aa ww hk bs hd => xmove rfl (bg bs s0)) rfl <|
    armS (wg (j := 31) (b := false) rfl rfl rfl) (fun aa ww hk bs hd => xmove rfl (bg bs s2)) rfl <|
    armS (wg (j := 31) (b := false) rfl rfl rfl) (fun aa ww hk bs hd => xmove rfl (bg bs s0)) rfl <|
    armS (wg (j := 31) (b := false) rfl rfl rfl) (fun aa ww hk bs hd => xlenS Tryd.underlying9 rfl (dp hd 36 rfl)) rfl <|
    armE (wg (j := 31) (b := false) rfl rfl rfl) (fun aa ww hk bs hd => xminI rfl (Or.inl rfl) (dp hd 35 rfl) (dp hd 37 rfl)) (congrArg (Value.int .i64) (by omega)) rfl <|
    armS (wg (j := 31) (b := false) rfl rfl rfl) (fun aa ww hk bs hd => xslice (u := .string ⟨p.toArray⟩) (l := none) (h := some (.int .i64 ((min n (p.length)) : Nat))) (m := none) rfl (dp hd 34 rfl) rfl (congrArg some (dp hd 38 rfl)) rfl (run_sliceTo Tryd.underlying9 p (min n (p.length)) (by omega))) rfl <|
    armE (wg (j := 31) (b := false) rfl rfl rfl) (fun aa ww hk bs hd => xneS rfl (dp hd 33 rfl) (dp hd 39 rfl)) (congrArg Value.bool (by rw [take_mn]; simp)) rfl <|
    aS (fun hk bs hd => xpickF rfl (dp hd 31 rfl) (dp hd 40 rfl)) rfl <|
    arm0) fun fa fw bs hv ap z q ow => ?_
  obtain ⟨s6, s0, s1, s2, s7⟩ := b5 bs s6 s0 s1 s2 s7; have s90 := gv hv 41 rfl rfl; refine wt hK8 ?_; refine wp_cond_false (s90) ?_; refine wp_skip ?_; refine tn hK7 ?_; refine sq fun hK9 => ?_
  refine ro [yV _, yV (aggV (⟨3, 0, p⟩ : Vl)), yV _, yV _, yV (aggV (⟨1, (m : Int) * 10000, []⟩ : Vl)), ySlice fw.heap.size 2 (rowObj [(⟨3, 0, p⟩ : Vl), (⟨1, (m : Int) * 10000, []⟩ : Vl)]), yV (aggV (⟨3, 0, p.take m⟩ : Vl)), yV _, yV _, yV (aggV (⟨1, (n : Int) * 10000, []⟩ : Vl)), ySlice fw.heap.size 2 (rowObj [(⟨3, 0, p.take m⟩ : Vl), (⟨1, (n : Int) * 10000, []⟩ : Vl)]), yV (aggV (⟨3, 0, (p.take m).take n⟩ : Vl)), yNew fw.heap.size (.cells #[.int .u8 0, .int .i64 0, .string ⟨[].toArray⟩] 24 (0, 0))] 13 175 z q ow (
    mvS s0 rfl rfl rfl rfl <|
    aC (fun hk bs hd => xcall1 rfl (dp hd 0 rfl) (en_louvrelaw14_text _ _)) (fun hk bs hd => ltext14_any p _) rfl <|
    mvS s1 rfl rfl rfl rfl <|
    aS (fun hk bs hd => xmul (Or.inr rfl) rfl (dp hd 2 rfl) rfl (by omega) (by omega)) rfl <|
    aC (fun hk bs hd => xcall1 rfl (dp hd 3 rfl) (en_louvrelaw14_num _ _)) (fun hk bs hd => lnum14_any ((m : Int) * 10000) _) rfl <|
    arm (fun aa ww hk bs hd => by
      have d1 := dp hd 1 rfl; have d4 := dp hd 4 rfl; exact stepX_new _ (want0 rfl) (xrow2 rfl (d1) (d4)) ⟨_, rfl, hk.size, Go.heap_alloc_new _ _⟩ ((Kept.refl _).alloc _) rfl (Nat.le_refl _)
      ) <|
    arm (fun aa ww hk bs hd => by
      have d5 := dL hd 5 rfl; obtain ⟨g5, e5, _, h5⟩ := d5; exact stepX_enter (want0 rfl) (xcall2 (u := .int .u8 32) (v := .slice (some ⟨g5, 0, none⟩) 2 2) rfl rfl e5 (en_louvrelaw14_of _ _)) ((of14_eq 32 g5 [(⟨3, 0, p⟩ : Vl), (⟨1, (m : Int) * 10000, []⟩ : Vl)] ww mx (HM.kept (ow.keep hk).kept) h5 (smalls2 (small_T hp) (small_num (by omega) (by omega))) (by simp) (left_n hp (by omega))).mono fun _ _ ⟨he, hk2⟩ => ⟨_, he, rfl, hk2⟩) rfl
      ) <|
    mvS s2 rfl rfl rfl rfl <|
    aS (fun hk bs hd => xmul (Or.inr rfl) rfl (dp hd 7 rfl) rfl (by omega) (by omega)) rfl <|
    aC (fun hk bs hd => xcall1 rfl (dp hd 8 rfl) (en_louvrelaw14_num _ _)) (fun hk bs hd => lnum14_any ((n : Int) * 10000) _) rfl <|
    arm (fun aa ww hk bs hd => by
      have d6 := dp hd 6 rfl; have d9 := dp hd 9 rfl; exact stepX_new _ (want0 rfl) (xrow2 rfl (d6) (d9)) ⟨_, rfl, hk.size, Go.heap_alloc_new _ _⟩ ((Kept.refl _).alloc _) rfl (Nat.le_refl _)
      ) <|
    arm (fun aa ww hk bs hd => by
      have d10 := dL hd 10 rfl; obtain ⟨g10, e10, _, h10⟩ := d10; exact stepX_enter (want0 rfl) (xcall2 (u := .int .u8 32) (v := .slice (some ⟨g10, 0, none⟩) 2 2) rfl rfl e10 (en_louvrelaw14_of _ _)) ((of14_eq 32 g10 [(⟨3, 0, p.take m⟩ : Vl), (⟨1, (n : Int) * 10000, []⟩ : Vl)] ww mx (HM.kept (ow.keep hk).kept) h10 (smalls2 (small_T (hp.take _)) (small_num (by omega) (by omega))) (by simp) (left_n (hp.take _) (by omega))).mono fun _ _ ⟨he, hk2⟩ => ⟨_, he, rfl, hk2⟩) rfl
      ) <|
    aP (fun hk bs hd => xalloc rfl (by kernel_rfl)) rfl <|
    arm0) fun fa fw bs hv ap z q ov => ?_
  obtain ⟨s6, s0, s1, s2, s7⟩ := b5 bs s6 s0 s1 s2 s7; have s102 := gv hv 11 rfl rfl; obtain ⟨gb4, s10, bgb4, hgb4⟩ := gotP hv 12 rfl rfl rfl; have ov := ov.cons hgb4 (Nat.le_trans ow.kept.size bgb4) (ow.below bgb4); have ow := ov; refine ws ow 0 0 s10 s102 fun fw ow => ?_; refine wt hK9 ?_; refine sq fun hK10 => ?_; refine sq fun hK11 => ?_
  refine ro [yV (aggV (⟨3, 0, (p.take m).take n⟩ : Vl)), yV _, yV (aggV (⟨3, 0, p⟩ : Vl)), yV _, yV _, yV (.int .i64 ((min m n : Nat) : Int)), yV _, yV (aggV (⟨1, ((min m n : Nat) : Int) * 10000, []⟩ : Vl)), ySlice fw.heap.size 2 (rowObj [(⟨3, 0, p⟩ : Vl), (⟨1, ((min m n : Nat) : Int) * 10000, []⟩ : Vl)]), yV (aggV (⟨3, 0, p.take (min m n)⟩ : Vl)), yV (.bool false)] 11 175 z q ow (
    aS (fun hk bs hd => xloadN 3 rfl (by kernel_rfl) (by kernel_rfl) (bg bs s10) ((ow.keep hk).box 0 rfl) (Nat.le_of_ble_eq_true rfl) rfl) rfl <|
    mvS s0 rfl rfl rfl rfl <|
    aC (fun hk bs hd => xcall1 rfl (dp hd 1 rfl) (en_louvrelaw14_text _ _)) (fun hk bs hd => ltext14_any p _) rfl <|
    mvS s1 rfl rfl rfl rfl <|
    mvS s2 rfl rfl rfl rfl <|
    aE (fun hk bs hd => xminI rfl (Or.inl rfl) (dp hd 3 rfl) (dp hd 4 rfl)) (congrArg (Value.int .i64) (by omega)) rfl <|
    aS (fun hk bs hd => xmul (Or.inr rfl) rfl (dp hd 5 rfl) rfl (by omega) (by omega)) rfl <|
    aC (fun hk bs hd => xcall1 rfl (dp hd 6 rfl) (en_louvrelaw14_num _ _)) (fun hk bs hd => lnum14_any (((min m n : Nat) : Int) * 10000) _) rfl <|
    arm (fun aa ww hk bs hd => by
      have d2 := dp hd 2 rfl; have d7 := dp hd 7 rfl; exact stepX_new _ (want0 rfl) (xrow2 rfl (d2) (d7)) ⟨_, rfl, hk.size, Go.heap_alloc_new _ _⟩ ((Kept.refl _).alloc _) rfl (Nat.le_refl _)
      ) <|
    arm (fun aa ww hk bs hd => by
      have d8 := dL hd 8 rfl; obtain ⟨g8, e8, _, h8⟩ := d8; exact stepX_enter (want0 rfl) (xcall2 (u := .int .u8 32) (v := .slice (some ⟨g8, 0, none⟩) 2 2) rfl rfl e8 (en_louvrelaw14_of _ _)) ((of14_eq 32 g8 [(⟨3, 0, p⟩ : Vl), (⟨1, ((min m n : Nat) : Int) * 10000, []⟩ : Vl)] ww mx (HM.kept (ow.keep hk).kept) h8 (smalls2 (small_T hp) (small_num (by omega) (by omega))) (by simp) (left_n hp (by omega))).mono fun _ _ ⟨he, hk2⟩ => ⟨_, he, rfl, hk2⟩) rfl
      ) <|
    aE (fun hk bs hd => xnev rfl (dp hd 0 rfl) (dp hd 9 rfl)) (congrArg Value.bool (by rw [List.take_take, Nat.min_comm n m, sameV_self]; rfl)) rfl <|
    arm0) fun fa fw bs hv ap z q ow => ?_
  obtain ⟨s6, s0, s2, s7⟩ := b4 bs s6 s0 s2 s7; have s113 := gv hv 10 rfl rfl; refine wt hK11 ?_; refine wp_cond_false (s113) ?_; refine wp_skip ?_; refine tn hK10 ?_; refine sq fun hK12 => ?_
  refine ro [yV _, yV (aggV (⟨3, 0, p⟩ : Vl)), ySlice fw.heap.size 1 (rowObj [(⟨3, 0, p⟩ : Vl)]), yV (aggV (⟨3, 0, upper p⟩ : Vl)), yV _, yV (aggV (⟨3, 0, p⟩ : Vl)), ySlice fw.heap.size 1 (rowObj [(⟨3, 0, p⟩ : Vl)]), yV (aggV (⟨3, 0, lower p⟩ : Vl)), yNew fw.heap.size (.cells #[.int .u8 0, .int .i64 0, .string ⟨[].toArray⟩] 24 (0, 0)), yNew fw.heap.size (.cells #[.int .u8 0, .int .i64 0, .string ⟨[].toArray⟩] 24 (0, 0))] 10 175 z q ow (
    mvS s0 rfl rfl rfl rfl <|
    aC (fun hk bs hd => xcall1 rfl (dp hd 0 rfl) (en_louvrelaw14_text _ _)) (fun hk bs hd => ltext14_any p _) rfl <|
    arm (fun aa ww hk bs hd => by
      have d1 := dp hd 1 rfl; exact stepX_new _ (want0 rfl) (xrow1 rfl (d1)) ⟨_, rfl, hk.size, Go.heap_alloc_new _ _⟩ ((Kept.refl _).alloc _) rfl (Nat.le_refl _)
      ) <|
    arm (fun aa ww hk bs hd => by
      have d2 := dL hd 2 rfl; obtain ⟨g2, e2, _, h2⟩ := d2; exact stepX_enter (want0 rfl) (xcall2 (u := .int .u8 35) (v := .slice (some ⟨g2, 0, none⟩) 1 1) rfl rfl e2 (en_louvrelaw14_of _ _)) ((of14_eq 35 g2 [(⟨3, 0, p⟩ : Vl)] ww mx (HM.kept (ow.keep hk).kept) h2 (smalls1 (small_T hp)) (by simp) (up_T hp)).mono fun _ _ ⟨he, hk2⟩ => ⟨_, he, rfl, hk2⟩) rfl
      ) <|
    mvS s0 rfl rfl rfl rfl <|
    aC (fun hk bs hd => xcall1 rfl (dp hd 4 rfl) (en_louvrelaw14_text _ _)) (fun hk bs hd => ltext14_any p _) rfl <|
    arm (fun aa ww hk bs hd => by
      have d5 := dp hd 5 rfl; exact stepX_new _ (want0 rfl) (xrow1 rfl (d5)) ⟨_, rfl, hk.size, Go.heap_alloc_new _ _⟩ ((Kept.refl _).alloc _) rfl (Nat.le_refl _)
      ) <|
    arm (fun aa ww hk bs hd => by
      have d6 := dL hd 6 rfl; obtain ⟨g6, e6, _, h6⟩ := d6; exact stepX_enter (want0 rfl) (xcall2 (u := .int .u8 36) (v := .slice (some ⟨g6, 0, none⟩) 1 1) rfl rfl e6 (en_louvrelaw14_of _ _)) ((of14_eq 36 g6 [(⟨3, 0, p⟩ : Vl)] ww mx (HM.kept (ow.keep hk).kept) h6 (smalls1 (small_T hp)) (by simp) (low_T hp)).mono fun _ _ ⟨he, hk2⟩ => ⟨_, he, rfl, hk2⟩) rfl
      ) <|
    aP (fun hk bs hd => xalloc rfl (by kernel_rfl)) rfl <|
    aP (fun hk bs hd => xalloc rfl (by kernel_rfl)) rfl <|
    arm0) fun fa fw bs hv ap z q ov => ?_
  obtain ⟨s6, s0, s2, s7⟩ := b4 bs s6 s0 s2 s7; have s117 := gv hv 3 rfl rfl; have s121 := gv hv 7 rfl rfl; obtain ⟨gb5, s11, bgb5, hgb5⟩ := gotP hv 8 rfl rfl rfl; have ov := ov.cons hgb5 (Nat.le_trans ow.kept.size bgb5) (ow.below bgb5); obtain ⟨gb6, s12, bgb6, hgb6⟩ := gotP hv 9 rfl rfl rfl; have ov := ov.cons hgb6 (Nat.le_trans ow.kept.size bgb6) (ne_cons (apartP ap 8 9 rfl rfl rfl s11 rfl s12 rfl) (ow.below bgb6)); have ow := ov; refine ws ow 1 0 s11 s117 fun fw ow => ?_; refine ws ow 0 0 s12 s121 fun fw ow => ?_; refine wt hK12 ?_; refine sq fun hK13 => ?_
  refine ro [yV (.pointer (some ⟨gb5, 2, none⟩)), yV _, yV _, yV _, yV _, yV (.bool true), yV _, yV (.pointer (some ⟨gb6, 2, none⟩)), yV _, yV _, yV _, yV _, yV (.bool true), yV _, yV _, yV (aggV (⟨3, 0, lower p⟩ : Vl)), ySlice fw.heap.size 1 (rowObj [(⟨3, 0, lower p⟩ : Vl)]), yV (aggV (⟨3, 0, upper (lower p)⟩ : Vl)), yV (aggV (⟨3, 0, upper p⟩ : Vl)), yV (.bool true), yV _, yV _, yV (aggV (⟨3, 0, p.take n⟩ : Vl)), yV _, yV (aggV (⟨3, 0, p⟩ : Vl)), ySlice fw.heap.size 2 (rowObj [(⟨3, 0, p.take n⟩ : Vl), (⟨3, 0, p⟩ : Vl)]), yV (aggV (vTruth (decide (p.take n = p)))), yV (.int .i64 ((vTruth (decide (p.take n = p))).n)), yV _, yV (aggV (⟨3, 0, p⟩ : Vl)), yV (aggV (⟨3, 0, p.take n⟩ : Vl)), ySlice fw.heap.size 2 (rowObj [(⟨3, 0, p⟩ : Vl), (⟨3, 0, p.take n⟩ : Vl)]), yV (aggV (vTruth (decide (p = p.take n)))), yV (.int .i64 ((vTruth (decide (p = p.take n))).n)), yV (.bool true), yV _, yV _, yV (aggV (⟨3, 0, p.take n⟩ : Vl)), yV _, yV (aggV (⟨3, 0, p⟩ : Vl)), ySlice fw.heap.size 2 (rowObj [(⟨3, 0, p.take n⟩ : Vl), (⟨3, 0, p⟩ : Vl)]), yV (aggV (vTruth (decide (p.take n = p)))), yV (.int .i64 ((vTruth (decide (p.take n = p))).n)), yV _, yV _, yV _, yV _, yV _, yV (.bool true), yV _, yV _, yV (.bool true), yV _, yV _] 54 175 z q ow (
    aS (fun hk bs hd => xfieldAddr rfl (bg bs s11) (by kernel_rfl)) rfl <|
    aS (fun hk bs hd => xloadB rfl (by kernel_rfl) (dp hd 0 rfl) ((ow.keep hk).box 1 rfl) rfl) rfl <|
    aS (fun hk bs hd => xlenS Tryd.underlying9 rfl (dp hd 1 rfl)) rfl <|
    mvS s0 rfl rfl rfl rfl <|
    aS (fun hk bs hd => xlenS Tryd.underlying9 rfl (dp hd 3 rfl)) rfl <|
    aE (fun hk bs hd => xeqi rfl (dp hd 2 rfl) (dp hd 4 rfl)) (congrArg Value.bool (by rw [upper_length]; simp)) rfl <|
    mvD 5 rfl rfl rfl rfl rfl rfl <|
    armS (wg (j := 6) (b := true) rfl rfl rfl) (fun aa ww hk bs hd => xfieldAddr rfl (bg bs s12) (by kernel_rfl)) rfl <|
    armS (wg (j := 6) (b := true) rfl rfl rfl) (fun aa ww hk bs hd => xloadB rfl (by kernel_rfl) (dp hd 7 rfl) ((ow.keep hk).box 0 rfl) rfl) rfl <|
    armS (wg (j := 6) (b := true) rfl rfl rfl) (fun aa ww hk bs hd => xlenS Tryd.underlying9 rfl (dp hd 8 rfl)) rfl <|
    armS (wg (j := 6) (b := true) rfl rfl rfl) (fun aa ww hk bs hd => xmove rfl (bg bs s0)) rfl <|
    armS (wg (j := 6) (b := true) rfl rfl rfl) (fun aa ww hk bs hd => xlenS Tryd.underlying9 rfl (dp hd 10 rfl)) rfl <|
    armE (wg (j := 6) (b := true) rfl rfl rfl) (fun aa ww hk bs hd => xeqi rfl (dp hd 9 rfl) (dp hd 11 rfl)) (congrArg Value.bool (by rw [lower_length]; simp)) rfl <|
    aS (fun hk bs hd => xpickT rfl (dp hd 6 rfl) (dp hd 12 rfl)) rfl <|
    mvD 13 rfl rfl rfl rfl rfl rfl <|
    armS (wg (j := 14) (b := true) rfl rfl rfl) (fun aa ww hk bs hd => xloadN 3 rfl (by kernel_rfl) (by kernel_rfl) (bg bs s12) ((ow.keep hk).box 0 rfl) (Nat.le_of_ble_eq_true rfl) rfl) rfl <|
    arm (fun aa ww hk bs hd => by
      have d14 := dp hd 14 rfl; have d15 := dp hd 15 rfl; exact stepX_new _ (want1 (j := 14) (b := true) rfl d14) (xrow1 rfl (d15)) ⟨_, rfl, hk.size, Go.heap_alloc_new _ _⟩ ((Kept.refl _).alloc _) rfl (Nat.le_refl _)
      ) <|
    arm (fun aa ww hk bs hd => by
      have d14 := dp hd 14 rfl; have d16 := dL hd 16 rfl; obtain ⟨g16, e16, _, h16⟩ := d16; exact stepX_enter (want1 (j := 14) (b := true) rfl d14) (xcall2 (u := .int .u8 35) (v := .slice (some ⟨g16, 0, none⟩) 1 1) rfl rfl e16 (en_louvrelaw14_of _ _)) ((of14_eq 35 g16 [(⟨3, 0, lower p⟩ : Vl)] ww mx (HM.kept (ow.keep hk).kept) h16 (smalls1 (small_T hp.lower)) (by simp) (up_T hp.lower)).mono fun _ _ ⟨he, hk2⟩ => ⟨_, he, rfl, hk2⟩) rfl
      ) <|
    armS (wg (j := 14) (b := true) rfl rfl rfl) (fun aa ww hk bs hd => xloadN 3 rfl (by kernel_rfl) (by kernel_rfl) (bg bs s11) ((ow.keep hk).box 1 rfl) (Nat.le_of_ble_eq_true rfl) rfl) rfl <|
    armE (wg (j := 14) (b := true) rfl rfl rfl) (fun aa ww hk bs hd => xeqv rfl (dp hd 17 rfl) (dp hd 18 rfl)) (congrArg Value.bool (by rw [upper_lower, sameV_self])) rfl <|
    aS (fun hk bs hd => xpickT rfl (dp hd 14 rfl) (dp hd 19 rfl)) rfl <|
    mvD 20 rfl rfl rfl rfl rfl rfl <|
    armS (wg (j := 21) (b := true) rfl rfl rfl) (fun aa ww hk bs hd => xloadN 3 rfl (by kernel_rfl) (by kernel_rfl) (bg bs s7) ((ow.keep hk).box 5 rfl) (Nat.le_of_ble_eq_true rfl) rfl) rfl <|
    armS (wg (j := 21) (b := true) rfl rfl rfl) (fun aa ww hk bs hd => xmove rfl (bg bs s0)) rfl <|
    armC (wg (j := 21) (b := true) rfl rfl rfl) (fun aa ww hk bs hd => xcall1 rfl (dp hd 23 rfl) (en_louvrelaw14_text _ _)) (fun aa ww hk bs hd => ltext14_any p ww) rfl <|
    arm (fun aa ww hk bs hd => by
      have d21 := dp hd 21 rfl; have d22 := dp hd 22 rfl; have d24 := dp hd 24 rfl; exact stepX_new _ (want1 (j := 21) (b := true) rfl d21) (xrow2 rfl (d22) (d24)) ⟨_, rfl, hk.size, Go.heap_alloc_new _ _⟩ ((Kept.refl _).alloc _) rfl (Nat.le_refl _)
      ) <|
    arm (fun aa ww hk bs hd => by
      have d21 := dp hd 21 rfl; have d25 := dL hd 25 rfl; obtain ⟨g25, e25, _, h25⟩ := d25; exact stepX_enter (want1 (j := 21) (b := true) rfl d21) (xcall2 (u := .int .u8 40) (v := .slice (some ⟨g25, 0, none⟩) 2 2) rfl rfl e25 (en_louvrelaw14_of _ _)) ((of14_eq 40 g25 [(⟨3, 0, p.take n⟩ : Vl), (⟨3, 0, p⟩ : Vl)] ww mx (HM.kept (ow.keep hk).kept) h25 (smalls2 (small_T (hp.take _)) (small_T hp)) (by simp) (exact_T (hp.take _) hp)).mono fun _ _ ⟨he, hk2⟩ => ⟨_, he, rfl, hk2⟩) rfl
      ) <|
    armS (wg (j := 21) (b := true) rfl rfl rfl) (fun aa ww hk bs hd => xfield rfl (dp hd 26 rfl) (by kernel_rfl)) rfl <|
    armS (wg (j := 21) (b := true) rfl rfl rfl) (fun aa ww hk bs hd => xmove rfl (bg bs s0)) rfl <|
    armC (wg (j := 21) (b := true) rfl rfl rfl) (fun aa ww hk bs hd => xcall1 rfl (dp hd 28 rfl) (en_louvrelaw14_text _ _)) (fun aa ww hk bs hd => ltext14_any p ww) rfl <|
    armS (wg (j := 21) (b := true) rfl rfl rfl) (fun aa ww hk bs hd => xloadN 3 rfl (by kernel_rfl) (by kernel_rfl) (bg bs s7) ((ow.keep hk).box 5 rfl) (Nat.le_of_ble_eq_true rfl) rfl) rfl <|
    arm (fun aa ww hk bs hd => by
      have d21 := dp hd 21 rfl; have d29 := dp hd 29 rfl; have d30 := dp hd 30 rfl; exact stepX_new _ (want1 (j := 21) (b := true) rfl d21) (xrow2 rfl (d29) (d30)) ⟨_, rfl, hk.size, Go.heap_alloc_new _ _⟩ ((Kept.refl _).alloc _) rfl (Nat.le_refl _)
      ) <|
    arm (fun aa ww hk bs hd => by
      have d21 := dp hd 21 rfl; have d31 := dL hd 31 rfl; obtain ⟨g31, e31, _, h31⟩ := d31; exact stepX_enter (want1 (j := 21) (b := true) rfl d21) (xcall2 (u := .int .u8 40) (v := .slice (some ⟨g31, 0, none⟩) 2 2) rfl rfl e31 (en_louvrelaw14_of _ _)) ((of14_eq 40 g31 [(⟨3, 0, p⟩ : Vl), (⟨3, 0, p.take n⟩ : Vl)] ww mx (HM.kept (ow.keep hk).kept) h31 (smalls2 (small_T hp) (small_T (hp.take _))) (by simp) (exact_T hp (hp.take _))).mono fun _ _ ⟨he, hk2⟩ => ⟨_, he, rfl, hk2⟩) rfl
      ) <|
    armS (wg (j := 21) (b := true) rfl rfl rfl) (fun aa ww hk bs hd => xfield rfl (dp hd 32 rfl) (by kernel_rfl)) rfl <|
    armE (wg (j := 21) (b := true) rfl rfl rfl) (fun aa ww hk bs hd => xeqi rfl (dp hd 27 rfl) (dp hd 33 rfl)) (congrArg Value.bool (by rw [show decide (p.take n = p) = decide (p = p.take n) from by simp only [eq_comm]]; simp)) rfl <|
    aS (fun hk bs hd => xpickT rfl (dp hd 21 rfl) (dp hd 34 rfl)) rfl <|
    mvD 35 rfl rfl rfl rfl rfl rfl <|
    armS (wg (j := 36) (b := true) rfl rfl rfl) (fun aa ww hk bs hd => xloadN 3 rfl (by kernel_rfl) (by kernel_rfl) (bg bs s7) ((ow.keep hk).box 5 rfl) (Nat.le_of_ble_eq_true rfl) rfl) rfl <|
    armS (wg (j := 36) (b := true) rfl rfl rfl) (fun aa ww hk bs hd => xmove rfl (bg bs s0)) rfl <|
    armC (wg (j := 36) (b := true) rfl rfl rfl) (fun aa ww hk bs hd => xcall1 rfl (dp hd 38 rfl) (en_louvrelaw14_text _ _)) (fun aa ww hk bs hd => ltext14_any p ww) rfl <|
    arm (fun aa ww hk bs hd => by
      have d36 := dp hd 36 rfl; have d37 := dp hd 37 rfl; have d39 := dp hd 39 rfl; exact stepX_new _ (want1 (j := 36) (b := true) rfl d36) (xrow2 rfl (d37) (d39)) ⟨_, rfl, hk.size, Go.heap_alloc_new _ _⟩ ((Kept.refl _).alloc _) rfl (Nat.le_refl _)
      ) <|
    arm (fun aa ww hk bs hd => by
      have d36 := dp hd 36 rfl; have d40 := dL hd 40 rfl; obtain ⟨g40, e40, _, h40⟩ := d40; exact stepX_enter (want1 (j := 36) (b := true) rfl d36) (xcall2 (u := .int .u8 40) (v := .slice (some ⟨g40, 0, none⟩) 2 2) rfl rfl e40 (en_louvrelaw14_of _ _)) ((of14_eq 40 g40 [(⟨3, 0, p.take n⟩ : Vl), (⟨3, 0, p⟩ : Vl)] ww mx (HM.kept (ow.keep hk).kept) h40 (smalls2 (small_T (hp.take _)) (small_T hp)) (by simp) (exact_T (hp.take _) hp)).mono fun _ _ ⟨he, hk2⟩ => ⟨_, he, rfl, hk2⟩) rfl
      ) <|
    armS (wg (j := 36) (b := true) rfl rfl rfl) (fun aa ww hk bs hd => xfield rfl (dp hd 41 rfl) (by kernel_rfl)) rfl <|
    armS (wg (j := 36) (b := true) rfl rfl rfl) (fun aa ww hk bs hd => xeqi rfl (dp hd 42 rfl) rfl) rfl <|
    armS (wg (j := 36) (b := true) rfl rfl rfl) (fun aa ww hk bs hd => xmove rfl (bg bs s2)) rfl <|
    armS (wg (j := 36) (b := true) rfl rfl rfl) (fun aa ww hk bs hd => xmove rfl (bg bs s0)) rfl <|
    armS (wg (j := 36) (b := true) rfl rfl rfl) (fun aa ww hk bs hd => xlenS Tryd.underlying9 rfl (dp hd 45 rfl)) rfl <|
    armS (wg (j := 36) (b := true) rfl rfl rfl) (fun aa ww hk bs hd => xgeq rfl (dp hd 44 rfl) (dp hd 46 rfl)) rfl <|
    armE (wg (j := 36) (b := true) rfl rfl rfl) (fun aa ww hk bs hd => xeqB rfl (dp hd 43 rfl) (dp hd 47 rfl)) (congrArg Value.bool (by rw [truth_one, show decide (p.take n = p) = decide (((p.length : Nat) : Int) ≤ (n : Int)) from by rw [decide_eq_decide, take_eq_iff]; omega]; simp)) rfl <|
    aS (fun hk bs hd => xpickT rfl (dp hd 36 rfl) (dp hd 48 rfl)) rfl <|
    mvD 49 rfl rfl rfl rfl rfl rfl <|
    armC (wg (j := 50) (b := true) rfl rfl rfl) (fun aa ww hk bs hd => xcall0 rfl (en_louvrelaw14_awake _ _)) (fun aa ww hk bs hd => awake14_any ww mx (HM.kept (ow.keep hk).kept)) rfl <|
    aS (fun hk bs hd => xpickT rfl (dp hd 50 rfl) (dp hd 51 rfl)) rfl <|
    asD 52 rfl rfl rfl rfl rfl rfl <|
    arm0) fun fa fw bs hv ap z q ow => ?_
  have s6 := gv hv 53 rfl rfl; refine wt hK13 ?_; refine wp_ret ?_; refine results_one rfl (res_tmp s6) q ?_; exact ⟨rfl, ow.kept⟩
end Go.Proofs.YtbpkfnoenkoabaaDoor
