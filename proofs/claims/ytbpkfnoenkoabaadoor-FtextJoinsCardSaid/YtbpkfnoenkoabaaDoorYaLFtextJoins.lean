/- The law FtextJoins, walked (printed by wip/mklaw13.py). -/
import Derived.Test.YtbpkfnoenkoabaaDoorYaMixAT
namespace Go.Proofs.YtbpkfnoenkoabaaDoor
set_option linter.unusedVariables false
set_option linter.unusedSimpArgs false
open Go.RowKit Lv
set_option maxRecDepth 100000
theorem tmod_rg (a m : Int) (h : 0 < m) : -m < Int.tmod a m ∧ Int.tmod a m < m := ⟨Int.lt_tmod_of_pos a h, Int.tmod_lt_of_pos a h⟩
theorem of14_eq {x : Vl} (fn : Nat) (g : Nat) (l : List Vl) (w : World) (mx : Int) (HM : Mx w mx) (hr : w.heap[g]? = some (rowObj l)) (hs : ∀ v ∈ l, Small v) (hl : l.length ≤ 100) (hx : (vCall14 fn l).1 = x) :
    Calls Tryd.prog 7 #[.int .u8 fn, .slice (some ⟨g, 0, none⟩) l.length l.length] w fun e w' => e = .returned (aggV x) ∧ Kept w w' := by
  have h := of14_any fn (some ⟨g, 0, none⟩) l.length l w mx HM (rowObj_row hr) hs (by omega) (Nat.le_refl _)
  rwa [hx] at h
theorem small_T {s : List UInt8} (h : Okay s) : Small (⟨3, 0, s⟩ : Vl) := ⟨⟨by show (-9223372036854775808 : Int) ≤ 0; omega, by show (0 : Int) ≤ 9223372036854775807; omega⟩, by have := h.1; show s.length ≤ 2000; omega⟩
theorem small_num {n : Int} (h1 : -9223372036854775808 ≤ n) (h2 : n ≤ 9223372036854775807) : Small (⟨1, n, []⟩ : Vl) := ⟨⟨h1, h2⟩, by show ([] : List UInt8).length ≤ 2000; decide⟩
theorem smalls1 {a : Vl} (ha : Small a) : ∀ v ∈ [a], Small v := fun v hv => by rw [List.mem_singleton] at hv; subst hv; exact ha
theorem smalls2 {a b : Vl} (ha : Small a) (hb : Small b) : ∀ v ∈ [a, b], Small v := fun v hv => by
  rcases List.mem_cons.1 hv with rfl | h
  · exact ha
  · exact smalls1 hb v h
theorem smalls3 {a b c : Vl} (ha : Small a) (hb : Small b) (hc : Small c) : ∀ v ∈ [a, b, c], Small v := fun v hv => by
  rcases List.mem_cons.1 hv with rfl | h
  · exact ha
  · exact smalls2 hb hc v h
theorem okay_plain (s : List UInt8) (m : Nat) (hm : m ≤ 256) : Okay ((s.take m).map plainC) ∧ ((s.take m).map plainC).length ≤ m := by
  have hl : ((s.take m).map plainC).length ≤ m := by rw [List.length_map, List.length_take]; omega
  refine ⟨⟨by omega, ?_⟩, hl⟩; unfold plain; rw [List.all_eq_true]; intro c hc; obtain ⟨x, _, rfl⟩ := List.mem_map.1 hc; exact plainC_ok x
theorem modK (a : Int) : ∃ n : Nat, n ≤ 300 ∧ Int.tmod (Int.tmod a 301 + 301) 301 = (n : Int) := by
  have t1 := tmod_rg a 301 (by decide); have e : Int.tmod (Int.tmod a 301 + 301) 301 = (Int.tmod a 301 + 301) % 301 := Int.tmod_eq_emod_of_nonneg (by omega); exact ⟨(Int.tmod (Int.tmod a 301 + 301) 301).toNat, by omega, by omega⟩
theorem text_big {s : List UInt8} (h : 256 < s.length) : vText s = ⟨4, 2, []⟩ := by unfold vText; rw [if_pos h]; rfl
theorem cat2 {s t : List UInt8} (h : Okay s) (g : Okay t) (hl : s.length + t.length ≤ 256) : (vCall14 38 [⟨3, 0, s⟩, ⟨3, 0, t⟩]).1 = ⟨3, 0, s ++ t⟩ := (join2_T h g).trans (text_T (by rw [List.length_append]; exact hl))
theorem len_n {s : List UInt8} (h : Okay s) : (vCall14 31 [⟨3, 0, s⟩]).1 = ⟨1, (s.length : Int) * 10000, []⟩ := len_T h
theorem rept_n {s : List UInt8} {n : Nat} (h : Okay s) (h1 : n ≤ 100000) : (vCall14 39 [⟨3, 0, s⟩, ⟨1, (n : Int) * 10000, []⟩]).1 = vText (List.replicate n s).flatten := by
  have := rept_T (n := (n : Int)) h (by omega) (by omega)
  rwa [Int.toNat_natCast] at this
theorem rept_one {s : List UInt8} (h : Okay s) : (vCall14 39 [⟨3, 0, s⟩, ⟨1, 10000, []⟩]).1 = ⟨3, 0, s⟩ := by
  have := rept_n (n := 1) h (by decide); rw [show (((1 : Nat) : Int) * 10000) = 10000 by rfl] at this; rw [this, show (List.replicate 1 s).flatten = s by simp, text_T h.1]
theorem big_of {s : List UInt8} {n : Nat} (h : ¬ (s.length : Int) * (n : Int) ≤ 256) : 256 < (List.replicate n s).flatten.length := by
  rw [flat_len, Nat.mul_comm]; have : ((s.length * n : Nat) : Int) = (s.length : Int) * (n : Int) := by push_cast; rfl
  omega
theorem fit_of {s : List UInt8} {n : Nat} (h : (s.length : Int) * (n : Int) ≤ 256) : n * s.length ≤ 256 := by
  rw [Nat.mul_comm]; have : ((s.length * n : Nat) : Int) = (s.length : Int) * (n : Int) := by push_cast; rfl
  omega
theorem mul_rng {x n : Nat} (hx : x ≤ 300) (hn : n ≤ 300) : -9223372036854775808 ≤ (x : Int) * (n : Int) ∧ (x : Int) * (n : Int) ≤ 9223372036854775807 := by
  have h : x * n ≤ 300 * 300 := Nat.mul_le_mul hx hn; have : ((x * n : Nat) : Int) = (x : Int) * (n : Int) := by push_cast; rfl
  omega
theorem rep_take {s : List UInt8} {n : Nat} (h : n ≠ 0) : (List.replicate n s).flatten.take s.length = s ∧ s.length ≤ (List.replicate n s).flatten.length := by
  obtain ⟨k, rfl⟩ : ∃ k, n = k + 1 := ⟨n - 1, by omega⟩; rw [List.replicate_succ, List.flatten_cons]; exact ⟨List.take_left' rfl, by rw [List.length_append]; omega⟩
theorem en_louvrelaw14_awake : En 10 := by intro args w; go_simp
theorem en_louvrelaw14_of : En 7 := by intro args w; go_simp
theorem en_louvrelaw14_plain : En 6 := by intro args w; go_simp
set_option maxHeartbeats 8000000 in
theorem FtextJoins_walk (x0 y0 z0 : ByteArray) (a1 : Int) (w0 : x0.size ≤ maxLen ∧ y0.size ≤ maxLen ∧ z0.size ≤ maxLen) (w1 : (Lit.int .i64 a1).wf = true) (w : World) (mx : Int) (HM : Mx w mx) :
    Calls Tryd.prog 5 #[.agg #[.string x0, .string y0, .string z0], .int .i64 a1] w fun e w' => e = .returned (.bool true) ∧ Below w.heap.size w w' := by
  have r1 := Go.bounds_i64 w1; clear w1; have t1 := tmod_rg a1 301 (by decide); obtain ⟨t0, rfl⟩ : ∃ l : List UInt8, x0 = ⟨l.toArray⟩ := ⟨x0.data.toList, bytes_of rfl⟩; obtain ⟨t1, rfl⟩ : ∃ l : List UInt8, y0 = ⟨l.toArray⟩ := ⟨y0.data.toList, bytes_of rfl⟩; obtain ⟨t2, rfl⟩ : ∃ l : List UInt8, z0 = ⟨l.toArray⟩ := ⟨z0.data.toList, bytes_of rfl⟩; have hl0 : t0.length ≤ 9223372036854775807 := w0.1; have hl1 : t1.length ≤ 9223372036854775807 := w0.2.1; have hl2 : t2.length ≤ 9223372036854775807 := w0.2.2; clear w0; go_enter Tryd.func5, Tryd.ntmps5; refine sq fun hK1 => ?_
  refine ro [yNew w.heap.size (.cells #[.string ⟨t0.toArray⟩, .string ⟨t1.toArray⟩, .string ⟨t2.toArray⟩] 32 (0, 0)), yV _] 2 140 rfl rfl (Own.start w) (
    aP (fun hk bs hd => xbox rfl (bs.get 0 rfl rfl) (by kernel_rfl)) rfl <|
    aS (fun hk bs hd => xassign rfl rfl) rfl <|
    arm0) fun fa fw bs hv ap z q ov => ?_
  have s1 := bs.get 1 rfl rfl; obtain ⟨gb1, s2, bgb1, hgb1⟩ := gotP hv 0 rfl rfl rfl; have ov := ov.cons hgb1 (Nat.le_trans (Own.start w).kept.size bgb1) ((Own.start w).below bgb1); have s4 := gv hv 1 rfl rfl; have ow := ov; refine wt hK1 ?_; refine sq fun hK2 => ?_
  refine ro [yV _, yV _, yV _, yV _] 4 140 z q ow (
    mvS s1 rfl rfl rfl rfl <|
    aS (fun hk bs hd => xrem (Or.inl rfl) rfl (dp hd 0 rfl) rfl (by omega) (by omega) (by omega)) rfl <|
    aS (fun hk bs hd => xadd (Or.inl rfl) rfl (dp hd 1 rfl) rfl (by omega) (by omega)) rfl <|
    aS (fun hk bs hd => xrem (Or.inl rfl) rfl (dp hd 2 rfl) rfl (by omega) (by omega) (by omega)) rfl <|
    arm0) fun fa fw bs hv ap z q ow => ?_
  obtain ⟨s1, s2, s4⟩ := b3 bs s1 s2 s4; have s14 := gv hv 3 rfl rfl; refine wl_value (v := .int .i64 (Int.tmod ((Int.tmod a1 301) + 301) 301)) (want0 rfl) (xassign rfl s14) ?_; obtain ⟨n, hn, en⟩ := modK a1; refine wl_nil (fun fr u => fr.tmps.size = 140 ∧ fr.defers = [] ∧ Own w [Th.obj gb1 (.cells #[.string ⟨t0.toArray⟩, .string ⟨t1.toArray⟩, .string ⟨t2.toArray⟩] 32 (0, 0))] u ∧ fr.eval (.tmp 2) = .pointer (some ⟨gb1, 0, none⟩) ∧ fr.eval (.tmp 4) = .bool false ∧ fr.eval (.tmp 1) = .int .i64 (n : Int)) ⟨put_size z, put_def q, ow, pb 1 s2 rfl, pb 1 s4 rfl, ((put_in (t := 1) z rfl).trans (congrArg (Value.int .i64) en))⟩ ?_; rintro fa fw ⟨z, q, ow, s2, s4, s1⟩; refine tn hK2 ?_; refine sq fun hK3 => ?_
  refine ro [yV (.pointer (some ⟨gb1, 0, none⟩)), yV _, yV (.string ⟨((t0.take 120).map plainC).toArray⟩), yV (.pointer (some ⟨gb1, 1, none⟩)), yV _, yV (.string ⟨((t1.take 120).map plainC).toArray⟩), yV (.pointer (some ⟨gb1, 2, none⟩)), yV _, yV (.string ⟨((t2.take 120).map plainC).toArray⟩), yV _, yV _, yV _] 12 140 z q ow (
    aS (fun hk bs hd => xindexAddr rfl (bg bs s2) rfl (by kernel_rfl)) rfl <|
    aS (fun hk bs hd => xloadB rfl (by kernel_rfl) (dp hd 0 rfl) ((ow.keep hk).box 0 rfl) rfl) rfl <|
    aC (fun hk bs hd => xcall2 rfl (dp hd 1 rfl) rfl (en_louvrelaw14_plain _ _)) (fun hk bs hd => plain14_any t0 120 _ (by omega) (by decide)) rfl <|
    aS (fun hk bs hd => xindexAddr rfl (bg bs s2) rfl (by kernel_rfl)) rfl <|
    aS (fun hk bs hd => xloadB rfl (by kernel_rfl) (dp hd 3 rfl) ((ow.keep hk).box 0 rfl) rfl) rfl <|
    aC (fun hk bs hd => xcall2 rfl (dp hd 4 rfl) rfl (en_louvrelaw14_plain _ _)) (fun hk bs hd => plain14_any t1 120 _ (by omega) (by decide)) rfl <|
    aS (fun hk bs hd => xindexAddr rfl (bg bs s2) rfl (by kernel_rfl)) rfl <|
    aS (fun hk bs hd => xloadB rfl (by kernel_rfl) (dp hd 6 rfl) ((ow.keep hk).box 0 rfl) rfl) rfl <|
    aC (fun hk bs hd => xcall2 rfl (dp hd 7 rfl) rfl (en_louvrelaw14_plain _ _)) (fun hk bs hd => plain14_any t2 120 _ (by omega) (by decide)) rfl <|
    asD 2 rfl rfl rfl rfl rfl rfl <|
    asD 5 rfl rfl rfl rfl rfl rfl <|
    asD 8 rfl rfl rfl rfl rfl rfl <|
    arm0) fun fa fw bs hv ap z q ow => ?_
  obtain ⟨s4, s1⟩ := b2 bs s4 s1; have s5 := gv hv 9 rfl rfl; have s6 := gv hv 10 rfl rfl; have s7 := gv hv 11 rfl rfl; refine wl_nil (fun fr u => ∃ (a : List UInt8), ∃ (b : List UInt8), ∃ (c : List UInt8), (Okay a) ∧ (a.length ≤ 120) ∧ (Okay b) ∧ (b.length ≤ 120) ∧ (Okay c) ∧ (c.length ≤ 120) ∧ fr.tmps.size = 140 ∧ fr.defers = [] ∧ Own w [Th.obj gb1 (.cells #[.string ⟨t0.toArray⟩, .string ⟨t1.toArray⟩, .string ⟨t2.toArray⟩] 32 (0, 0))] u ∧ fr.eval (.tmp 4) = .bool false ∧ fr.eval (.tmp 1) = .int .i64 (n : Int) ∧ fr.eval (.tmp 5) = .string ⟨a.toArray⟩ ∧ fr.eval (.tmp 6) = .string ⟨b.toArray⟩ ∧ fr.eval (.tmp 7) = .string ⟨c.toArray⟩) ⟨((t0.take 120).map plainC), ((t1.take 120).map plainC), ((t2.take 120).map plainC), (okay_plain t0 120 (by decide)).1, (okay_plain t0 120 (by decide)).2, (okay_plain t1 120 (by decide)).1, (okay_plain t1 120 (by decide)).2, (okay_plain t2 120 (by decide)).1, (okay_plain t2 120 (by decide)).2, z, q, ow, s4, s1, s5, s6, s7⟩ ?_; rintro fa fw ⟨a, b, c, ha, hal, hb, hbl, hc, hcl, z, q, ow, s4, s1, s5, s6, s7⟩; refine tn hK3 ?_; refine sq fun hK4 => ?_
  refine ro [yV _, yV _, yV _, yV _, yV _, yV _] 6 140 z q ow (
    mvS s5 rfl rfl rfl rfl <|
    mvS s6 rfl rfl rfl rfl <|
    aS (fun hk bs hd => xcatS rfl (dp hd 0 rfl) (dp hd 1 rfl) (by omega)) rfl <|
    mvS s7 rfl rfl rfl rfl <|
    aS (fun hk bs hd => xcatS rfl (dp hd 2 rfl) (dp hd 3 rfl) (by (try simp only [List.length_append]); omega)) rfl <|
    asD 4 rfl rfl rfl rfl rfl rfl <|
    arm0) fun fa fw bs hv ap z q ow => ?_
  obtain ⟨s4, s1, s5, s6, s7⟩ := b5 bs s4 s1 s5 s6 s7; have s8 := gv hv 5 rfl rfl; refine wt hK4 ?_; refine sq fun hK5 => ?_
  refine ro [yV _, yV (aggV (⟨3, 0, a⟩ : Vl)), yV _, yV (aggV (⟨3, 0, b⟩ : Vl)), yV _, yV (aggV (⟨3, 0, c⟩ : Vl)), ySlice fw.heap.size 3 (rowObj [(⟨3, 0, a⟩ : Vl), (⟨3, 0, b⟩ : Vl), (⟨3, 0, c⟩ : Vl)]), yV (aggV (vText (a ++ (b ++ c)))), yNew fw.heap.size (.cells #[.int .u8 0, .int .i64 0, .string ⟨[].toArray⟩] 24 (0, 0))] 9 140 z q ow (
    mvS s5 rfl rfl rfl rfl <|
    aC (fun hk bs hd => xcall1 rfl (dp hd 0 rfl) (en_louvrelaw14_text _ _)) (fun hk bs hd => ltext14_any a _) rfl <|
    mvS s6 rfl rfl rfl rfl <|
    aC (fun hk bs hd => xcall1 rfl (dp hd 2 rfl) (en_louvrelaw14_text _ _)) (fun hk bs hd => ltext14_any b _) rfl <|
    mvS s7 rfl rfl rfl rfl <|
    aC (fun hk bs hd => xcall1 rfl (dp hd 4 rfl) (en_louvrelaw14_text _ _)) (fun hk bs hd => ltext14_any c _) rfl <|
    arm (fun aa ww hk bs hd => by
      have d1 := dp hd 1 rfl; have d3 := dp hd 3 rfl; have d5 := dp hd 5 rfl; exact stepX_new _ (want0 rfl) (xrow3 rfl (d1) (d3) (d5)) ⟨_, rfl, hk.size, Go.heap_alloc_new _ _⟩ ((Kept.refl _).alloc _) rfl (Nat.le_refl _)
      ) <|
    arm (fun aa ww hk bs hd => by
      have d6 := dL hd 6 rfl; obtain ⟨g6, e6, _, h6⟩ := d6; exact stepX_enter (want0 rfl) (xcall2 (u := .int .u8 38) (v := .slice (some ⟨g6, 0, none⟩) 3 3) rfl rfl e6 (en_louvrelaw14_of _ _)) ((of14_eq 38 g6 [(⟨3, 0, a⟩ : Vl), (⟨3, 0, b⟩ : Vl), (⟨3, 0, c⟩ : Vl)] ww mx (HM.kept (ow.keep hk).kept) h6 (smalls3 (small_T ha) (small_T hb) (small_T hc)) (by simp) (join3_T ha hb hc)).mono fun _ _ ⟨he, hk2⟩ => ⟨_, he, rfl, hk2⟩) rfl
      ) <|
    aP (fun hk bs hd => xalloc rfl (by kernel_rfl)) rfl <|
    arm0) fun fa fw bs hv ap z q ov => ?_
  obtain ⟨s4, s1, s5, s6, s7, s8⟩ := b6 bs s4 s1 s5 s6 s7 s8; have s36 := gv hv 7 rfl rfl; obtain ⟨gb2, s9, bgb2, hgb2⟩ := gotP hv 8 rfl rfl rfl; have ov := ov.cons hgb2 (Nat.le_trans ow.kept.size bgb2) (ow.below bgb2); have ow := ov; refine ws ow 0 0 s9 s36 fun fw ow => ?_; refine wt hK5 ?_; refine sq fun hK6 => ?_; refine sq fun hK7 => ?_
  refine ro [yV _, yV _, yV _] 3 140 z q ow (
    mvS s8 rfl rfl rfl rfl <|
    aS (fun hk bs hd => xlenS Tryd.underlying9 rfl (dp hd 0 rfl)) rfl <|
    aS (fun hk bs hd => xgtr rfl (dp hd 1 rfl) rfl) rfl <|
    arm0) fun fa fw bs hv ap z q ow => ?_
  obtain ⟨s4, s1, s5, s6, s7, s8, s9⟩ := b7 bs s4 s1 s5 s6 s7 s8 s9; have s39 := gv hv 2 rfl rfl; refine wt hK7 ?_
  by_cases hc1 : (256 : Int) < ((((a ++ b) ++ c).length : Nat) : Int)
  ·refine ct s39 ((decide_eq_true_iff).2 hc1) ?_
   refine sq fun hK8 => ?_; have hbig : 256 < (a ++ (b ++ c)).length := by rw [← List.append_assoc]; omega
   refine ro [yV (aggV (⟨4, 2, []⟩ : Vl)), yV (aggV (⟨4, 2, []⟩ : Vl)), yV (.bool false)] 3 140 z q ow (
     aE (fun hk bs hd => xloadN 3 rfl (by kernel_rfl) (by kernel_rfl) (bg bs s9) ((ow.keep hk).box 0 rfl) (Nat.le_of_ble_eq_true rfl) rfl) (congrArg aggV (text_big hbig)) rfl <|
     aS (fun hk bs hd => xbuild (us := #[(0, .int .u8 4), (1, .int .i64 2)]) rfl (by simp only [List.map_toArray, List.map_cons, List.map_nil]; rfl) (by kernel_rfl)) rfl <|
     aE (fun hk bs hd => xnev rfl (dp hd 0 rfl) (dp hd 1 rfl)) (congrArg Value.bool (by rw [sameV_self]; rfl)) rfl <|
     arm0) fun fa fw bs hv ap z q ow => ?_
   obtain ⟨s4, s1, s5⟩ := b3 bs s4 s1 s5; have s42 := gv hv 2 rfl rfl; refine wt hK8 ?_; refine wp_cond_false (s42) ?_; refine wp_skip ?_; refine tn hK6 ?_; refine sq fun hK9 => ?_
   refine ro [yV _, yV (aggV (⟨3, 0, a⟩ : Vl)), yV _, yV _, yV (aggV (⟨1, (n : Int) * 10000, []⟩ : Vl)), ySlice fw.heap.size 2 (rowObj [(⟨3, 0, a⟩ : Vl), (⟨1, (n : Int) * 10000, []⟩ : Vl)]), yV (aggV (vText (List.replicate n a).flatten)), yNew fw.heap.size (.cells #[.int .u8 0, .int .i64 0, .string ⟨[].toArray⟩] 24 (0, 0))] 8 140 z q ow (
     mvS s5 rfl rfl rfl rfl <|
     aC (fun hk bs hd => xcall1 rfl (dp hd 0 rfl) (en_louvrelaw14_text _ _)) (fun hk bs hd => ltext14_any a _) rfl <|
     mvS s1 rfl rfl rfl rfl <|
     aS (fun hk bs hd => xmul (Or.inr rfl) rfl (dp hd 2 rfl) rfl (by omega) (by omega)) rfl <|
     aC (fun hk bs hd => xcall1 rfl (dp hd 3 rfl) (en_louvrelaw14_num _ _)) (fun hk bs hd => lnum14_any ((n : Int) * 10000) _) rfl <|
     arm (fun aa ww hk bs hd => by
       have d1 := dp hd 1 rfl; have d4 := dp hd 4 rfl; exact stepX_new _ (want0 rfl) (xrow2 rfl (d1) (d4)) ⟨_, rfl, hk.size, Go.heap_alloc_new _ _⟩ ((Kept.refl _).alloc _) rfl (Nat.le_refl _)
       ) <|
     arm (fun aa ww hk bs hd => by
       have d5 := dL hd 5 rfl; obtain ⟨g5, e5, _, h5⟩ := d5; exact stepX_enter (want0 rfl) (xcall2 (u := .int .u8 39) (v := .slice (some ⟨g5, 0, none⟩) 2 2) rfl rfl e5 (en_louvrelaw14_of _ _)) ((of14_eq 39 g5 [(⟨3, 0, a⟩ : Vl), (⟨1, (n : Int) * 10000, []⟩ : Vl)] ww mx (HM.kept (ow.keep hk).kept) h5 (smalls2 (small_T ha) (small_num (by omega) (by omega))) (by simp) (rept_n ha (by omega))).mono fun _ _ ⟨he, hk2⟩ => ⟨_, he, rfl, hk2⟩) rfl
       ) <|
     aP (fun hk bs hd => xalloc rfl (by kernel_rfl)) rfl <|
     arm0) fun fa fw bs hv ap z q ov => ?_
   obtain ⟨s4, s1, s5⟩ := b3 bs s4 s1 s5; have s91 := gv hv 6 rfl rfl; obtain ⟨gb3, s10, bgb3, hgb3⟩ := gotP hv 7 rfl rfl rfl; have ov := ov.cons hgb3 (Nat.le_trans ow.kept.size bgb3) (ow.below bgb3); have ow := ov; refine ws ow 0 0 s10 s91 fun fw ow => ?_; refine wt hK9 ?_; refine sq fun hK10 => ?_; refine sq fun hK11 => ?_
   refine ro [yV _, yV _, yV _, yV _, yV _] 5 140 z q ow (
     mvS s5 rfl rfl rfl rfl <|
     aS (fun hk bs hd => xlenS Tryd.underlying9 rfl (dp hd 0 rfl)) rfl <|
     mvS s1 rfl rfl rfl rfl <|
     aS (fun hk bs hd => xmul (Or.inl rfl) rfl (dp hd 1 rfl) (dp hd 2 rfl) (mul_rng (by omega) hn).1 (mul_rng (by omega) hn).2) rfl <|
     aS (fun hk bs hd => xgtr rfl (dp hd 3 rfl) rfl) rfl <|
     arm0) fun fa fw bs hv ap z q ow => ?_
   obtain ⟨s4, s1, s5, s10⟩ := b4 bs s4 s1 s5 s10; have s96 := gv hv 4 rfl rfl; refine wt hK11 ?_
   by_cases hc2 : (256 : Int) < (((a.length : Nat) : Int) * (n : Int) : Int)
   ·refine ct s96 ((decide_eq_true_iff).2 hc2) ?_
    refine sq fun hK12 => ?_; have hrb : 256 < ((List.replicate n a).flatten).length := big_of (by omega)
    refine ro [yV (aggV (⟨4, 2, []⟩ : Vl)), yV (aggV (⟨4, 2, []⟩ : Vl)), yV (.bool true), yV _, yV (.bool true), yV _, yV _] 7 140 z q ow (
      aE (fun hk bs hd => xloadN 3 rfl (by kernel_rfl) (by kernel_rfl) (bg bs s10) ((ow.keep hk).box 0 rfl) (Nat.le_of_ble_eq_true rfl) rfl) (congrArg aggV (text_big hrb)) rfl <|
      aS (fun hk bs hd => xbuild (us := #[(0, .int .u8 4), (1, .int .i64 2)]) rfl (by simp only [List.map_toArray, List.map_cons, List.map_nil]; rfl) (by kernel_rfl)) rfl <|
      aE (fun hk bs hd => xeqv rfl (dp hd 0 rfl) (dp hd 1 rfl)) (congrArg Value.bool (sameV_self _)) rfl <|
      mvD 2 rfl rfl rfl rfl rfl rfl <|
      armC (wg (j := 3) (b := true) rfl rfl rfl) (fun aa ww hk bs hd => xcall0 rfl (en_louvrelaw14_awake _ _)) (fun aa ww hk bs hd => awake14_any ww mx (HM.kept (ow.keep hk).kept)) rfl <|
      aS (fun hk bs hd => xpickT rfl (dp hd 3 rfl) (dp hd 4 rfl)) rfl <|
      asD 5 rfl rfl rfl rfl rfl rfl <|
      arm0) fun fa fw bs hv ap z q ow => ?_
    obtain ⟨s1, s5, s10⟩ := b3 bs s1 s5 s10; have s4 := gv hv 6 rfl rfl; refine wt hK12 ?_; refine wp_ret ?_; refine then_r ?_; refine results_one rfl (res_tmp s4) q ?_; exact ⟨rfl, ow.kept⟩
   refine cf s96 (decide_eq_true_iff) hc2 ?_; refine wp_skip ?_; refine tn hK10 ?_; refine sq fun hK13 => ?_; have hrf := fit_of (s := a) (n := n) (by omega); have hro : Okay (List.replicate n a).flatten := ha.rep n hrf; have hrt : vText (List.replicate n a).flatten = ⟨3, 0, (List.replicate n a).flatten⟩ := text_T hro.1
   refine ro [yV (.pointer (some ⟨gb3, 0, none⟩)), yV (.int .u8 3), yV (.bool true), yV _, yV (.pointer (some ⟨gb3, 2, none⟩)), yV (.string ⟨((List.replicate n a).flatten).toArray⟩), yV _, yV _, yV _, yV _, yV _, yV (.bool true), yV _, yV _, yV _, yV _, yV _, yIf (((decide ((n : Int) = (0 : Int))) = false)) (yV (.pointer (some ⟨gb3, 2, none⟩))), yIf (((decide ((n : Int) = (0 : Int))) = false)) (yV (.string ⟨((List.replicate n a).flatten).toArray⟩)), yIf (((decide ((n : Int) = (0 : Int))) = false)) (yV (.string ⟨a.toArray⟩)), yIf (((decide ((n : Int) = (0 : Int))) = false)) (yV (.int .i64 ((a.length : Nat) : Int))), yIf (((decide ((n : Int) = (0 : Int))) = false)) (yV (.string ⟨(((List.replicate n a).flatten).take (a.length)).toArray⟩)), yIf (((decide ((n : Int) = (0 : Int))) = false)) (yV (.string ⟨a.toArray⟩)), yIf (((decide ((n : Int) = (0 : Int))) = false)) (yV (.bool true)), yV (.bool true), yV _, yV _, yV (aggV (⟨3, 0, (List.replicate n a).flatten⟩ : Vl)), yV (aggV (⟨1, 10000, []⟩ : Vl)), ySlice fw.heap.size 2 (rowObj [(⟨3, 0, (List.replicate n a).flatten⟩ : Vl), (⟨1, 10000, []⟩ : Vl)]), yV (aggV (⟨3, 0, (List.replicate n a).flatten⟩ : Vl)), yV (aggV (⟨3, 0, (List.replicate n a).flatten⟩ : Vl)), yV (.bool true), yV _, yV _, yV (.bool true), yV _, yV _] 38 140 z q ow (
     aS (fun hk bs hd => xfieldAddr rfl (bg bs s10) (by kernel_rfl)) rfl <|
     aE (fun hk bs hd => xloadB rfl (by kernel_rfl) (dp hd 0 rfl) ((ow.keep hk).box 0 rfl) rfl) (congrArg (Value.int .u8) (by rw [hrt]; rfl)) rfl <|
     aE (fun hk bs hd => xeqi rfl (dp hd 1 rfl) rfl) (congrArg Value.bool rfl) rfl <|
     mvD 2 rfl rfl rfl rfl rfl rfl <|
     armS (wg (j := 3) (b := true) rfl rfl rfl) (fun aa ww hk bs hd => xfieldAddr rfl (bg bs s10) (by kernel_rfl)) rfl <|
     armE (wg (j := 3) (b := true) rfl rfl rfl) (fun aa ww hk bs hd => xloadB rfl (by kernel_rfl) (dp hd 4 rfl) ((ow.keep hk).box 0 rfl) rfl) (congrArg (fun l : List UInt8 => Value.string ⟨l.toArray⟩) (congrArg Vl.t hrt)) rfl <|
     armS (wg (j := 3) (b := true) rfl rfl rfl) (fun aa ww hk bs hd => xlenS Tryd.underlying9 rfl (dp hd 5 rfl)) rfl <|
     armS (wg (j := 3) (b := true) rfl rfl rfl) (fun aa ww hk bs hd => xmove rfl (bg bs s5)) rfl <|
     armS (wg (j := 3) (b := true) rfl rfl rfl) (fun aa ww hk bs hd => xlenS Tryd.underlying9 rfl (dp hd 7 rfl)) rfl <|
     armS (wg (j := 3) (b := true) rfl rfl rfl) (fun aa ww hk bs hd => xmove rfl (bg bs s1)) rfl <|
     armS (wg (j := 3) (b := true) rfl rfl rfl) (fun aa ww hk bs hd => xmul (Or.inl rfl) rfl (dp hd 8 rfl) (dp hd 9 rfl) (mul_rng (by omega) hn).1 (mul_rng (by omega) hn).2) rfl <|
     armE (wg (j := 3) (b := true) rfl rfl rfl) (fun aa ww hk bs hd => xeqi rfl (dp hd 6 rfl) (dp hd 10 rfl)) (congrArg Value.bool (by rw [flat_len, decide_eq_true_eq]; push_cast; exact Int.mul_comm _ _)) rfl <|
     aS (fun hk bs hd => xpickT rfl (dp hd 3 rfl) (dp hd 11 rfl)) rfl <|
     mvD 12 rfl rfl rfl rfl rfl rfl <|
     armS (wg (j := 13) (b := true) rfl rfl rfl) (fun aa ww hk bs hd => xmove rfl (bg bs s1)) rfl <|
     armS (wg (j := 13) (b := true) rfl rfl rfl) (fun aa ww hk bs hd => xeqi rfl (dp hd 14 rfl) rfl) rfl <|
     armS (wg (j := 13) (b := true) rfl rfl rfl) (fun aa ww hk bs hd => xmove rfl (dp hd 15 rfl)) rfl <|
     arm (fun aa ww hk bs hd => by
       have d16 := dp hd 16 rfl
       by_cases hz : ((decide ((n : Int) = (0 : Int))) = false)
       · exact stepX_same (v := .pointer (some ⟨gb3, 2, none⟩)) (want1 (j := 16) (b := false) rfl (d16.trans (congrArg Value.bool hz))) (xfieldAddr rfl (bg bs s10) (by kernel_rfl)) ⟨fun _ => rfl, fun c => absurd hz c⟩ rfl
       · exact stepX_skip (wantN (j := 16) (b := false) (b' := true) rfl (d16.trans (congrArg Value.bool ((Bool.not_eq_false _).mp hz))) rfl) ⟨fun c => absurd c hz, fun _ => rfl⟩ rfl
       ) <|
     arm (fun aa ww hk bs hd => by
       have d16 := dp hd 16 rfl; have d17 := dI hd 17 rfl
       by_cases hz : ((decide ((n : Int) = (0 : Int))) = false)
       · exact stepX_same (v := .string ⟨((vText (List.replicate n a).flatten).t).toArray⟩) (want1 (j := 16) (b := false) rfl (d16.trans (congrArg Value.bool hz))) (xloadB rfl (by kernel_rfl) (d17.1 hz) ((ow.keep hk).box 0 rfl) rfl) ⟨fun _ => (congrArg (fun l : List UInt8 => Value.string ⟨l.toArray⟩) (congrArg Vl.t hrt)), fun c => absurd hz c⟩ rfl
       · exact stepX_skip (wantN (j := 16) (b := false) (b' := true) rfl (d16.trans (congrArg Value.bool ((Bool.not_eq_false _).mp hz))) rfl) ⟨fun c => absurd c hz, fun _ => rfl⟩ rfl
       ) <|
     arm (fun aa ww hk bs hd => by
       have d16 := dp hd 16 rfl
       by_cases hz : ((decide ((n : Int) = (0 : Int))) = false)
       · exact stepX_same (v := .string ⟨a.toArray⟩) (want1 (j := 16) (b := false) rfl (d16.trans (congrArg Value.bool hz))) (xmove rfl (bg bs s5)) ⟨fun _ => rfl, fun c => absurd hz c⟩ rfl
       · exact stepX_skip (wantN (j := 16) (b := false) (b' := true) rfl (d16.trans (congrArg Value.bool ((Bool.not_eq_false _).mp hz))) rfl) ⟨fun c => absurd c hz, fun _ => rfl⟩ rfl
       ) <|
     arm (fun aa ww hk bs hd => by
       have d16 := dp hd 16 rfl; have d19 := dI hd 19 rfl
       by_cases hz : ((decide ((n : Int) = (0 : Int))) = false)
       · exact stepX_same (v := .int .i64 ((a.length : Nat) : Int)) (want1 (j := 16) (b := false) rfl (d16.trans (congrArg Value.bool hz))) (xlenS Tryd.underlying9 rfl (t := a) (d19.1 hz)) ⟨fun _ => rfl, fun c => absurd hz c⟩ rfl
       · exact stepX_skip (wantN (j := 16) (b := false) (b' := true) rfl (d16.trans (congrArg Value.bool ((Bool.not_eq_false _).mp hz))) rfl) ⟨fun c => absurd c hz, fun _ => rfl⟩ rfl
       ) <|
     arm (fun aa ww hk bs hd => by
       have d16 := dp hd 16 rfl; have d18 := dI hd 18 rfl; have d20 := dI hd 20 rfl
       by_cases hz : ((decide ((n : Int) = (0 : Int))) = false)
       · exact stepX_same (v := .string ⟨(((List.replicate n a).flatten).take (a.length)).toArray⟩) (want1 (j := 16) (b := false) rfl (d16.trans (congrArg Value.bool hz))) (xslice (u := .string ⟨((List.replicate n a).flatten).toArray⟩) (l := none) (h := some (.int .i64 ((a.length) : Nat))) (m := none) rfl (d18.1 hz) rfl (congrArg some (d20.1 hz)) rfl (run_sliceTo Tryd.underlying9 ((List.replicate n a).flatten) (a.length) (rep_take (by have := of_decide_eq_false hz; omega)).2)) ⟨fun _ => rfl, fun c => absurd hz c⟩ rfl
       · exact stepX_skip (wantN (j := 16) (b := false) (b' := true) rfl (d16.trans (congrArg Value.bool ((Bool.not_eq_false _).mp hz))) rfl) ⟨fun c => absurd c hz, fun _ => rfl⟩ rfl
       ) <|
     arm (fun aa ww hk bs hd => by
       have d16 := dp hd 16 rfl
       by_cases hz : ((decide ((n : Int) = (0 : Int))) = false)
       · exact stepX_same (v := .string ⟨a.toArray⟩) (want1 (j := 16) (b := false) rfl (d16.trans (congrArg Value.bool hz))) (xmove rfl (bg bs s5)) ⟨fun _ => rfl, fun c => absurd hz c⟩ rfl
       · exact stepX_skip (wantN (j := 16) (b := false) (b' := true) rfl (d16.trans (congrArg Value.bool ((Bool.not_eq_false _).mp hz))) rfl) ⟨fun c => absurd c hz, fun _ => rfl⟩ rfl
       ) <|
     arm (fun aa ww hk bs hd => by
       have d16 := dp hd 16 rfl; have d21 := dI hd 21 rfl; have d22 := dI hd 22 rfl
       by_cases hz : ((decide ((n : Int) = (0 : Int))) = false)
       · exact stepX_same (v := .bool (decide ((((List.replicate n a).flatten).take (a.length)) = a))) (want1 (j := 16) (b := false) rfl (d16.trans (congrArg Value.bool hz))) (xeqS rfl (s := ((List.replicate n a).flatten).take (a.length)) (t := a) (d21.1 hz) (d22.1 hz)) ⟨fun _ => congrArg Value.bool (by rw [(rep_take (by have := of_decide_eq_false hz; omega)).1]; simp), fun c => absurd hz c⟩ rfl
       · exact stepX_skip (wantN (j := 16) (b := false) (b' := true) rfl (d16.trans (congrArg Value.bool ((Bool.not_eq_false _).mp hz))) rfl) ⟨fun c => absurd c hz, fun _ => rfl⟩ rfl
       ) <|
     arm (fun aa ww hk bs hd => by
       have d13 := dp hd 13 rfl; have d16 := dp hd 16 rfl; have d23 := dI hd 23 rfl; exact stepX_same (v := .bool ((decide ((n : Int) = (0 : Int))) || true)) (want1 (j := 13) (b := true) rfl d13) (xor_ rfl (d16) rfl (fun hb => d23.1 hb)) (congrArg Value.bool (by simp)) rfl
       ) <|
     aS (fun hk bs hd => xpickT rfl (dp hd 13 rfl) (dp hd 24 rfl)) rfl <|
     mvD 25 rfl rfl rfl rfl rfl rfl <|
     armE (wg (j := 26) (b := true) rfl rfl rfl) (fun aa ww hk bs hd => xloadN 3 rfl (by kernel_rfl) (by kernel_rfl) (bg bs s10) ((ow.keep hk).box 0 rfl) (Nat.le_of_ble_eq_true rfl) rfl) (congrArg aggV hrt) rfl <|
     armC (wg (j := 26) (b := true) rfl rfl rfl) (fun aa ww hk bs hd => xcall1 rfl rfl (en_louvrelaw14_num _ _)) (fun aa ww hk bs hd => lnum14_any 10000 ww) rfl <|
     arm (fun aa ww hk bs hd => by
       have d26 := dp hd 26 rfl; have d27 := dp hd 27 rfl; have d28 := dp hd 28 rfl; exact stepX_new _ (want1 (j := 26) (b := true) rfl d26) (xrow2 rfl (d27) (d28)) ⟨_, rfl, hk.size, Go.heap_alloc_new _ _⟩ ((Kept.refl _).alloc _) rfl (Nat.le_refl _)
       ) <|
     arm (fun aa ww hk bs hd => by
       have d26 := dp hd 26 rfl; have d29 := dL hd 29 rfl; obtain ⟨g29, e29, _, h29⟩ := d29; exact stepX_enter (want1 (j := 26) (b := true) rfl d26) (xcall2 (u := .int .u8 39) (v := .slice (some ⟨g29, 0, none⟩) 2 2) rfl rfl e29 (en_louvrelaw14_of _ _)) ((of14_eq 39 g29 [(⟨3, 0, (List.replicate n a).flatten⟩ : Vl), (⟨1, 10000, []⟩ : Vl)] ww mx (HM.kept (ow.keep hk).kept) h29 (smalls2 (small_T hro) (small_num (by omega) (by omega))) (by simp) (rept_one hro)).mono fun _ _ ⟨he, hk2⟩ => ⟨_, he, rfl, hk2⟩) rfl
       ) <|
     armE (wg (j := 26) (b := true) rfl rfl rfl) (fun aa ww hk bs hd => xloadN 3 rfl (by kernel_rfl) (by kernel_rfl) (bg bs s10) ((ow.keep hk).box 0 rfl) (Nat.le_of_ble_eq_true rfl) rfl) (congrArg aggV hrt) rfl <|
     armE (wg (j := 26) (b := true) rfl rfl rfl) (fun aa ww hk bs hd => xeqv rfl (dp hd 30 rfl) (dp hd 31 rfl)) (congrArg Value.bool (sameV_self _)) rfl <|
     aS (fun hk bs hd => xpickT rfl (dp hd 26 rfl) (dp hd 32 rfl)) rfl <|
     mvD 33 rfl rfl rfl rfl rfl rfl <|
     armC (wg (j := 34) (b := true) rfl rfl rfl) (fun aa ww hk bs hd => xcall0 rfl (en_louvrelaw14_awake _ _)) (fun aa ww hk bs hd => awake14_any ww mx (HM.kept (ow.keep hk).kept)) rfl <|
     aS (fun hk bs hd => xpickT rfl (dp hd 34 rfl) (dp hd 35 rfl)) rfl <|
     asD 36 rfl rfl rfl rfl rfl rfl <|
     arm0) fun fa fw bs hv ap z q ow => ?_
   have s4 := gv hv 37 rfl rfl; refine wt hK13 ?_; refine wp_ret ?_; refine results_one rfl (res_tmp s4) q ?_; exact ⟨rfl, ow.kept⟩
  refine cf s39 (decide_eq_true_iff) hc1 ?_; refine sq fun hK14 => ?_; have hal : ((a ++ b) ++ c).length ≤ 256 := by omega
  have hall := hal; rw [List.length_append, List.length_append] at hall
  refine ro [yV (aggV (⟨3, 0, (a ++ b) ++ c⟩ : Vl)), yV _, yV (aggV (⟨3, 0, (a ++ b) ++ c⟩ : Vl)), yV (.bool false), yV _, yV _, yV (aggV (⟨3, 0, a⟩ : Vl)), yV _, yV (aggV (⟨3, 0, b⟩ : Vl)), ySlice fw.heap.size 2 (rowObj [(⟨3, 0, a⟩ : Vl), (⟨3, 0, b⟩ : Vl)]), yV (aggV (⟨3, 0, a ++ b⟩ : Vl)), yV _, yV (aggV (⟨3, 0, c⟩ : Vl)), ySlice fw.heap.size 2 (rowObj [(⟨3, 0, a ++ b⟩ : Vl), (⟨3, 0, c⟩ : Vl)]), yV (aggV (⟨3, 0, (a ++ b) ++ c⟩ : Vl)), yV (aggV (⟨3, 0, (a ++ b) ++ c⟩ : Vl)), yV (.bool false), yV _, yV _, yV _, yV (aggV (⟨3, 0, a⟩ : Vl)), yV _, yV (aggV (⟨3, 0, b⟩ : Vl)), yV _, yV (aggV (⟨3, 0, c⟩ : Vl)), ySlice fw.heap.size 2 (rowObj [(⟨3, 0, b⟩ : Vl), (⟨3, 0, c⟩ : Vl)]), yV (aggV (⟨3, 0, b ++ c⟩ : Vl)), ySlice fw.heap.size 2 (rowObj [(⟨3, 0, a⟩ : Vl), (⟨3, 0, b ++ c⟩ : Vl)]), yV (aggV (⟨3, 0, a ++ (b ++ c)⟩ : Vl)), yV (aggV (⟨3, 0, (a ++ b) ++ c⟩ : Vl)), yV (.bool false), yV _, yV _, yV (aggV (⟨3, 0, (a ++ b) ++ c⟩ : Vl)), ySlice fw.heap.size 1 (rowObj [(⟨3, 0, (a ++ b) ++ c⟩ : Vl)]), yV (aggV (⟨1, ((((a ++ b) ++ c).length : Nat) : Int) * 10000, []⟩ : Vl)), yV _, yV _, yV _, yV (aggV (⟨1, ((((a ++ b) ++ c).length : Nat) : Int) * 10000, []⟩ : Vl)), yV (.bool false), yV _] 42 140 z q ow (
    aE (fun hk bs hd => xloadN 3 rfl (by kernel_rfl) (by kernel_rfl) (bg bs s9) ((ow.keep hk).box 0 rfl) (Nat.le_of_ble_eq_true rfl) rfl) (congrArg aggV ((congrArg vText (List.append_assoc a b c).symm).trans (text_T hal))) rfl <|
    mvS s8 rfl rfl rfl rfl <|
    aC (fun hk bs hd => xcall1 rfl (dp hd 1 rfl) (en_louvrelaw14_text _ _)) (fun hk bs hd => ltext14_any ((a ++ b) ++ c) _) rfl <|
    aE (fun hk bs hd => xnev rfl (dp hd 0 rfl) (dp hd 2 rfl)) (congrArg Value.bool (by simp only [List.append_assoc, sameV_self]; rfl)) rfl <|
    mvD 3 rfl rfl rfl rfl rfl rfl <|
    armS (wg (j := 4) (b := false) rfl rfl rfl) (fun aa ww hk bs hd => xmove rfl (bg bs s5)) rfl <|
    armC (wg (j := 4) (b := false) rfl rfl rfl) (fun aa ww hk bs hd => xcall1 rfl (dp hd 5 rfl) (en_louvrelaw14_text _ _)) (fun aa ww hk bs hd => ltext14_any a ww) rfl <|
    armS (wg (j := 4) (b := false) rfl rfl rfl) (fun aa ww hk bs hd => xmove rfl (bg bs s6)) rfl <|
    armC (wg (j := 4) (b := false) rfl rfl rfl) (fun aa ww hk bs hd => xcall1 rfl (dp hd 7 rfl) (en_louvrelaw14_text _ _)) (fun aa ww hk bs hd => ltext14_any b ww) rfl <|
    arm (fun aa ww hk bs hd => by
      have d4 := dp hd 4 rfl; have d6 := dp hd 6 rfl; have d8 := dp hd 8 rfl; exact stepX_new _ (want1 (j := 4) (b := false) rfl d4) (xrow2 rfl (d6) (d8)) ⟨_, rfl, hk.size, Go.heap_alloc_new _ _⟩ ((Kept.refl _).alloc _) rfl (Nat.le_refl _)
      ) <|
    arm (fun aa ww hk bs hd => by
      have d4 := dp hd 4 rfl; have d9 := dL hd 9 rfl; obtain ⟨g9, e9, _, h9⟩ := d9; exact stepX_enter (want1 (j := 4) (b := false) rfl d4) (xcall2 (u := .int .u8 38) (v := .slice (some ⟨g9, 0, none⟩) 2 2) rfl rfl e9 (en_louvrelaw14_of _ _)) ((of14_eq 38 g9 [(⟨3, 0, a⟩ : Vl), (⟨3, 0, b⟩ : Vl)] ww mx (HM.kept (ow.keep hk).kept) h9 (smalls2 (small_T ha) (small_T hb)) (by simp) (cat2 ha hb (by (try simp only [List.length_append]); omega))).mono fun _ _ ⟨he, hk2⟩ => ⟨_, he, rfl, hk2⟩) rfl
      ) <|
    armS (wg (j := 4) (b := false) rfl rfl rfl) (fun aa ww hk bs hd => xmove rfl (bg bs s7)) rfl <|
    armC (wg (j := 4) (b := false) rfl rfl rfl) (fun aa ww hk bs hd => xcall1 rfl (dp hd 11 rfl) (en_louvrelaw14_text _ _)) (fun aa ww hk bs hd => ltext14_any c ww) rfl <|
    arm (fun aa ww hk bs hd => by
      have d4 := dp hd 4 rfl; have d10 := dp hd 10 rfl; have d12 := dp hd 12 rfl; exact stepX_new _ (want1 (j := 4) (b := false) rfl d4) (xrow2 rfl (d10) (d12)) ⟨_, rfl, hk.size, Go.heap_alloc_new _ _⟩ ((Kept.refl _).alloc _) rfl (Nat.le_refl _)
      ) <|
    arm (fun aa ww hk bs hd => by
      have d4 := dp hd 4 rfl; have d13 := dL hd 13 rfl; obtain ⟨g13, e13, _, h13⟩ := d13; exact stepX_enter (want1 (j := 4) (b := false) rfl d4) (xcall2 (u := .int .u8 38) (v := .slice (some ⟨g13, 0, none⟩) 2 2) rfl rfl e13 (en_louvrelaw14_of _ _)) ((of14_eq 38 g13 [(⟨3, 0, a ++ b⟩ : Vl), (⟨3, 0, c⟩ : Vl)] ww mx (HM.kept (ow.keep hk).kept) h13 (smalls2 (small_T (Okay.append ha hb (by (try simp only [List.length_append]); omega))) (small_T hc)) (by simp) (cat2 (Okay.append ha hb (by (try simp only [List.length_append]); omega)) hc (by (try simp only [List.length_append]); omega))).mono fun _ _ ⟨he, hk2⟩ => ⟨_, he, rfl, hk2⟩) rfl
      ) <|
    armE (wg (j := 4) (b := false) rfl rfl rfl) (fun aa ww hk bs hd => xloadN 3 rfl (by kernel_rfl) (by kernel_rfl) (bg bs s9) ((ow.keep hk).box 0 rfl) (Nat.le_of_ble_eq_true rfl) rfl) (congrArg aggV ((congrArg vText (List.append_assoc a b c).symm).trans (text_T hal))) rfl <|
    armE (wg (j := 4) (b := false) rfl rfl rfl) (fun aa ww hk bs hd => xnev rfl (dp hd 14 rfl) (dp hd 15 rfl)) (congrArg Value.bool (by simp only [List.append_assoc, sameV_self]; rfl)) rfl <|
    aS (fun hk bs hd => xpickF rfl (dp hd 4 rfl) (dp hd 16 rfl)) rfl <|
    mvD 17 rfl rfl rfl rfl rfl rfl <|
    armS (wg (j := 18) (b := false) rfl rfl rfl) (fun aa ww hk bs hd => xmove rfl (bg bs s5)) rfl <|
    armC (wg (j := 18) (b := false) rfl rfl rfl) (fun aa ww hk bs hd => xcall1 rfl (dp hd 19 rfl) (en_louvrelaw14_text _ _)) (fun aa ww hk bs hd => ltext14_any a ww) rfl <|
    armS (wg (j := 18) (b := false) rfl rfl rfl) (fun aa ww hk bs hd => xmove rfl (bg bs s6)) rfl <|
    armC (wg (j := 18) (b := false) rfl rfl rfl) (fun aa ww hk bs hd => xcall1 rfl (dp hd 21 rfl) (en_louvrelaw14_text _ _)) (fun aa ww hk bs hd => ltext14_any b ww) rfl <|
    armS (wg (j := 18) (b := false) rfl rfl rfl) (fun aa ww hk bs hd => xmove rfl (bg bs s7)) rfl <|
    armC (wg (j := 18) (b := false) rfl rfl rfl) (fun aa ww hk bs hd => xcall1 rfl (dp hd 23 rfl) (en_louvrelaw14_text _ _)) (fun aa ww hk bs hd => ltext14_any c ww) rfl <|
    arm (fun aa ww hk bs hd => by
      have d18 := dp hd 18 rfl; have d22 := dp hd 22 rfl; have d24 := dp hd 24 rfl; exact stepX_new _ (want1 (j := 18) (b := false) rfl d18) (xrow2 rfl (d22) (d24)) ⟨_, rfl, hk.size, Go.heap_alloc_new _ _⟩ ((Kept.refl _).alloc _) rfl (Nat.le_refl _)
      ) <|
    arm (fun aa ww hk bs hd => by
      have d18 := dp hd 18 rfl; have d25 := dL hd 25 rfl; obtain ⟨g25, e25, _, h25⟩ := d25; exact stepX_enter (want1 (j := 18) (b := false) rfl d18) (xcall2 (u := .int .u8 38) (v := .slice (some ⟨g25, 0, none⟩) 2 2) rfl rfl e25 (en_louvrelaw14_of _ _)) ((of14_eq 38 g25 [(⟨3, 0, b⟩ : Vl), (⟨3, 0, c⟩ : Vl)] ww mx (HM.kept (ow.keep hk).kept) h25 (smalls2 (small_T hb) (small_T hc)) (by simp) (cat2 hb hc (by (try simp only [List.length_append]); omega))).mono fun _ _ ⟨he, hk2⟩ => ⟨_, he, rfl, hk2⟩) rfl
      ) <|
    arm (fun aa ww hk bs hd => by
      have d18 := dp hd 18 rfl; have d20 := dp hd 20 rfl; have d26 := dp hd 26 rfl; exact stepX_new _ (want1 (j := 18) (b := false) rfl d18) (xrow2 rfl (d20) (d26)) ⟨_, rfl, hk.size, Go.heap_alloc_new _ _⟩ ((Kept.refl _).alloc _) rfl (Nat.le_refl _)
      ) <|
    arm (fun aa ww hk bs hd => by
      have d18 := dp hd 18 rfl; have d27 := dL hd 27 rfl; obtain ⟨g27, e27, _, h27⟩ := d27; exact stepX_enter (want1 (j := 18) (b := false) rfl d18) (xcall2 (u := .int .u8 38) (v := .slice (some ⟨g27, 0, none⟩) 2 2) rfl rfl e27 (en_louvrelaw14_of _ _)) ((of14_eq 38 g27 [(⟨3, 0, a⟩ : Vl), (⟨3, 0, b ++ c⟩ : Vl)] ww mx (HM.kept (ow.keep hk).kept) h27 (smalls2 (small_T ha) (small_T (Okay.append hb hc (by (try simp only [List.length_append]); omega)))) (by simp) (cat2 ha (Okay.append hb hc (by (try simp only [List.length_append]); omega)) (by (try simp only [List.length_append]); omega))).mono fun _ _ ⟨he, hk2⟩ => ⟨_, he, rfl, hk2⟩) rfl
      ) <|
    armE (wg (j := 18) (b := false) rfl rfl rfl) (fun aa ww hk bs hd => xloadN 3 rfl (by kernel_rfl) (by kernel_rfl) (bg bs s9) ((ow.keep hk).box 0 rfl) (Nat.le_of_ble_eq_true rfl) rfl) (congrArg aggV ((congrArg vText (List.append_assoc a b c).symm).trans (text_T hal))) rfl <|
    armE (wg (j := 18) (b := false) rfl rfl rfl) (fun aa ww hk bs hd => xnev rfl (dp hd 28 rfl) (dp hd 29 rfl)) (congrArg Value.bool (by simp only [List.append_assoc, sameV_self]; rfl)) rfl <|
    aS (fun hk bs hd => xpickF rfl (dp hd 18 rfl) (dp hd 30 rfl)) rfl <|
    mvD 31 rfl rfl rfl rfl rfl rfl <|
    armE (wg (j := 32) (b := false) rfl rfl rfl) (fun aa ww hk bs hd => xloadN 3 rfl (by kernel_rfl) (by kernel_rfl) (bg bs s9) ((ow.keep hk).box 0 rfl) (Nat.le_of_ble_eq_true rfl) rfl) (congrArg aggV ((congrArg vText (List.append_assoc a b c).symm).trans (text_T hal))) rfl <|
    arm (fun aa ww hk bs hd => by
      have d32 := dp hd 32 rfl; have d33 := dp hd 33 rfl; exact stepX_new _ (want1 (j := 32) (b := false) rfl d32) (xrow1 rfl (d33)) ⟨_, rfl, hk.size, Go.heap_alloc_new _ _⟩ ((Kept.refl _).alloc _) rfl (Nat.le_refl _)
      ) <|
    arm (fun aa ww hk bs hd => by
      have d32 := dp hd 32 rfl; have d34 := dL hd 34 rfl; obtain ⟨g34, e34, _, h34⟩ := d34; exact stepX_enter (want1 (j := 32) (b := false) rfl d32) (xcall2 (u := .int .u8 31) (v := .slice (some ⟨g34, 0, none⟩) 1 1) rfl rfl e34 (en_louvrelaw14_of _ _)) ((of14_eq 31 g34 [(⟨3, 0, (a ++ b) ++ c⟩ : Vl)] ww mx (HM.kept (ow.keep hk).kept) h34 (smalls1 (small_T (Okay.append (Okay.append ha hb (by (try simp only [List.length_append]); omega)) hc (by (try simp only [List.length_append]); omega)))) (by simp) (len_n (Okay.append (Okay.append ha hb (by (try simp only [List.length_append]); omega)) hc (by (try simp only [List.length_append]); omega)))).mono fun _ _ ⟨he, hk2⟩ => ⟨_, he, rfl, hk2⟩) rfl
      ) <|
    armS (wg (j := 32) (b := false) rfl rfl rfl) (fun aa ww hk bs hd => xmove rfl (bg bs s8)) rfl <|
    armS (wg (j := 32) (b := false) rfl rfl rfl) (fun aa ww hk bs hd => xlenS Tryd.underlying9 rfl (dp hd 36 rfl)) rfl <|
    armS (wg (j := 32) (b := false) rfl rfl rfl) (fun aa ww hk bs hd => xmul (Or.inr rfl) rfl (dp hd 37 rfl) rfl (by omega) (by omega)) rfl <|
    armC (wg (j := 32) (b := false) rfl rfl rfl) (fun aa ww hk bs hd => xcall1 rfl (dp hd 38 rfl) (en_louvrelaw14_num _ _)) (fun aa ww hk bs hd => lnum14_any (((((a ++ b) ++ c).length : Nat) : Int) * 10000) ww) rfl <|
    armE (wg (j := 32) (b := false) rfl rfl rfl) (fun aa ww hk bs hd => xnev rfl (dp hd 35 rfl) (dp hd 39 rfl)) (congrArg Value.bool (by simp only [List.append_assoc, sameV_self]; rfl)) rfl <|
    aS (fun hk bs hd => xpickF rfl (dp hd 32 rfl) (dp hd 40 rfl)) rfl <|
    arm0) fun fa fw bs hv ap z q ow => ?_
  obtain ⟨s4, s1, s5⟩ := b3 bs s4 s1 s5; have s84 := gv hv 41 rfl rfl; refine wt hK14 ?_; refine wp_cond_false (s84) ?_; refine wp_skip ?_; refine tn hK6 ?_; refine sq fun hK15 => ?_
  refine ro [yV _, yV (aggV (⟨3, 0, a⟩ : Vl)), yV _, yV _, yV (aggV (⟨1, (n : Int) * 10000, []⟩ : Vl)), ySlice fw.heap.size 2 (rowObj [(⟨3, 0, a⟩ : Vl), (⟨1, (n : Int) * 10000, []⟩ : Vl)]), yV (aggV (vText (List.replicate n a).flatten)), yNew fw.heap.size (.cells #[.int .u8 0, .int .i64 0, .string ⟨[].toArray⟩] 24 (0, 0))] 8 140 z q ow (
    mvS s5 rfl rfl rfl rfl <|
    aC (fun hk bs hd => xcall1 rfl (dp hd 0 rfl) (en_louvrelaw14_text _ _)) (fun hk bs hd => ltext14_any a _) rfl <|
    mvS s1 rfl rfl rfl rfl <|
    aS (fun hk bs hd => xmul (Or.inr rfl) rfl (dp hd 2 rfl) rfl (by omega) (by omega)) rfl <|
    aC (fun hk bs hd => xcall1 rfl (dp hd 3 rfl) (en_louvrelaw14_num _ _)) (fun hk bs hd => lnum14_any ((n : Int) * 10000) _) rfl <|
    arm (fun aa ww hk bs hd => by
      have d1 := dp hd 1 rfl; have d4 := dp hd 4 rfl; exact stepX_new _ (want0 rfl) (xrow2 rfl (d1) (d4)) ⟨_, rfl, hk.size, Go.heap_alloc_new _ _⟩ ((Kept.refl _).alloc _) rfl (Nat.le_refl _)
      ) <|
    arm (fun aa ww hk bs hd => by
      have d5 := dL hd 5 rfl; obtain ⟨g5, e5, _, h5⟩ := d5; exact stepX_enter (want0 rfl) (xcall2 (u := .int .u8 39) (v := .slice (some ⟨g5, 0, none⟩) 2 2) rfl rfl e5 (en_louvrelaw14_of _ _)) ((of14_eq 39 g5 [(⟨3, 0, a⟩ : Vl), (⟨1, (n : Int) * 10000, []⟩ : Vl)] ww mx (HM.kept (ow.keep hk).kept) h5 (smalls2 (small_T ha) (small_num (by omega) (by omega))) (by simp) (rept_n ha (by omega))).mono fun _ _ ⟨he, hk2⟩ => ⟨_, he, rfl, hk2⟩) rfl
      ) <|
    aP (fun hk bs hd => xalloc rfl (by kernel_rfl)) rfl <|
    arm0) fun fa fw bs hv ap z q ov => ?_
  obtain ⟨s4, s1, s5⟩ := b3 bs s4 s1 s5; have s91 := gv hv 6 rfl rfl; obtain ⟨gb4, s10, bgb4, hgb4⟩ := gotP hv 7 rfl rfl rfl; have ov := ov.cons hgb4 (Nat.le_trans ow.kept.size bgb4) (ow.below bgb4); have ow := ov; refine ws ow 0 0 s10 s91 fun fw ow => ?_; refine wt hK15 ?_; refine sq fun hK16 => ?_; refine sq fun hK17 => ?_
  refine ro [yV _, yV _, yV _, yV _, yV _] 5 140 z q ow (
    mvS s5 rfl rfl rfl rfl <|
    aS (fun hk bs hd => xlenS Tryd.underlying9 rfl (dp hd 0 rfl)) rfl <|
    mvS s1 rfl rfl rfl rfl <|
    aS (fun hk bs hd => xmul (Or.inl rfl) rfl (dp hd 1 rfl) (dp hd 2 rfl) (mul_rng (by omega) hn).1 (mul_rng (by omega) hn).2) rfl <|
    aS (fun hk bs hd => xgtr rfl (dp hd 3 rfl) rfl) rfl <|
    arm0) fun fa fw bs hv ap z q ow => ?_
  obtain ⟨s4, s1, s5, s10⟩ := b4 bs s4 s1 s5 s10; have s96 := gv hv 4 rfl rfl; refine wt hK17 ?_
  by_cases hc3 : (256 : Int) < (((a.length : Nat) : Int) * (n : Int) : Int)
  ·refine ct s96 ((decide_eq_true_iff).2 hc3) ?_
   refine sq fun hK18 => ?_; have hrb : 256 < ((List.replicate n a).flatten).length := big_of (by omega)
   refine ro [yV (aggV (⟨4, 2, []⟩ : Vl)), yV (aggV (⟨4, 2, []⟩ : Vl)), yV (.bool true), yV _, yV (.bool true), yV _, yV _] 7 140 z q ow (
     aE (fun hk bs hd => xloadN 3 rfl (by kernel_rfl) (by kernel_rfl) (bg bs s10) ((ow.keep hk).box 0 rfl) (Nat.le_of_ble_eq_true rfl) rfl) (congrArg aggV (text_big hrb)) rfl <|
     aS (fun hk bs hd => xbuild (us := #[(0, .int .u8 4), (1, .int .i64 2)]) rfl (by simp only [List.map_toArray, List.map_cons, List.map_nil]; rfl) (by kernel_rfl)) rfl <|
     aE (fun hk bs hd => xeqv rfl (dp hd 0 rfl) (dp hd 1 rfl)) (congrArg Value.bool (sameV_self _)) rfl <|
     mvD 2 rfl rfl rfl rfl rfl rfl <|
     armC (wg (j := 3) (b := true) rfl rfl rfl) (fun aa ww hk bs hd => xcall0 rfl (en_louvrelaw14_awake _ _)) (fun aa ww hk bs hd => awake14_any ww mx (HM.kept (ow.keep hk).kept)) rfl <|
     aS (fun hk bs hd => xpickT rfl (dp hd 3 rfl) (dp hd 4 rfl)) rfl <|
     asD 5 rfl rfl rfl rfl rfl rfl <|
     arm0) fun fa fw bs hv ap z q ow => ?_
   obtain ⟨s1, s5, s10⟩ := b3 bs s1 s5 s10; have s4 := gv hv 6 rfl rfl; refine wt hK18 ?_; refine wp_ret ?_; refine then_r ?_; refine results_one rfl (res_tmp s4) q ?_; exact ⟨rfl, ow.kept⟩
  refine cf s96 (decide_eq_true_iff) hc3 ?_; refine wp_skip ?_; refine tn hK16 ?_; refine sq fun hK19 => ?_; have hrf := fit_of (s := a) (n := n) (by omega); have hro : Okay (List.replicate n a).flatten := ha.rep n hrf; have hrt : vText (List.replicate n a).flatten = ⟨3, 0, (List.replicate n a).flatten⟩ := text_T hro.1
  refine ro [yV (.pointer (some ⟨gb4, 0, none⟩)), yV (.int .u8 3), yV (.bool true), yV _, yV (.pointer (some ⟨gb4, 2, none⟩)), yV (.string ⟨((List.replicate n a).flatten).toArray⟩), yV _, yV _, yV _, yV _, yV _, yV (.bool true), yV _, yV _, yV _, yV _, yV _, yIf (((decide ((n : Int) = (0 : Int))) = false)) (yV (.pointer (some ⟨gb4, 2, none⟩))), yIf (((decide ((n : Int) = (0 : Int))) = false)) (yV (.string ⟨((List.replicate n a).flatten).toArray⟩)), yIf (((decide ((n : Int) = (0 : Int))) = false)) (yV (.string ⟨a.toArray⟩)), yIf (((decide ((n : Int) = (0 : Int))) = false)) (yV (.int .i64 ((a.length : Nat) : Int))), yIf (((decide ((n : Int) = (0 : Int))) = false)) (yV (.string ⟨(((List.replicate n a).flatten).take (a.length)).toArray⟩)), yIf (((decide ((n : Int) = (0 : Int))) = false)) (yV (.string ⟨a.toArray⟩)), yIf (((decide ((n : Int) = (0 : Int))) = false)) (yV (.bool true)), yV (.bool true), yV _, yV _, yV (aggV (⟨3, 0, (List.replicate n a).flatten⟩ : Vl)), yV (aggV (⟨1, 10000, []⟩ : Vl)), ySlice fw.heap.size 2 (rowObj [(⟨3, 0, (List.replicate n a).flatten⟩ : Vl), (⟨1, 10000, []⟩ : Vl)]), yV (aggV (⟨3, 0, (List.replicate n a).flatten⟩ : Vl)), yV (aggV (⟨3, 0, (List.replicate n a).flatten⟩ : Vl)), yV (.bool true), yV _, yV _, yV (.bool true), yV _, yV _] 38 140 z q ow (
    aS (fun hk bs hd => xfieldAddr rfl (bg bs s10) (by kernel_rfl)) rfl <|
    aE (fun hk bs hd => xloadB rfl (by kernel_rfl) (dp hd 0 rfl) ((ow.keep hk).box 0 rfl) rfl) (congrArg (Value.int .u8) (by rw [hrt]; rfl)) rfl <|
    aE (fun hk bs hd => xeqi rfl (dp hd 1 rfl) rfl) (congrArg Value.bool rfl) rfl <|
    mvD 2 rfl rfl rfl rfl rfl rfl <|
    armS (wg (j := 3) (b := true) rfl rfl rfl) (fun aa ww hk bs hd => xfieldAddr rfl (bg bs s10) (by kernel_rfl)) rfl <|
    armE (wg (j := 3) (b := true) rfl rfl rfl) (fun aa ww hk bs hd => xloadB rfl (by kernel_rfl) (dp hd 4 rfl) ((ow.keep hk).box 0 rfl) rfl) (congrArg (fun l : List UInt8 => Value.string ⟨l.toArray⟩) (congrArg Vl.t hrt)) rfl <|
    armS (wg (j := 3) (b := true) rfl rfl rfl) (fun aa ww hk bs hd => xlenS Tryd.underlying9 rfl (dp hd 5 rfl)) rfl <|
    armS (wg (j := 3) (b := true) rfl rfl rfl) (fun aa ww hk bs hd => xmove rfl (bg bs s5)) rfl <|
    armS (wg (j := 3) (b := true) rfl rfl rfl) (fun aa ww hk bs hd => xlenS Tryd.underlying9 rfl (dp hd 7 rfl)) rfl <|
    armS (wg (j := 3) (b := true) rfl rfl rfl) (fun aa ww hk bs hd => xmove rfl (bg bs s1)) rfl <|
    armS (wg (j := 3) (b := true) rfl rfl rfl) (fun aa ww hk bs hd => xmul (Or.inl rfl) rfl (dp hd 8 rfl) (dp hd 9 rfl) (mul_rng (by omega) hn).1 (mul_rng (by omega) hn).2) rfl <|
    armE (wg (j := 3) (b := true) rfl rfl rfl) (fun aa ww hk bs hd => xeqi rfl (dp hd 6 rfl) (dp hd 10 rfl)) (congrArg Value.bool (by rw [flat_len, decide_eq_true_eq]; push_cast; exact Int.mul_comm _ _)) rfl <|
    aS (fun hk bs hd => xpickT rfl (dp hd 3 rfl) (dp hd 11 rfl)) rfl <|
    mvD 12 rfl rfl rfl rfl rfl rfl <|
    armS (wg (j := 13) (b := true) rfl rfl rfl) (fun aa ww hk bs hd => xmove rfl (bg bs s1)) rfl <|
    armS (wg (j := 13) (b := true) rfl rfl rfl) (fun aa ww hk bs hd => xeqi rfl (dp hd 14 rfl) rfl) rfl <|
    armS (wg (j := 13) (b := true) rfl rfl rfl) (fun aa ww hk bs hd => xmove rfl (dp hd 15 rfl)) rfl <|
    arm (fun aa ww hk bs hd => by
      have d16 := dp hd 16 rfl
      by_cases hz : ((decide ((n : Int) = (0 : Int))) = false)
      · exact stepX_same (v := .pointer (some ⟨gb4, 2, none⟩)) (want1 (j := 16) (b := false) rfl (d16.trans (congrArg Value.bool hz))) (xfieldAddr rfl (bg bs s10) (by kernel_rfl)) ⟨fun _ => rfl, fun c => absurd hz c⟩ rfl
      · exact stepX_skip (wantN (j := 16) (b := false) (b' := true) rfl (d16.trans (congrArg Value.bool ((Bool.not_eq_false _).mp hz))) rfl) ⟨fun c => absurd c hz, fun _ => rfl⟩ rfl
      ) <|
    arm (fun aa ww hk bs hd => by
      have d16 := dp hd 16 rfl; have d17 := dI hd 17 rfl
      by_cases hz : ((decide ((n : Int) = (0 : Int))) = false)
      · exact stepX_same (v := .string ⟨((vText (List.replicate n a).flatten).t).toArray⟩) (want1 (j := 16) (b := false) rfl (d16.trans (congrArg Value.bool hz))) (xloadB rfl (by kernel_rfl) (d17.1 hz) ((ow.keep hk).box 0 rfl) rfl) ⟨fun _ => (congrArg (fun l : List UInt8 => Value.string ⟨l.toArray⟩) (congrArg Vl.t hrt)), fun c => absurd hz c⟩ rfl
      · exact stepX_skip (wantN (j := 16) (b := false) (b' := true) rfl (d16.trans (congrArg Value.bool ((Bool.not_eq_false _).mp hz))) rfl) ⟨fun c => absurd c hz, fun _ => rfl⟩ rfl
      ) <|
    arm (fun aa ww hk bs hd => by
      have d16 := dp hd 16 rfl
      by_cases hz : ((decide ((n : Int) = (0 : Int))) = false)
      · exact stepX_same (v := .string ⟨a.toArray⟩) (want1 (j := 16) (b := false) rfl (d16.trans (congrArg Value.bool hz))) (xmove rfl (bg bs s5)) ⟨fun _ => rfl, fun c => absurd hz c⟩ rfl
      · exact stepX_skip (wantN (j := 16) (b := false) (b' := true) rfl (d16.trans (congrArg Value.bool ((Bool.not_eq_false _).mp hz))) rfl) ⟨fun c => absurd c hz, fun _ => rfl⟩ rfl
      ) <|
    arm (fun aa ww hk bs hd => by
      have d16 := dp hd 16 rfl; have d19 := dI hd 19 rfl
      by_cases hz : ((decide ((n : Int) = (0 : Int))) = false)
      · exact stepX_same (v := .int .i64 ((a.length : Nat) : Int)) (want1 (j := 16) (b := false) rfl (d16.trans (congrArg Value.bool hz))) (xlenS Tryd.underlying9 rfl (t := a) (d19.1 hz)) ⟨fun _ => rfl, fun c => absurd hz c⟩ rfl
      · exact stepX_skip (wantN (j := 16) (b := false) (b' := true) rfl (d16.trans (congrArg Value.bool ((Bool.not_eq_false _).mp hz))) rfl) ⟨fun c => absurd c hz, fun _ => rfl⟩ rfl
      ) <|
    arm (fun aa ww hk bs hd => by
      have d16 := dp hd 16 rfl; have d18 := dI hd 18 rfl; have d20 := dI hd 20 rfl
      by_cases hz : ((decide ((n : Int) = (0 : Int))) = false)
      · exact stepX_same (v := .string ⟨(((List.replicate n a).flatten).take (a.length)).toArray⟩) (want1 (j := 16) (b := false) rfl (d16.trans (congrArg Value.bool hz))) (xslice (u := .string ⟨((List.replicate n a).flatten).toArray⟩) (l := none) (h := some (.int .i64 ((a.length) : Nat))) (m := none) rfl (d18.1 hz) rfl (congrArg some (d20.1 hz)) rfl (run_sliceTo Tryd.underlying9 ((List.replicate n a).flatten) (a.length) (rep_take (by have := of_decide_eq_false hz; omega)).2)) ⟨fun _ => rfl, fun c => absurd hz c⟩ rfl
      · exact stepX_skip (wantN (j := 16) (b := false) (b' := true) rfl (d16.trans (congrArg Value.bool ((Bool.not_eq_false _).mp hz))) rfl) ⟨fun c => absurd c hz, fun _ => rfl⟩ rfl
      ) <|
    arm (fun aa ww hk bs hd => by
      have d16 := dp hd 16 rfl
      by_cases hz : ((decide ((n : Int) = (0 : Int))) = false)
      · exact stepX_same (v := .string ⟨a.toArray⟩) (want1 (j := 16) (b := false) rfl (d16.trans (congrArg Value.bool hz))) (xmove rfl (bg bs s5)) ⟨fun _ => rfl, fun c => absurd hz c⟩ rfl
      · exact stepX_skip (wantN (j := 16) (b := false) (b' := true) rfl (d16.trans (congrArg Value.bool ((Bool.not_eq_false _).mp hz))) rfl) ⟨fun c => absurd c hz, fun _ => rfl⟩ rfl
      ) <|
    arm (fun aa ww hk bs hd => by
      have d16 := dp hd 16 rfl; have d21 := dI hd 21 rfl; have d22 := dI hd 22 rfl
      by_cases hz : ((decide ((n : Int) = (0 : Int))) = false)
      · exact stepX_same (v := .bool (decide ((((List.replicate n a).flatten).take (a.length)) = a))) (want1 (j := 16) (b := false) rfl (d16.trans (congrArg Value.bool hz))) (xeqS rfl (s := ((List.replicate n a).flatten).take (a.length)) (t := a) (d21.1 hz) (d22.1 hz)) ⟨fun _ => congrArg Value.bool (by rw [(rep_take (by have := of_decide_eq_false hz; omega)).1]; simp), fun c => absurd hz c⟩ rfl
      · exact stepX_skip (wantN (j := 16) (b := false) (b' := true) rfl (d16.trans (congrArg Value.bool ((Bool.not_eq_false _).mp hz))) rfl) ⟨fun c => absurd c hz, fun _ => rfl⟩ rfl
      ) <|
    arm (fun aa ww hk bs hd => by
      have d13 := dp hd 13 rfl; have d16 := dp hd 16 rfl; have d23 := dI hd 23 rfl; exact stepX_same (v := .bool ((decide ((n : Int) = (0 : Int))) || true)) (want1 (j := 13) (b := true) rfl d13) (xor_ rfl (d16) rfl (fun hb => d23.1 hb)) (congrArg Value.bool (by simp)) rfl
      ) <|
    aS (fun hk bs hd => xpickT rfl (dp hd 13 rfl) (dp hd 24 rfl)) rfl <|
    mvD 25 rfl rfl rfl rfl rfl rfl <|
    armE (wg (j := 26) (b := true) rfl rfl rfl) (fun aa ww hk bs hd => xloadN 3 rfl (by kernel_rfl) (by kernel_rfl) (bg bs s10) ((ow.keep hk).box 0 rfl) (Nat.le_of_ble_eq_true rfl) rfl) (congrArg aggV hrt) rfl <|
    armC (wg (j := 26) (b := true) rfl rfl rfl) (fun aa ww hk bs hd => xcall1 rfl rfl (en_louvrelaw14_num _ _)) (fun aa ww hk bs hd => lnum14_any 10000 ww) rfl <|
    arm (fun aa ww hk bs hd => by
      have d26 := dp hd 26 rfl; have d27 := dp hd 27 rfl; have d28 := dp hd 28 rfl; exact stepX_new _ (want1 (j := 26) (b := true) rfl d26) (xrow2 rfl (d27) (d28)) ⟨_, rfl, hk.size, Go.heap_alloc_new _ _⟩ ((Kept.refl _).alloc _) rfl (Nat.le_refl _)
      ) <|
    arm (fun aa ww hk bs hd => by
      have d26 := dp hd 26 rfl; have d29 := dL hd 29 rfl; obtain ⟨g29, e29, _, h29⟩ := d29; exact stepX_enter (want1 (j := 26) (b := true) rfl d26) (xcall2 (u := .int .u8 39) (v := .slice (some ⟨g29, 0, none⟩) 2 2) rfl rfl e29 (en_louvrelaw14_of _ _)) ((of14_eq 39 g29 [(⟨3, 0, (List.replicate n a).flatten⟩ : Vl), (⟨1, 10000, []⟩ : Vl)] ww mx (HM.kept (ow.keep hk).kept) h29 (smalls2 (small_T hro) (small_num (by omega) (by omega))) (by simp) (rept_one hro)).mono fun _ _ ⟨he, hk2⟩ => ⟨_, he, rfl, hk2⟩) rfl
      ) <|
    armE (wg (j := 26) (b := true) rfl rfl rfl) (fun aa ww hk bs hd => xloadN 3 rfl (by kernel_rfl) (by kernel_rfl) (bg bs s10) ((ow.keep hk).box 0 rfl) (Nat.le_of_ble_eq_true rfl) rfl) (congrArg aggV hrt) rfl <|
    armE (wg (j := 26) (b := true) rfl rfl rfl) (fun aa ww hk bs hd => xeqv rfl (dp hd 30 rfl) (dp hd 31 rfl)) (congrArg Value.bool (sameV_self _)) rfl <|
    aS (fun hk bs hd => xpickT rfl (dp hd 26 rfl) (dp hd 32 rfl)) rfl <|
    mvD 33 rfl rfl rfl rfl rfl rfl <|
    armC (wg (j := 34) (b := true) rfl rfl rfl) (fun aa ww hk bs hd => xcall0 rfl (en_louvrelaw14_awake _ _)) (fun aa ww hk bs hd => awake14_any ww mx (HM.kept (ow.keep hk).kept)) rfl <|
    aS (fun hk bs hd => xpickT rfl (dp hd 34 rfl) (dp hd 35 rfl)) rfl <|
    asD 36 rfl rfl rfl rfl rfl rfl <|
    arm0) fun fa fw bs hv ap z q ow => ?_
  have s4 := gv hv 37 rfl rfl; refine wt hK19 ?_; refine wp_ret ?_; refine results_one rfl (res_tmp s4) q ?_; exact ⟨rfl, ow.kept⟩
end Go.Proofs.YtbpkfnoenkoabaaDoor
