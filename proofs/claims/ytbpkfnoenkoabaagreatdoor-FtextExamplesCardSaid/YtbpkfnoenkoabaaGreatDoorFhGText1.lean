/- Layer 14: the methods of a call of a text function (printed by wip/mkftext.py). -/
import Derived.Test.YtbpkfnoenkoabaaGreatDoorFhSX6
import Derived.Test.YtbpkfnoenkoabaaGreatDoorFhMText14
import Derived.Test.YtbpkfnoenkoabaaGreatDoorFhBunC
import Derived.Test.YtbpkfnoenkoabaaGreatDoorFhBunG
import Derived.Lib.IndexBytes
namespace Go.Proofs.YtbpkfnoenkoabaaGreatDoor
set_option linter.unusedVariables false
set_option linter.unusedSimpArgs false
open Go.RowKit Lv
set_option maxRecDepth 100000
theorem upper_length (l : List UInt8) : (upper l).length = l.length := by unfold upper; rw [List.length_map]
theorem lower_length (l : List UInt8) : (lower l).length = l.length := by unfold lower; rw [List.length_map]
theorem take_min (s : List UInt8) (k : Nat) : s.take (min k s.length) = s.take k := by
  rcases Nat.le_total k s.length with h | h
  · rw [Nat.min_eq_left h]
  · rw [Nat.min_eq_right h, List.take_length, List.take_of_length_le h]
theorem left_one (s : List UInt8) : vText (s.take (min 1 s.length)) = left14 s 1 := by unfold left14; rw [if_neg (by omega), take_min]; rfl
theorem left_take (s : List UInt8) (m : Int) (h : 0 ≤ m) : vText (s.take (min m.toNat s.length)) = left14 s m := by unfold left14; rw [if_neg (by omega), take_min]
theorem left_neg (s : List UInt8) (m : Int) (h : m < 0) : vFail 2 = left14 s m := by unfold left14; rw [if_pos h]
theorem drop_min (s : List UInt8) (k : Nat) : s.drop (s.length - min k s.length) = s.drop (s.length - k) := by
  rcases Nat.le_total k s.length with h | h
  · rw [Nat.min_eq_left h]
  · rw [Nat.min_eq_right h]; congr 1; omega
theorem right_one (s : List UInt8) : vText (s.drop (s.length - min 1 s.length)) = right14 s 1 := by unfold right14; rw [if_neg (by omega), drop_min]; rfl
theorem right_drop (s : List UInt8) (m : Int) (h : 0 ≤ m) : vText (s.drop (s.length - min m.toNat s.length)) = right14 s m := by unfold right14; rw [if_neg (by omega), drop_min]
theorem mid_no (s : List UInt8) (m k : Int) (h : m < 1 ∨ k < 0) : vFail 2 = mid14 s m k := by unfold mid14; rw [if_pos h]
theorem mid_yes (s : List UInt8) (m k : Int) (h : 1 ≤ m) (h2 : 0 ≤ k) : vText ((s.take (min (m - 1).toNat s.length + min k.toNat (s.length - min (m - 1).toNat s.length))).drop (min (m - 1).toNat s.length)) = mid14 s m k := by
  unfold mid14; rw [if_neg (by omega)]
  congr 1
  generalize (m - 1).toNat = p; generalize k.toNat = q; rcases Nat.le_total p s.length with c | c
  · rw [Nat.min_eq_left c, List.drop_take, Nat.add_sub_cancel_left, ← List.length_drop, take_min]
  · rw [Nat.min_eq_right c, Nat.sub_self, Nat.min_zero, Nat.add_zero, List.take_length, List.drop_of_length_le (Nat.le_refl _), List.drop_of_length_le c, List.take_nil]
theorem flatten_len (s : List UInt8) (n : Nat) : (List.replicate n s).flatten.length = n * s.length := by simp
theorem rept_no (s : List UInt8) (m : Int) (h : m < 0 ∨ 256 < m ∧ s ≠ []) : vFail 2 = rept14 s m := by
  unfold rept14
  by_cases c : m < 0
  · rw [if_pos c]
  · rw [if_neg c]
    unfold vText; rw [if_pos]; rw [flatten_len]; have hs : 1 ≤ s.length := List.length_pos_iff.2 (h.resolve_left c).2; have h3 : 257 ≤ m.toNat := by have := (h.resolve_left c).1; omega
    have := Nat.mul_le_mul h3 hs
    omega
theorem rept_empty (s : List UInt8) (m : Int) (h : s = []) (h0 : 0 ≤ m) : vText [] = rept14 s m := by subst h; unfold rept14; rw [if_neg (by omega)]; simp
theorem rept_yes (s : List UInt8) (m : Int) (h : 0 ≤ m) : vText (List.replicate m.toNat s).flatten = rept14 s m := by unfold rept14; rw [if_neg (by omega)]
theorem rept_split {s : List UInt8} {m : Int} (h : ¬ (((m : Int) < 0) ∨ (((256 : Int) < m) ∧ (s ≠ [])))) : 0 ≤ m ∧ (s = [] ∨ m ≤ 256) := by
  refine ⟨by omega, ?_⟩
  by_cases c : s = []
  · exact Or.inl c
  · exact Or.inr (by have : ¬ (256 < m) := fun x => h (Or.inr ⟨x, c⟩); omega)
theorem rept_bad {s : List UInt8} {m : Int} (h : ((m : Int) < 0) ∨ (((256 : Int) < m) ∧ (s ≠ []))) : m < 0 ∨ 256 < m ∧ s ≠ [] := h
theorem flatten_le : ∀ (s : List (List UInt8)), (∀ t ∈ s, t.length ≤ 300) → s.flatten.length ≤ s.length * 300
  | [], _ => by simp
  | t :: s, h => by
    have h1 := h t (by simp); have h2 := flatten_le s (fun x hx => h x (by simp [hx])); rw [List.flatten_cons, List.length_append, List.length_cons]; omega
theorem repeatL_flat (s : List UInt8) : ∀ n, Lib.repeatL s n = (List.replicate n s).flatten
  | 0 => rfl
  | n + 1 => by rw [Lib.repeatL, repeatL_flat s n, List.replicate_succ, List.flatten_cons]
theorem repeat14 (s : List UInt8) (m : Int) (w : World) (h0 : 0 ≤ m) (h1 : m ≤ 256) (hl : s.length ≤ 300) : Calls Tryz.prog 226 #[.string ⟨s.toArray⟩, .int .i64 m] w fun e w' => e = .returned (.string ⟨(List.replicate m.toNat s).flatten.toArray⟩) ∧ Kept w w' := by
  obtain ⟨n, rfl⟩ : ∃ n : Nat, m = n := ⟨m.toNat, by omega⟩; have hb : s.length * n ≤ 300 * 256 := Nat.mul_le_mul hl (by omega); have h := Tryz.strings_Repeat ⟨s.toArray⟩ n w (by omega) (by show s.length * n ≤ _; omega); have e : Lib.repeatL (ByteArray.mk s.toArray).data.toList n = (List.replicate (n : Int).toNat s).flatten := repeatL_flat s n; rw [e] at h; exact h
theorem join_empty : ∀ s : List (List UInt8), Lib.join s [] = s.flatten
  | [] => rfl
  | [x] => by simp [Lib.join]
  | x :: y :: r => by
    have := join_empty (y :: r)
    simp only [Lib.join, List.flatten_cons] at this ⊢
    simp [this]
theorem join14 (s : List (List UInt8)) (b off cs : Nat) (w : World) (hs : RowC w (some ⟨b, off, none⟩) (s.map strV)) (hsz : 0 < s.length ∧ s.length ≤ 100) (hcs : s.length ≤ cs) (hl : ∀ t ∈ s, t.length ≤ 300) : Calls Tryz.prog 225 #[.slice (some ⟨b, off, none⟩) s.length cs, .string ⟨#[]⟩] w fun e w' => e = .returned (.string ⟨s.flatten.toArray⟩) ∧ Kept w w' := by
  have e : (s.map (fun t => (⟨t.toArray⟩ : ByteArray))).map (·.data.toList) = s := by rw [List.map_map]; simp [Function.comp_def]
  have fl := flatten_le s hl; have b3 : s.length * 300 ≤ 100 * 300 := Nat.mul_le_mul hsz.2 (Nat.le_refl _)
  have h := Tryz.strings_Join b off cs (s.map fun t => ⟨t.toArray⟩) ⟨#[]⟩ w (fun j x hj => by
    rw [List.getElem?_map] at hj
    cases ht : s[j]? with
    | none => rw [ht] at hj; cases hj
    | some t =>
      rw [ht] at hj
      simp only [Option.map_some, Option.some.injEq] at hj
      subst hj; exact hs.at_ (by rw [List.getElem?_map, ht]; rfl)) (by obtain ⟨b', o', e', hb', _⟩ := hs 0 (by rw [List.length_map]; exact hsz.1); cases e'; exact hb') (by rw [List.length_map]; omega) (by rw [List.length_map]; exact hcs) (by
      rw [e]; show (Lib.join s []).length ≤ _; rw [join_empty]; omega)
  rw [e, List.length_map] at h; have e2 : Lib.join s (ByteArray.mk #[]).data.toList = s.flatten := join_empty s; rw [e2] at h; exact h
theorem find_out (s t : List UInt8) (m : Int) (h : m < 1 ∨ (t.length : Int) + 1 < m) : vFail 2 = find14 s t m := by unfold find14; rw [if_pos h]
theorem find_none (s t : List UInt8) (m : Int) (h1 : 1 ≤ m) (h2 : m ≤ t.length + 1) (h : Lib.index (t.drop (m - 1).toNat) s < 0) : vFail 2 = find14 s t m := by unfold find14; rw [if_neg (by omega), if_pos h]
theorem find_some (s t : List UInt8) (m : Int) (h1 : 1 ≤ m) (h2 : m ≤ t.length + 1) (h : 0 ≤ Lib.index (t.drop (m - 1).toNat) s) : vMake ((Lib.index (t.drop (m - 1).toNat) s + m) * 10000) = find14 s t m := by unfold find14; rw [if_neg (by omega), if_neg (by omega)]
theorem right_neg (s : List UInt8) (m : Int) (h : m < 0) : vFail 2 = right14 s m := by unfold right14; rw [if_pos h]
theorem en_ftext_call__count : En 222 := by intro args w; go_simp
theorem en_ftext_number : En 221 := by intro args w; go_simp
theorem en_ftext_text : En 223 := by intro args w; go_simp
theorem en_glyph_Lower : En 224 := by intro args w; go_simp
theorem en_glyph_Trim : En 191 := by intro args w; go_simp
theorem en_glyph_Upper : En 218 := by intro args w; go_simp
theorem en_strings_Index : En 227 := by intro args w; go_simp
theorem en_strings_Join : En 225 := by intro args w; go_simp
theorem en_strings_Repeat : En 226 := by intro args w; go_simp
theorem en_val_Fail : En 128 := by intro args w; go_simp
theorem en_val_Make : En 153 := by intro args w; go_simp
theorem en_val_ToNumber : En 38 := by intro args w; go_simp
theorem en_val_Truth : En 166 := by intro args w; go_simp
set_option maxHeartbeats 2000000 in
theorem text14_any (s : List UInt8) (w : World) (hl : s.length ≤ 1000000) :
    Calls Tryz.prog 223 #[.string ⟨s.toArray⟩] w fun e w' => e = .returned (aggV (vText s)) ∧ Kept w w' := by
  go_enter Tryz.func223, Tryz.ntmps223; refine sq fun hK1 => ?_
  refine ro [yNew w.heap.size (.cells #[.int .u8 0, .int .i64 0, .string ⟨[].toArray⟩] 25 (0, 0))] 1 9 rfl rfl (Own.start w) (
    aP (fun hk bs hd => xalloc rfl (by kernel_rfl)) rfl <|
    arm0) fun fa fw bs hv ap z q ov => ?_
  have s0 := bs.get 0 rfl rfl; obtain ⟨gb1, s2, bgb1, hgb1⟩ := gotP hv 0 rfl rfl rfl; have ov := ov.cons hgb1 (Nat.le_trans (Own.start w).kept.size bgb1) ((Own.start w).below bgb1); have ow := ov; refine wt hK1 ?_; refine sq fun hK2 => ?_; refine sq fun hK3 => ?_
  refine ro [yV _, yV _, yV _] 3 9 z q ow (
    mvS s0 rfl rfl rfl rfl <|
    aS (fun hk bs hd => xlenS Tryz.underlying9 rfl (dp hd 0 rfl)) rfl <|
    aS (fun hk bs hd => xgtr rfl (dp hd 1 rfl) rfl) rfl <|
    arm0) fun fa fw bs hv ap z q ow => ?_
  obtain ⟨s0, s2⟩ := b2 bs s0 s2; have s5 := gv hv 2 rfl rfl; refine wt hK3 ?_
  by_cases hc1 : (256 : Int) < ((s.length : Nat) : Int)
  · refine ct s5 ((decide_eq_true_iff).2 hc1) ?_
    refine sq fun hK4 => ?_
    refine ro [yV (aggV (vFail 2))] 1 9 z q ow (
      aC (fun hk bs hd => xcall1 rfl rfl (en_val_Fail _ _)) (fun hk bs hd => vfail_any 2 _) rfl <|
      arm0) fun fa fw bs hv ap z q ow => ?_
    obtain ⟨s0, s2⟩ := b2 bs s0 s2; have s6 := gv hv 0 rfl rfl; refine ws ow 0 0 s2 s6 fun fw ow => ?_; refine wt hK4 ?_; refine wp_ret ?_; refine then_r ?_; refine rs3 s2 (ow.box 0 rfl) q ?_; exact ⟨congrArg (fun v => Ending.returned (aggV v)) (show _ = vText s by unfold vText; rw [if_pos (by omega)]), ow.kept⟩
  refine cf s5 (decide_eq_true_iff) hc1 ?_; refine wp_skip ?_; refine tn hK2 ?_; refine sq fun hK5 => ?_
  refine ro [yV _, yV (aggV (⟨3, 0, s⟩ : Vl))] 2 9 z q ow (
    mvS s0 rfl rfl rfl rfl <|
    arm (fun aa ww hk bs hd => by
      have d0 : aa.eval (.tmp 7) = .string ⟨s.toArray⟩ := depX hd 0 rfl; exact stepX_same (v := aggV (⟨3, 0, s⟩ : Vl)) (want0 rfl) (xbuild (us := #[(0, .int .u8 3), (2, .string ⟨s.toArray⟩)]) rfl (by simp only [List.map_toArray, List.map_cons, List.map_nil, d0]; rfl) (by kernel_rfl)) rfl rfl
      ) <|
    arm0) fun fa fw bs hv ap z q ow => ?_
  have s2 := bg bs s2; have s8 := gv hv 1 rfl rfl; refine ws ow 0 0 s2 s8 fun fw ow => ?_; refine wt hK5 ?_; refine wp_ret ?_; refine rs3 s2 (ow.box 0 rfl) q ?_; exact ⟨congrArg (fun v => Ending.returned (aggV v)) (show _ = vText s by unfold vText; rw [if_neg (by omega)]), ow.kept⟩
set_option maxHeartbeats 2000000 in
theorem number14_any (n : Int) (w : World) (h1 : -900000000000000 ≤ n) (h2 : n ≤ 900000000000000) :
    Calls Tryz.prog 221 #[.int .i64 n] w fun e w' => e = .returned (aggV (vMake (n * 10000))) ∧ Kept w w' := by
  go_enter Tryz.func221, Tryz.ntmps221; refine sq fun hK1 => ?_
  refine ro [yNew w.heap.size (.cells #[.int .u8 0, .int .i64 0, .string ⟨[].toArray⟩] 25 (0, 0))] 1 6 rfl rfl (Own.start w) (
    aP (fun hk bs hd => xalloc rfl (by kernel_rfl)) rfl <|
    arm0) fun fa fw bs hv ap z q ov => ?_
  have s0 := bs.get 0 rfl rfl; obtain ⟨gb1, s2, bgb1, hgb1⟩ := gotP hv 0 rfl rfl rfl; have ov := ov.cons hgb1 (Nat.le_trans (Own.start w).kept.size bgb1) ((Own.start w).below bgb1); have ow := ov; refine wt hK1 ?_; refine sq fun hK2 => ?_
  refine ro [yV _, yV _, yV (aggV (vMake (n * 10000)))] 3 6 z q ow (
    mvS s0 rfl rfl rfl rfl <|
    aS (fun hk bs hd => xmul (Or.inr rfl) rfl (dp hd 0 rfl) rfl (by omega) (by omega)) rfl <|
    aC (fun hk bs hd => xcall1 rfl (dp hd 1 rfl) (en_val_Make _ _)) (fun hk bs hd => vmake_any (n * 10000) _ (by omega) (by omega)) rfl <|
    arm0) fun fa fw bs hv ap z q ow => ?_
  have s2 := bg bs s2; have s5 := gv hv 2 rfl rfl; refine ws ow 0 0 s2 s5 fun fw ow => ?_; refine wt hK2 ?_; refine wp_ret ?_; refine rs3 s2 (ow.box 0 rfl) q ?_; exact ⟨rfl, ow.kept⟩
set_option maxHeartbeats 2000000 in
theorem len14_any (s : List UInt8) (b off cs : Nat) (B : Option Addr) (cn : Nat) (w : World) (hs : RowC w (some ⟨b, off, none⟩) [.string ⟨s.toArray⟩]) (l_s : s.length ≤ 300) :
    Calls Tryz.prog 132 #[.agg #[.slice (some ⟨b, off, none⟩) 1 cs, .slice B 0 cn]] w fun e w' => e = .returned (aggV (vMake (s.length * 10000))) ∧ Kept w w' := by
  go_enter Tryz.func132, Tryz.ntmps132; refine sq fun hK1 => ?_
  refine ro [yNew w.heap.size (.cells #[.slice (some ⟨b, off, none⟩) 1 cs, .slice B 0 cn] 90 (0, 0)), yNew w.heap.size (.cells #[.int .u8 0, .int .i64 0, .string ⟨[].toArray⟩] 25 (0, 0))] 2 9 rfl rfl (Own.start w) (
    aP (fun hk bs hd => xbox rfl (bs.get 0 rfl rfl) (by kernel_rfl)) rfl <|
    aP (fun hk bs hd => xalloc rfl (by kernel_rfl)) rfl <|
    arm0) fun fa fw bs hv ap z q ov => ?_
  obtain ⟨gb1, s1, bgb1, hgb1⟩ := gotP hv 0 rfl rfl rfl; have ov := ov.cons hgb1 (Nat.le_trans (Own.start w).kept.size bgb1) ((Own.start w).below bgb1); obtain ⟨gb2, s2, bgb2, hgb2⟩ := gotP hv 1 rfl rfl rfl; have ov := ov.cons hgb2 (Nat.le_trans (Own.start w).kept.size bgb2) (ne_cons (apartP ap 0 1 rfl rfl rfl s1 rfl s2 rfl) ((Own.start w).below bgb2)); have ow := ov; refine wt hK1 ?_; refine sq fun hK2 => ?_
  refine ro [yV (.pointer (some ⟨gb1, 0, none⟩)), yV _, yV _, yV _, yV _, yV (aggV (vMake (((s.length : Nat) : Int) * 10000)))] 6 9 z q ow (
    aS (fun hk bs hd => xfieldAddr rfl (bg bs s1) (by kernel_rfl)) rfl <|
    aS (fun hk bs hd => xloadB rfl (by kernel_rfl) (dp hd 0 rfl) ((ow.keep hk).box 1 rfl) rfl) rfl <|
    aS (fun hk bs hd => xindexAddr (u := .slice (some ⟨b, off, none⟩) 1 cs) (z := .int .i64 ((0 : Nat) : Int)) rfl (dp hd 1 rfl) rfl (run_place1 Tryz.underlying88 (by kernel_rfl) (by omega))) rfl <|
    aS (fun hk bs hd => xloadC rfl (by kernel_rfl) (dp hd 2 rfl) ((hs.kept (ow.keep hk).kept).at_ (k := 0) rfl)) rfl <|
    aS (fun hk bs hd => xlenS Tryz.underlying9 rfl (dp hd 3 rfl)) rfl <|
    aC (fun hk bs hd => xcall1 rfl (dp hd 4 rfl) (en_ftext_number _ _)) (fun hk bs hd => number14_any ((s.length : Nat) : Int) _ (by omega) (by omega)) rfl <|
    arm0) fun fa fw bs hv ap z q ow => ?_
  have s2 := bg bs s2; have s8 := gv hv 5 rfl rfl; refine ws ow 0 0 s2 s8 fun fw ow => ?_; refine wt hK2 ?_; refine wp_ret ?_; refine rs3 s2 (ow.box 0 rfl) q ?_; exact ⟨rfl, ow.kept⟩
set_option maxHeartbeats 2000000 in
theorem upper14_any (s : List UInt8) (b off cs : Nat) (B : Option Addr) (cn : Nat) (w : World) (hs : RowC w (some ⟨b, off, none⟩) [.string ⟨s.toArray⟩]) (l_s : s.length ≤ 300) :
    Calls Tryz.prog 136 #[.agg #[.slice (some ⟨b, off, none⟩) 1 cs, .slice B 0 cn]] w fun e w' => e = .returned (aggV (vText (upper s))) ∧ Kept w w' := by
  go_enter Tryz.func136, Tryz.ntmps136; refine sq fun hK1 => ?_
  refine ro [yNew w.heap.size (.cells #[.slice (some ⟨b, off, none⟩) 1 cs, .slice B 0 cn] 90 (0, 0)), yNew w.heap.size (.cells #[.int .u8 0, .int .i64 0, .string ⟨[].toArray⟩] 25 (0, 0))] 2 9 rfl rfl (Own.start w) (
    aP (fun hk bs hd => xbox rfl (bs.get 0 rfl rfl) (by kernel_rfl)) rfl <|
    aP (fun hk bs hd => xalloc rfl (by kernel_rfl)) rfl <|
    arm0) fun fa fw bs hv ap z q ov => ?_
  obtain ⟨gb1, s1, bgb1, hgb1⟩ := gotP hv 0 rfl rfl rfl; have ov := ov.cons hgb1 (Nat.le_trans (Own.start w).kept.size bgb1) ((Own.start w).below bgb1); obtain ⟨gb2, s2, bgb2, hgb2⟩ := gotP hv 1 rfl rfl rfl; have ov := ov.cons hgb2 (Nat.le_trans (Own.start w).kept.size bgb2) (ne_cons (apartP ap 0 1 rfl rfl rfl s1 rfl s2 rfl) ((Own.start w).below bgb2)); have ow := ov; refine wt hK1 ?_; refine sq fun hK2 => ?_
  refine ro [yV (.pointer (some ⟨gb1, 0, none⟩)), yV _, yV _, yV _, yV (.string ⟨(upper s).toArray⟩), yV (aggV (vText (upper s)))] 6 9 z q ow (
    aS (fun hk bs hd => xfieldAddr rfl (bg bs s1) (by kernel_rfl)) rfl <|
    aS (fun hk bs hd => xloadB rfl (by kernel_rfl) (dp hd 0 rfl) ((ow.keep hk).box 1 rfl) rfl) rfl <|
    aS (fun hk bs hd => xindexAddr (u := .slice (some ⟨b, off, none⟩) 1 cs) (z := .int .i64 ((0 : Nat) : Int)) rfl (dp hd 1 rfl) rfl (run_place1 Tryz.underlying88 (by kernel_rfl) (by omega))) rfl <|
    aS (fun hk bs hd => xloadC rfl (by kernel_rfl) (dp hd 2 rfl) ((hs.kept (ow.keep hk).kept).at_ (k := 0) rfl)) rfl <|
    aC (fun hk bs hd => xcall1 rfl (dp hd 3 rfl) (en_glyph_Upper _ _)) (fun hk bs hd => upper_any s _ (by omega)) rfl <|
    aC (fun hk bs hd => xcall1 rfl (dp hd 4 rfl) (en_ftext_text _ _)) (fun hk bs hd => text14_any (upper s) _ (by rw [upper_length]; omega)) rfl <|
    arm0) fun fa fw bs hv ap z q ow => ?_
  have s2 := bg bs s2; have s8 := gv hv 5 rfl rfl; refine ws ow 0 0 s2 s8 fun fw ow => ?_; refine wt hK2 ?_; refine wp_ret ?_; refine rs3 s2 (ow.box 0 rfl) q ?_; exact ⟨rfl, ow.kept⟩
set_option maxHeartbeats 2000000 in
theorem lower14_any (s : List UInt8) (b off cs : Nat) (B : Option Addr) (cn : Nat) (w : World) (hs : RowC w (some ⟨b, off, none⟩) [.string ⟨s.toArray⟩]) (l_s : s.length ≤ 300) :
    Calls Tryz.prog 137 #[.agg #[.slice (some ⟨b, off, none⟩) 1 cs, .slice B 0 cn]] w fun e w' => e = .returned (aggV (vText (lower s))) ∧ Kept w w' := by
  go_enter Tryz.func137, Tryz.ntmps137; refine sq fun hK1 => ?_
  refine ro [yNew w.heap.size (.cells #[.slice (some ⟨b, off, none⟩) 1 cs, .slice B 0 cn] 90 (0, 0)), yNew w.heap.size (.cells #[.int .u8 0, .int .i64 0, .string ⟨[].toArray⟩] 25 (0, 0))] 2 9 rfl rfl (Own.start w) (
    aP (fun hk bs hd => xbox rfl (bs.get 0 rfl rfl) (by kernel_rfl)) rfl <|
    aP (fun hk bs hd => xalloc rfl (by kernel_rfl)) rfl <|
    arm0) fun fa fw bs hv ap z q ov => ?_
  obtain ⟨gb1, s1, bgb1, hgb1⟩ := gotP hv 0 rfl rfl rfl; have ov := ov.cons hgb1 (Nat.le_trans (Own.start w).kept.size bgb1) ((Own.start w).below bgb1); obtain ⟨gb2, s2, bgb2, hgb2⟩ := gotP hv 1 rfl rfl rfl; have ov := ov.cons hgb2 (Nat.le_trans (Own.start w).kept.size bgb2) (ne_cons (apartP ap 0 1 rfl rfl rfl s1 rfl s2 rfl) ((Own.start w).below bgb2)); have ow := ov; refine wt hK1 ?_; refine sq fun hK2 => ?_
  refine ro [yV (.pointer (some ⟨gb1, 0, none⟩)), yV _, yV _, yV _, yV (.string ⟨(lower s).toArray⟩), yV (aggV (vText (lower s)))] 6 9 z q ow (
    aS (fun hk bs hd => xfieldAddr rfl (bg bs s1) (by kernel_rfl)) rfl <|
    aS (fun hk bs hd => xloadB rfl (by kernel_rfl) (dp hd 0 rfl) ((ow.keep hk).box 1 rfl) rfl) rfl <|
    aS (fun hk bs hd => xindexAddr (u := .slice (some ⟨b, off, none⟩) 1 cs) (z := .int .i64 ((0 : Nat) : Int)) rfl (dp hd 1 rfl) rfl (run_place1 Tryz.underlying88 (by kernel_rfl) (by omega))) rfl <|
    aS (fun hk bs hd => xloadC rfl (by kernel_rfl) (dp hd 2 rfl) ((hs.kept (ow.keep hk).kept).at_ (k := 0) rfl)) rfl <|
    aC (fun hk bs hd => xcall1 rfl (dp hd 3 rfl) (en_glyph_Lower _ _)) (fun hk bs hd => lower_any s _ (by omega)) rfl <|
    aC (fun hk bs hd => xcall1 rfl (dp hd 4 rfl) (en_ftext_text _ _)) (fun hk bs hd => text14_any (lower s) _ (by rw [lower_length]; omega)) rfl <|
    arm0) fun fa fw bs hv ap z q ow => ?_
  have s2 := bg bs s2; have s8 := gv hv 5 rfl rfl; refine ws ow 0 0 s2 s8 fun fw ow => ?_; refine wt hK2 ?_; refine wp_ret ?_; refine rs3 s2 (ow.box 0 rfl) q ?_; exact ⟨rfl, ow.kept⟩
set_option maxHeartbeats 2000000 in
theorem trim14_any (s : List UInt8) (b off cs : Nat) (B : Option Addr) (cn : Nat) (w : World) (hs : RowC w (some ⟨b, off, none⟩) [.string ⟨s.toArray⟩]) (l_s : s.length ≤ 300) (mx : Int) (HM : Mx w mx) :
    Calls Tryz.prog 138 #[.agg #[.slice (some ⟨b, off, none⟩) 1 cs, .slice B 0 cn]] w fun e w' => e = .returned (aggV (vText (trim s))) ∧ Kept w w' := by
  go_enter Tryz.func138, Tryz.ntmps138; refine sq fun hK1 => ?_
  refine ro [yNew w.heap.size (.cells #[.slice (some ⟨b, off, none⟩) 1 cs, .slice B 0 cn] 90 (0, 0)), yNew w.heap.size (.cells #[.int .u8 0, .int .i64 0, .string ⟨[].toArray⟩] 25 (0, 0))] 2 9 rfl rfl (Own.start w) (
    aP (fun hk bs hd => xbox rfl (bs.get 0 rfl rfl) (by kernel_rfl)) rfl <|
    aP (fun hk bs hd => xalloc rfl (by kernel_rfl)) rfl <|
    arm0) fun fa fw bs hv ap z q ov => ?_
  obtain ⟨gb1, s1, bgb1, hgb1⟩ := gotP hv 0 rfl rfl rfl; have ov := ov.cons hgb1 (Nat.le_trans (Own.start w).kept.size bgb1) ((Own.start w).below bgb1); obtain ⟨gb2, s2, bgb2, hgb2⟩ := gotP hv 1 rfl rfl rfl; have ov := ov.cons hgb2 (Nat.le_trans (Own.start w).kept.size bgb2) (ne_cons (apartP ap 0 1 rfl rfl rfl s1 rfl s2 rfl) ((Own.start w).below bgb2)); have ow := ov; refine wt hK1 ?_; refine sq fun hK2 => ?_
  refine ro [yV (.pointer (some ⟨gb1, 0, none⟩)), yV _, yV _, yV _, yV (.string ⟨(trim s).toArray⟩), yV (aggV (vText (trim s)))] 6 9 z q ow (
    aS (fun hk bs hd => xfieldAddr rfl (bg bs s1) (by kernel_rfl)) rfl <|
    aS (fun hk bs hd => xloadB rfl (by kernel_rfl) (dp hd 0 rfl) ((ow.keep hk).box 1 rfl) rfl) rfl <|
    aS (fun hk bs hd => xindexAddr (u := .slice (some ⟨b, off, none⟩) 1 cs) (z := .int .i64 ((0 : Nat) : Int)) rfl (dp hd 1 rfl) rfl (run_place1 Tryz.underlying88 (by kernel_rfl) (by omega))) rfl <|
    aS (fun hk bs hd => xloadC rfl (by kernel_rfl) (dp hd 2 rfl) ((hs.kept (ow.keep hk).kept).at_ (k := 0) rfl)) rfl <|
    aC (fun hk bs hd => xcall1 rfl (dp hd 3 rfl) (en_glyph_Trim _ _)) (fun hk bs hd => trim_any s _ mx (by omega) (HM.kept (ow.keep hk).kept)) rfl <|
    aC (fun hk bs hd => xcall1 rfl (dp hd 4 rfl) (en_ftext_text _ _)) (fun hk bs hd => text14_any (trim s) _ (by have := trim_len s; omega)) rfl <|
    arm0) fun fa fw bs hv ap z q ow => ?_
  have s2 := bg bs s2; have s8 := gv hv 5 rfl rfl; refine ws ow 0 0 s2 s8 fun fw ow => ?_; refine wt hK2 ?_; refine wp_ret ?_; refine rs3 s2 (ow.box 0 rfl) q ?_; exact ⟨rfl, ow.kept⟩
set_option maxHeartbeats 2000000 in
theorem exact14_any (s t : List UInt8) (b off cs : Nat) (B : Option Addr) (cn : Nat) (w : World) (hs : RowC w (some ⟨b, off, none⟩) [.string ⟨s.toArray⟩, .string ⟨t.toArray⟩]) (l_s : s.length ≤ 300) (l_t : t.length ≤ 300) :
    Calls Tryz.prog 141 #[.agg #[.slice (some ⟨b, off, none⟩) 2 cs, .slice B 0 cn]] w fun e w' => e = .returned (aggV (vTruth (decide (s = t)))) ∧ Kept w w' := by
  go_enter Tryz.func141, Tryz.ntmps141; refine sq fun hK1 => ?_
  refine ro [yNew w.heap.size (.cells #[.slice (some ⟨b, off, none⟩) 2 cs, .slice B 0 cn] 90 (0, 0)), yNew w.heap.size (.cells #[.int .u8 0, .int .i64 0, .string ⟨[].toArray⟩] 25 (0, 0))] 2 13 rfl rfl (Own.start w) (
    aP (fun hk bs hd => xbox rfl (bs.get 0 rfl rfl) (by kernel_rfl)) rfl <|
    aP (fun hk bs hd => xalloc rfl (by kernel_rfl)) rfl <|
    arm0) fun fa fw bs hv ap z q ov => ?_
  obtain ⟨gb1, s1, bgb1, hgb1⟩ := gotP hv 0 rfl rfl rfl; have ov := ov.cons hgb1 (Nat.le_trans (Own.start w).kept.size bgb1) ((Own.start w).below bgb1); obtain ⟨gb2, s2, bgb2, hgb2⟩ := gotP hv 1 rfl rfl rfl; have ov := ov.cons hgb2 (Nat.le_trans (Own.start w).kept.size bgb2) (ne_cons (apartP ap 0 1 rfl rfl rfl s1 rfl s2 rfl) ((Own.start w).below bgb2)); have ow := ov; refine wt hK1 ?_; refine sq fun hK2 => ?_
  refine ro [yV (.pointer (some ⟨gb1, 0, none⟩)), yV _, yV _, yV _, yV (.pointer (some ⟨gb1, 0, none⟩)), yV _, yV _, yV _, yV _, yV (aggV (vTruth (decide (s = t))))] 10 13 z q ow (
    aS (fun hk bs hd => xfieldAddr rfl (bg bs s1) (by kernel_rfl)) rfl <|
    aS (fun hk bs hd => xloadB rfl (by kernel_rfl) (dp hd 0 rfl) ((ow.keep hk).box 1 rfl) rfl) rfl <|
    aS (fun hk bs hd => xindexAddr (u := .slice (some ⟨b, off, none⟩) 2 cs) (z := .int .i64 ((0 : Nat) : Int)) rfl (dp hd 1 rfl) rfl (run_place1 Tryz.underlying88 (by kernel_rfl) (by omega))) rfl <|
    aS (fun hk bs hd => xloadC rfl (by kernel_rfl) (dp hd 2 rfl) ((hs.kept (ow.keep hk).kept).at_ (k := 0) rfl)) rfl <|
    aS (fun hk bs hd => xfieldAddr rfl (bg bs s1) (by kernel_rfl)) rfl <|
    aS (fun hk bs hd => xloadB rfl (by kernel_rfl) (dp hd 4 rfl) ((ow.keep hk).box 1 rfl) rfl) rfl <|
    aS (fun hk bs hd => xindexAddr (u := .slice (some ⟨b, off, none⟩) 2 cs) (z := .int .i64 ((1 : Nat) : Int)) rfl (dp hd 5 rfl) rfl (run_place1 Tryz.underlying88 (by kernel_rfl) (by omega))) rfl <|
    aS (fun hk bs hd => xloadC rfl (by kernel_rfl) (dp hd 6 rfl) ((hs.kept (ow.keep hk).kept).at_ (k := 1) rfl)) rfl <|
    aS (fun hk bs hd => xeqS rfl (dp hd 3 rfl) (dp hd 7 rfl)) rfl <|
    aC (fun hk bs hd => xcall1 rfl (dp hd 8 rfl) (en_val_Truth _ _)) (fun hk bs hd => vtruth_any (decide (s = t)) _) rfl <|
    arm0) fun fa fw bs hv ap z q ow => ?_
  have s2 := bg bs s2; have s12 := gv hv 9 rfl rfl; refine ws ow 0 0 s2 s12 fun fw ow => ?_; refine wt hK2 ?_; refine wp_ret ?_; refine rs3 s2 (ow.box 0 rfl) q ?_; exact ⟨rfl, ow.kept⟩
set_option maxHeartbeats 2000000 in
theorem value14_any (s : List UInt8) (b off cs : Nat) (B : Option Addr) (cn : Nat) (w : World) (hs : RowC w (some ⟨b, off, none⟩) [.string ⟨s.toArray⟩]) (l_s : s.length ≤ 300) (mx : Int) (HM : Mx w mx) :
    Calls Tryz.prog 143 #[.agg #[.slice (some ⟨b, off, none⟩) 1 cs, .slice B 0 cn]] w fun e w' => e = .returned (aggV (vNum ⟨3, 0, s⟩)) ∧ Kept w w' := by
  go_enter Tryz.func143, Tryz.ntmps143; refine sq fun hK1 => ?_
  refine ro [yNew w.heap.size (.cells #[.slice (some ⟨b, off, none⟩) 1 cs, .slice B 0 cn] 90 (0, 0)), yNew w.heap.size (.cells #[.int .u8 0, .int .i64 0, .string ⟨[].toArray⟩] 25 (0, 0))] 2 9 rfl rfl (Own.start w) (
    aP (fun hk bs hd => xbox rfl (bs.get 0 rfl rfl) (by kernel_rfl)) rfl <|
    aP (fun hk bs hd => xalloc rfl (by kernel_rfl)) rfl <|
    arm0) fun fa fw bs hv ap z q ov => ?_
  obtain ⟨gb1, s1, bgb1, hgb1⟩ := gotP hv 0 rfl rfl rfl; have ov := ov.cons hgb1 (Nat.le_trans (Own.start w).kept.size bgb1) ((Own.start w).below bgb1); obtain ⟨gb2, s2, bgb2, hgb2⟩ := gotP hv 1 rfl rfl rfl; have ov := ov.cons hgb2 (Nat.le_trans (Own.start w).kept.size bgb2) (ne_cons (apartP ap 0 1 rfl rfl rfl s1 rfl s2 rfl) ((Own.start w).below bgb2)); have ow := ov; refine wt hK1 ?_; refine sq fun hK2 => ?_
  refine ro [yV (.pointer (some ⟨gb1, 0, none⟩)), yV _, yV _, yV _, yV (aggV (⟨3, 0, s⟩ : Vl)), yV (aggV (vNum (⟨3, 0, s⟩ : Vl)))] 6 9 z q ow (
    aS (fun hk bs hd => xfieldAddr rfl (bg bs s1) (by kernel_rfl)) rfl <|
    aS (fun hk bs hd => xloadB rfl (by kernel_rfl) (dp hd 0 rfl) ((ow.keep hk).box 1 rfl) rfl) rfl <|
    aS (fun hk bs hd => xindexAddr (u := .slice (some ⟨b, off, none⟩) 1 cs) (z := .int .i64 ((0 : Nat) : Int)) rfl (dp hd 1 rfl) rfl (run_place1 Tryz.underlying88 (by kernel_rfl) (by omega))) rfl <|
    aS (fun hk bs hd => xloadC rfl (by kernel_rfl) (dp hd 2 rfl) ((hs.kept (ow.keep hk).kept).at_ (k := 0) rfl)) rfl <|
    arm (fun aa ww hk bs hd => by
      have d3 : aa.eval (.tmp 6) = .string ⟨s.toArray⟩ := depX hd 3 rfl; exact stepX_same (v := aggV (⟨3, 0, s⟩ : Vl)) (want0 rfl) (xbuild (us := #[(0, .int .u8 3), (2, .string ⟨s.toArray⟩)]) rfl (by simp only [List.map_toArray, List.map_cons, List.map_nil, d3]; rfl) (by kernel_rfl)) rfl rfl
      ) <|
    aC (fun hk bs hd => xcall1 rfl (dp hd 4 rfl) (en_val_ToNumber _ _)) (fun hk bs hd => tonum_any (⟨3, 0, s⟩ : Vl) _ mx (HM.kept (ow.keep hk).kept) ⟨by simp only; omega, by simp only; omega⟩ (by simp only; omega)) rfl <|
    arm0) fun fa fw bs hv ap z q ow => ?_
  have s2 := bg bs s2; have s8 := gv hv 5 rfl rfl; refine ws ow 0 0 s2 s8 fun fw ow => ?_; refine wt hK2 ?_; refine wp_ret ?_; refine rs3 s2 (ow.box 0 rfl) q ?_; exact ⟨rfl, ow.kept⟩
set_option maxHeartbeats 2000000 in
theorem count14_none (s : List UInt8) (b off cs : Nat) (B : Option Addr) (cn : Nat) (w : World) (hs : RowC w (some ⟨b, off, none⟩) [.string ⟨s.toArray⟩]) (l_s : s.length ≤ 300) :
    Calls Tryz.prog 222 #[.agg #[.slice (some ⟨b, off, none⟩) 1 cs, .slice B 0 cn]] w fun e w' => e = .returned (.tuple #[.int .i64 (min 1 ((s.length : Nat) : Int)), .bool true]) ∧ Kept w w' := by
  go_enter Tryz.func222, Tryz.ntmps222; refine sq fun hK1 => ?_
  refine ro [yNew w.heap.size (.cells #[.slice (some ⟨b, off, none⟩) 1 cs, .slice B 0 cn] 90 (0, 0)), yV _, yV _] 3 29 rfl rfl (Own.start w) (
    aP (fun hk bs hd => xbox rfl (bs.get 0 rfl rfl) (by kernel_rfl)) rfl <|
    aS (fun hk bs hd => xassign rfl rfl) rfl <|
    aS (fun hk bs hd => xassign rfl rfl) rfl <|
    arm0) fun fa fw bs hv ap z q ov => ?_
  obtain ⟨gb1, s1, bgb1, hgb1⟩ := gotP hv 0 rfl rfl rfl; have ov := ov.cons hgb1 (Nat.le_trans (Own.start w).kept.size bgb1) ((Own.start w).below bgb1); have s2 := gv hv 1 rfl rfl; have s3 := gv hv 2 rfl rfl; have ow := ov; refine wt hK1 ?_; refine sq fun hK2 => ?_; refine sq fun hK3 => ?_
  refine ro [yV (.pointer (some ⟨gb1, 1, none⟩)), yV _, yV _, yV (.bool true)] 4 29 z q ow (
    aS (fun hk bs hd => xfieldAddr rfl (bg bs s1) (by kernel_rfl)) rfl <|
    aS (fun hk bs hd => xloadB rfl (by kernel_rfl) (dp hd 0 rfl) ((ow.keep hk).box 0 rfl) rfl) rfl <|
    aS (fun hk bs hd => xlen Tryz.underlying72 rfl (dp hd 1 rfl)) rfl <|
    aE (fun hk bs hd => xeqi rfl (dp hd 2 rfl) rfl) (congrArg Value.bool rfl) rfl <|
    arm0) fun fa fw bs hv ap z q ow => ?_
  obtain ⟨s1, s2, s3⟩ := b3 bs s1 s2 s3; have s7 := gv hv 3 rfl rfl; refine wt hK3 ?_; refine wp_cond_true (s7) ?_; refine sq fun hK4 => ?_
  refine ro [yV (.pointer (some ⟨gb1, 0, none⟩)), yV _, yV _, yV _, yV _, yV _, yV _, yV _] 8 29 z q ow (
    aS (fun hk bs hd => xfieldAddr rfl (bg bs s1) (by kernel_rfl)) rfl <|
    aS (fun hk bs hd => xloadB rfl (by kernel_rfl) (dp hd 0 rfl) ((ow.keep hk).box 0 rfl) rfl) rfl <|
    aS (fun hk bs hd => xindexAddr (u := .slice (some ⟨b, off, none⟩) 1 cs) (z := .int .i64 ((0 : Nat) : Int)) rfl (dp hd 1 rfl) rfl (run_place1 Tryz.underlying88 (by kernel_rfl) (by omega))) rfl <|
    aS (fun hk bs hd => xloadC rfl (by kernel_rfl) (dp hd 2 rfl) ((hs.kept (ow.keep hk).kept).at_ (k := 0) rfl)) rfl <|
    aS (fun hk bs hd => xlenS Tryz.underlying9 rfl (dp hd 3 rfl)) rfl <|
    aS (fun hk bs hd => xminI rfl (Or.inl rfl) rfl (dp hd 4 rfl)) rfl <|
    asD 5 rfl rfl rfl rfl rfl rfl <|
    aS (fun hk bs hd => xassign rfl rfl) rfl <|
    arm0) fun fa fw bs hv ap z q ow => ?_
  have s1 := bg bs s1; have s2 := gv hv 6 rfl rfl; have s3 := gv hv 7 rfl rfl; refine wt hK4 ?_; refine wp_ret ?_; refine then_r ?_; refine resultsL (v := .tuple #[.int .i64 (min 1 ((s.length : Nat) : Int)), .bool true]) rfl (.cons (res_tmp s2) (.cons (res_tmp s3) .nil)) rfl q ?_; exact ⟨rfl, ow.kept⟩
set_option maxHeartbeats 2000000 in
theorem count14_some (s : List UInt8) (m : Int) (b off cs : Nat) (nb no cn : Nat) (w : World) (hs : RowC w (some ⟨b, off, none⟩) [.string ⟨s.toArray⟩]) (hn : RowC w (some ⟨nb, no, none⟩) [.int .i64 m]) (l_s : s.length ≤ 300) (r_m : -922337203685478 ≤ m ∧ m ≤ 922337203685478) :
    Calls Tryz.prog 222 #[.agg #[.slice (some ⟨b, off, none⟩) 1 cs, .slice (some ⟨nb, no, none⟩) 1 cn]] w fun e w' => e = .returned (.tuple #[.int .i64 (min m ((s.length : Nat) : Int)), .bool (decide ((0 : Int) ≤ (m : Int)))]) ∧ Kept w w' := by
  go_enter Tryz.func222, Tryz.ntmps222; refine sq fun hK1 => ?_
  refine ro [yNew w.heap.size (.cells #[.slice (some ⟨b, off, none⟩) 1 cs, .slice (some ⟨nb, no, none⟩) 1 cn] 90 (0, 0)), yV _, yV _] 3 29 rfl rfl (Own.start w) (
    aP (fun hk bs hd => xbox rfl (bs.get 0 rfl rfl) (by kernel_rfl)) rfl <|
    aS (fun hk bs hd => xassign rfl rfl) rfl <|
    aS (fun hk bs hd => xassign rfl rfl) rfl <|
    arm0) fun fa fw bs hv ap z q ov => ?_
  obtain ⟨gb1, s1, bgb1, hgb1⟩ := gotP hv 0 rfl rfl rfl; have ov := ov.cons hgb1 (Nat.le_trans (Own.start w).kept.size bgb1) ((Own.start w).below bgb1); have s2 := gv hv 1 rfl rfl; have s3 := gv hv 2 rfl rfl; have ow := ov; refine wt hK1 ?_; refine sq fun hK2 => ?_; refine sq fun hK3 => ?_
  refine ro [yV (.pointer (some ⟨gb1, 1, none⟩)), yV _, yV _, yV (.bool false)] 4 29 z q ow (
    aS (fun hk bs hd => xfieldAddr rfl (bg bs s1) (by kernel_rfl)) rfl <|
    aS (fun hk bs hd => xloadB rfl (by kernel_rfl) (dp hd 0 rfl) ((ow.keep hk).box 0 rfl) rfl) rfl <|
    aS (fun hk bs hd => xlen Tryz.underlying72 rfl (dp hd 1 rfl)) rfl <|
    aE (fun hk bs hd => xeqi rfl (dp hd 2 rfl) rfl) (congrArg Value.bool rfl) rfl <|
    arm0) fun fa fw bs hv ap z q ow => ?_
  obtain ⟨s1, s2, s3⟩ := b3 bs s1 s2 s3; have s7 := gv hv 3 rfl rfl; refine wt hK3 ?_; refine wp_cond_false (s7) ?_; refine wp_skip ?_; refine tn hK2 ?_; refine sq fun hK4 => ?_
  refine ro [yV (.pointer (some ⟨gb1, 1, none⟩)), yV _, yV _, yV _, yV (.pointer (some ⟨gb1, 0, none⟩)), yV _, yV _, yV _, yV _, yV _, yV (.pointer (some ⟨gb1, 1, none⟩)), yV _, yV _, yV _, yV _, yV _, yV _] 17 29 z q ow (
    aS (fun hk bs hd => xfieldAddr rfl (bg bs s1) (by kernel_rfl)) rfl <|
    aS (fun hk bs hd => xloadB rfl (by kernel_rfl) (dp hd 0 rfl) ((ow.keep hk).box 0 rfl) rfl) rfl <|
    aS (fun hk bs hd => xindexAddr (u := .slice (some ⟨nb, no, none⟩) 1 cn) (z := .int .i64 ((0 : Nat) : Int)) rfl (dp hd 1 rfl) rfl (run_place1 Tryz.underlying72 (by kernel_rfl) (by omega))) rfl <|
    aS (fun hk bs hd => xloadC rfl (by kernel_rfl) (dp hd 2 rfl) ((hn.kept (ow.keep hk).kept).at_ (k := 0) rfl)) rfl <|
    aS (fun hk bs hd => xfieldAddr rfl (bg bs s1) (by kernel_rfl)) rfl <|
    aS (fun hk bs hd => xloadB rfl (by kernel_rfl) (dp hd 4 rfl) ((ow.keep hk).box 0 rfl) rfl) rfl <|
    aS (fun hk bs hd => xindexAddr (u := .slice (some ⟨b, off, none⟩) 1 cs) (z := .int .i64 ((0 : Nat) : Int)) rfl (dp hd 5 rfl) rfl (run_place1 Tryz.underlying88 (by kernel_rfl) (by omega))) rfl <|
    aS (fun hk bs hd => xloadC rfl (by kernel_rfl) (dp hd 6 rfl) ((hs.kept (ow.keep hk).kept).at_ (k := 0) rfl)) rfl <|
    aS (fun hk bs hd => xlenS Tryz.underlying9 rfl (dp hd 7 rfl)) rfl <|
    aS (fun hk bs hd => xminI rfl (Or.inr rfl) (dp hd 3 rfl) (dp hd 8 rfl)) rfl <|
    aS (fun hk bs hd => xfieldAddr rfl (bg bs s1) (by kernel_rfl)) rfl <|
    aS (fun hk bs hd => xloadB rfl (by kernel_rfl) (dp hd 10 rfl) ((ow.keep hk).box 0 rfl) rfl) rfl <|
    aS (fun hk bs hd => xindexAddr (u := .slice (some ⟨nb, no, none⟩) 1 cn) (z := .int .i64 ((0 : Nat) : Int)) rfl (dp hd 11 rfl) rfl (run_place1 Tryz.underlying72 (by kernel_rfl) (by omega))) rfl <|
    aS (fun hk bs hd => xloadC rfl (by kernel_rfl) (dp hd 12 rfl) ((hn.kept (ow.keep hk).kept).at_ (k := 0) rfl)) rfl <|
    aS (fun hk bs hd => xgeq rfl (dp hd 13 rfl) rfl) rfl <|
    asD 9 rfl rfl rfl rfl rfl rfl <|
    asD 14 rfl rfl rfl rfl rfl rfl <|
    arm0) fun fa fw bs hv ap z q ow => ?_
  have s2 := gv hv 15 rfl rfl; have s3 := gv hv 16 rfl rfl; refine wt hK4 ?_; refine wp_ret ?_; refine resultsL (v := .tuple #[.int .i64 (min m ((s.length : Nat) : Int)), .bool (decide ((0 : Int) ≤ (m : Int)))]) rfl (.cons (res_tmp s2) (.cons (res_tmp s3) .nil)) rfl q ?_; exact ⟨rfl, ow.kept⟩
set_option maxHeartbeats 2000000 in
theorem left14_none (s : List UInt8) (b off cs : Nat) (B : Option Addr) (cn : Nat) (w : World) (hs : RowC w (some ⟨b, off, none⟩) [.string ⟨s.toArray⟩]) (l_s : s.length ≤ 300) :
    Calls Tryz.prog 133 #[.agg #[.slice (some ⟨b, off, none⟩) 1 cs, .slice B 0 cn]] w fun e w' => e = .returned (aggV (left14 s 1)) ∧ Kept w w' := by
  go_enter Tryz.func133, Tryz.ntmps133; refine sq fun hK1 => ?_
  refine ro [yNew w.heap.size (.cells #[.slice (some ⟨b, off, none⟩) 1 cs, .slice B 0 cn] 90 (0, 0)), yNew w.heap.size (.cells #[.int .u8 0, .int .i64 0, .string ⟨[].toArray⟩] 25 (0, 0))] 2 20 rfl rfl (Own.start w) (
    aP (fun hk bs hd => xbox rfl (bs.get 0 rfl rfl) (by kernel_rfl)) rfl <|
    aP (fun hk bs hd => xalloc rfl (by kernel_rfl)) rfl <|
    arm0) fun fa fw bs hv ap z q ov => ?_
  obtain ⟨gb1, s1, bgb1, hgb1⟩ := gotP hv 0 rfl rfl rfl; have ov := ov.cons hgb1 (Nat.le_trans (Own.start w).kept.size bgb1) ((Own.start w).below bgb1); obtain ⟨gb2, s2, bgb2, hgb2⟩ := gotP hv 1 rfl rfl rfl; have ov := ov.cons hgb2 (Nat.le_trans (Own.start w).kept.size bgb2) (ne_cons (apartP ap 0 1 rfl rfl rfl s1 rfl s2 rfl) ((Own.start w).below bgb2)); have ow := ov; refine wt hK1 ?_; refine sq fun hK2 => ?_
  refine ro [yV (.agg #[.slice (some ⟨b, off, none⟩) 1 cs, .slice B 0 cn]), yV (.tuple #[.int .i64 (min 1 ((s.length : Nat) : Int)), .bool true]), yV _, yV _, yV _, yV _, yV _] 7 20 z q ow (
    aS (fun hk bs hd => xloadN 2 rfl (by kernel_rfl) (by kernel_rfl) (bg bs s1) ((ow.keep hk).box 1 rfl) (Nat.le_of_ble_eq_true rfl) rfl) rfl <|
    aC (fun hk bs hd => xcall1 rfl (dp hd 0 rfl) (en_ftext_call__count _ _)) (fun hk bs hd => count14_none s b off cs B cn _ (hs.kept (ow.keep hk).kept) l_s) rfl <|
    mvD 1 rfl rfl rfl rfl rfl rfl <|
    aS (fun hk bs hd => xextract rfl (dp hd 2 rfl) rfl) rfl <|
    aS (fun hk bs hd => xextract rfl (dp hd 2 rfl) rfl) rfl <|
    asD 3 rfl rfl rfl rfl rfl rfl <|
    asD 4 rfl rfl rfl rfl rfl rfl <|
    arm0) fun fa fw bs hv ap z q ow => ?_
  obtain ⟨s1, s2⟩ := b2 bs s1 s2; have s3 := gv hv 5 rfl rfl; have s4 := gv hv 6 rfl rfl; refine wt hK2 ?_; refine sq fun hK3 => ?_; refine sq fun hK4 => ?_
  refine ro [yV _, yV _] 2 20 z q ow (
    mvS s4 rfl rfl rfl rfl <|
    aS (fun hk bs hd => xnot rfl (dp hd 0 rfl)) rfl <|
    arm0) fun fa fw bs hv ap z q ow => ?_
  obtain ⟨s1, s2, s3⟩ := b3 bs s1 s2 s3; have s11 := gv hv 1 rfl rfl; refine wt hK4 ?_; refine wp_cond_false (s11) ?_; refine wp_skip ?_; refine tn hK3 ?_; refine sq fun hK5 => ?_
  refine ro [yV (.pointer (some ⟨gb1, 0, none⟩)), yV _, yV _, yV _, yV _, yV _, yV (aggV (vText (s.take (min 1 s.length))))] 7 20 z q ow (
    aS (fun hk bs hd => xfieldAddr rfl (bg bs s1) (by kernel_rfl)) rfl <|
    aS (fun hk bs hd => xloadB rfl (by kernel_rfl) (dp hd 0 rfl) ((ow.keep hk).box 1 rfl) rfl) rfl <|
    aS (fun hk bs hd => xindexAddr (u := .slice (some ⟨b, off, none⟩) 1 cs) (z := .int .i64 ((0 : Nat) : Int)) rfl (dp hd 1 rfl) rfl (run_place1 Tryz.underlying88 (by kernel_rfl) (by omega))) rfl <|
    aS (fun hk bs hd => xloadC rfl (by kernel_rfl) (dp hd 2 rfl) ((hs.kept (ow.keep hk).kept).at_ (k := 0) rfl)) rfl <|
    mvS s3 rfl rfl rfl rfl <|
    aS (fun hk bs hd => xslice (u := .string ⟨s.toArray⟩) (l := none) (h := some (.int .i64 ((min 1 s.length) : Nat))) (m := none) rfl (dp hd 3 rfl) rfl (congrArg some ((dp hd 4 rfl).trans (congrArg (Value.int .i64) (show min 1 ((s.length : Nat) : Int) = ((min 1 s.length : Nat) : Int) by omega)))) rfl (run_sliceTo Tryz.underlying9 s (min 1 s.length) (by omega))) rfl <|
    aC (fun hk bs hd => xcall1 rfl (dp hd 5 rfl) (en_ftext_text _ _)) (fun hk bs hd => text14_any (s.take (min 1 s.length)) _ (by rw [List.length_take]; omega)) rfl <|
    arm0) fun fa fw bs hv ap z q ow => ?_
  have s2 := bg bs s2; have s19 := gv hv 6 rfl rfl; refine ws ow 0 0 s2 s19 fun fw ow => ?_; refine wt hK5 ?_; refine wp_ret ?_; refine rs3 s2 (ow.box 0 rfl) q ?_; exact ⟨congrArg (fun v => Ending.returned (aggV v)) (left_one s), ow.kept⟩
set_option maxHeartbeats 2000000 in
theorem left14_some (s : List UInt8) (m : Int) (b off cs : Nat) (nb no cn : Nat) (w : World) (hs : RowC w (some ⟨b, off, none⟩) [.string ⟨s.toArray⟩]) (hn : RowC w (some ⟨nb, no, none⟩) [.int .i64 m]) (l_s : s.length ≤ 300) (r_m : -922337203685478 ≤ m ∧ m ≤ 922337203685478) :
    Calls Tryz.prog 133 #[.agg #[.slice (some ⟨b, off, none⟩) 1 cs, .slice (some ⟨nb, no, none⟩) 1 cn]] w fun e w' => e = .returned (aggV (left14 s m)) ∧ Kept w w' := by
  go_enter Tryz.func133, Tryz.ntmps133; refine sq fun hK1 => ?_
  refine ro [yNew w.heap.size (.cells #[.slice (some ⟨b, off, none⟩) 1 cs, .slice (some ⟨nb, no, none⟩) 1 cn] 90 (0, 0)), yNew w.heap.size (.cells #[.int .u8 0, .int .i64 0, .string ⟨[].toArray⟩] 25 (0, 0))] 2 20 rfl rfl (Own.start w) (
    aP (fun hk bs hd => xbox rfl (bs.get 0 rfl rfl) (by kernel_rfl)) rfl <|
    aP (fun hk bs hd => xalloc rfl (by kernel_rfl)) rfl <|
    arm0) fun fa fw bs hv ap z q ov => ?_
  obtain ⟨gb1, s1, bgb1, hgb1⟩ := gotP hv 0 rfl rfl rfl; have ov := ov.cons hgb1 (Nat.le_trans (Own.start w).kept.size bgb1) ((Own.start w).below bgb1); obtain ⟨gb2, s2, bgb2, hgb2⟩ := gotP hv 1 rfl rfl rfl; have ov := ov.cons hgb2 (Nat.le_trans (Own.start w).kept.size bgb2) (ne_cons (apartP ap 0 1 rfl rfl rfl s1 rfl s2 rfl) ((Own.start w).below bgb2)); have ow := ov; refine wt hK1 ?_; refine sq fun hK2 => ?_
  refine ro [yV (.agg #[.slice (some ⟨b, off, none⟩) 1 cs, .slice (some ⟨nb, no, none⟩) 1 cn]), yV (.tuple #[.int .i64 (min m ((s.length : Nat) : Int)), .bool (decide ((0 : Int) ≤ (m : Int)))]), yV _, yV _, yV _, yV _, yV _] 7 20 z q ow (
    aS (fun hk bs hd => xloadN 2 rfl (by kernel_rfl) (by kernel_rfl) (bg bs s1) ((ow.keep hk).box 1 rfl) (Nat.le_of_ble_eq_true rfl) rfl) rfl <|
    aC (fun hk bs hd => xcall1 rfl (dp hd 0 rfl) (en_ftext_call__count _ _)) (fun hk bs hd => count14_some s m b off cs nb no cn _ (hs.kept (ow.keep hk).kept) (hn.kept (ow.keep hk).kept) l_s r_m) rfl <|
    mvD 1 rfl rfl rfl rfl rfl rfl <|
    aS (fun hk bs hd => xextract rfl (dp hd 2 rfl) rfl) rfl <|
    aS (fun hk bs hd => xextract rfl (dp hd 2 rfl) rfl) rfl <|
    asD 3 rfl rfl rfl rfl rfl rfl <|
    asD 4 rfl rfl rfl rfl rfl rfl <|
    arm0) fun fa fw bs hv ap z q ow => ?_
  obtain ⟨s1, s2⟩ := b2 bs s1 s2; have s3 := gv hv 5 rfl rfl; have s4 := gv hv 6 rfl rfl; refine wt hK2 ?_; refine sq fun hK3 => ?_; refine sq fun hK4 => ?_
  refine ro [yV _, yV _] 2 20 z q ow (
    mvS s4 rfl rfl rfl rfl <|
    aS (fun hk bs hd => xnot rfl (dp hd 0 rfl)) rfl <|
    arm0) fun fa fw bs hv ap z q ow => ?_
  obtain ⟨s1, s2, s3⟩ := b3 bs s1 s2 s3; have s11 := gv hv 1 rfl rfl; refine wt hK4 ?_
  by_cases hc1 : ¬ ((0 : Int) ≤ (m : Int))
  · refine ct s11 ((bnot (decide_eq_true_iff)).2 hc1) ?_
    refine sq fun hK5 => ?_
    refine ro [yV (aggV (vFail 2))] 1 20 z q ow (
      aC (fun hk bs hd => xcall1 rfl rfl (en_val_Fail _ _)) (fun hk bs hd => vfail_any 2 _) rfl <|
      arm0) fun fa fw bs hv ap z q ow => ?_
    obtain ⟨s1, s2, s3⟩ := b3 bs s1 s2 s3; have s12 := gv hv 0 rfl rfl; refine ws ow 0 0 s2 s12 fun fw ow => ?_; refine wt hK5 ?_; refine wp_ret ?_; refine then_r ?_; refine rs3 s2 (ow.box 0 rfl) q ?_; exact ⟨congrArg (fun v => Ending.returned (aggV v)) (left_neg s m (by omega)), ow.kept⟩
  refine cf s11 (bnot (decide_eq_true_iff)) hc1 ?_; refine wp_skip ?_; refine tn hK3 ?_; refine sq fun hK6 => ?_
  refine ro [yV (.pointer (some ⟨gb1, 0, none⟩)), yV _, yV _, yV _, yV _, yV _, yV (aggV (vText (s.take (min m.toNat s.length))))] 7 20 z q ow (
    aS (fun hk bs hd => xfieldAddr rfl (bg bs s1) (by kernel_rfl)) rfl <|
    aS (fun hk bs hd => xloadB rfl (by kernel_rfl) (dp hd 0 rfl) ((ow.keep hk).box 1 rfl) rfl) rfl <|
    aS (fun hk bs hd => xindexAddr (u := .slice (some ⟨b, off, none⟩) 1 cs) (z := .int .i64 ((0 : Nat) : Int)) rfl (dp hd 1 rfl) rfl (run_place1 Tryz.underlying88 (by kernel_rfl) (by omega))) rfl <|
    aS (fun hk bs hd => xloadC rfl (by kernel_rfl) (dp hd 2 rfl) ((hs.kept (ow.keep hk).kept).at_ (k := 0) rfl)) rfl <|
    mvS s3 rfl rfl rfl rfl <|
    aS (fun hk bs hd => xslice (u := .string ⟨s.toArray⟩) (l := none) (h := some (.int .i64 ((min m.toNat s.length) : Nat))) (m := none) rfl (dp hd 3 rfl) rfl (congrArg some ((dp hd 4 rfl).trans (congrArg (Value.int .i64) (show min m ((s.length : Nat) : Int) = ((min m.toNat s.length : Nat) : Int) by omega)))) rfl (run_sliceTo Tryz.underlying9 s (min m.toNat s.length) (by omega))) rfl <|
    aC (fun hk bs hd => xcall1 rfl (dp hd 5 rfl) (en_ftext_text _ _)) (fun hk bs hd => text14_any (s.take (min m.toNat s.length)) _ (by rw [List.length_take]; omega)) rfl <|
    arm0) fun fa fw bs hv ap z q ow => ?_
  have s2 := bg bs s2; have s19 := gv hv 6 rfl rfl; refine ws ow 0 0 s2 s19 fun fw ow => ?_; refine wt hK6 ?_; refine wp_ret ?_; refine rs3 s2 (ow.box 0 rfl) q ?_; exact ⟨congrArg (fun v => Ending.returned (aggV v)) (left_take s m (by omega)), ow.kept⟩
set_option maxHeartbeats 2000000 in
theorem right14_none (s : List UInt8) (b off cs : Nat) (B : Option Addr) (cn : Nat) (w : World) (hs : RowC w (some ⟨b, off, none⟩) [.string ⟨s.toArray⟩]) (l_s : s.length ≤ 300) :
    Calls Tryz.prog 134 #[.agg #[.slice (some ⟨b, off, none⟩) 1 cs, .slice B 0 cn]] w fun e w' => e = .returned (aggV (right14 s 1)) ∧ Kept w w' := by
  go_enter Tryz.func134, Tryz.ntmps134; refine sq fun hK1 => ?_
  refine ro [yNew w.heap.size (.cells #[.slice (some ⟨b, off, none⟩) 1 cs, .slice B 0 cn] 90 (0, 0)), yNew w.heap.size (.cells #[.int .u8 0, .int .i64 0, .string ⟨[].toArray⟩] 25 (0, 0))] 2 26 rfl rfl (Own.start w) (
    aP (fun hk bs hd => xbox rfl (bs.get 0 rfl rfl) (by kernel_rfl)) rfl <|
    aP (fun hk bs hd => xalloc rfl (by kernel_rfl)) rfl <|
    arm0) fun fa fw bs hv ap z q ov => ?_
  obtain ⟨gb1, s1, bgb1, hgb1⟩ := gotP hv 0 rfl rfl rfl; have ov := ov.cons hgb1 (Nat.le_trans (Own.start w).kept.size bgb1) ((Own.start w).below bgb1); obtain ⟨gb2, s2, bgb2, hgb2⟩ := gotP hv 1 rfl rfl rfl; have ov := ov.cons hgb2 (Nat.le_trans (Own.start w).kept.size bgb2) (ne_cons (apartP ap 0 1 rfl rfl rfl s1 rfl s2 rfl) ((Own.start w).below bgb2)); have ow := ov; refine wt hK1 ?_; refine sq fun hK2 => ?_
  refine ro [yV (.agg #[.slice (some ⟨b, off, none⟩) 1 cs, .slice B 0 cn]), yV (.tuple #[.int .i64 (min 1 ((s.length : Nat) : Int)), .bool true]), yV _, yV _, yV _, yV _, yV _] 7 26 z q ow (
    aS (fun hk bs hd => xloadN 2 rfl (by kernel_rfl) (by kernel_rfl) (bg bs s1) ((ow.keep hk).box 1 rfl) (Nat.le_of_ble_eq_true rfl) rfl) rfl <|
    aC (fun hk bs hd => xcall1 rfl (dp hd 0 rfl) (en_ftext_call__count _ _)) (fun hk bs hd => count14_none s b off cs B cn _ (hs.kept (ow.keep hk).kept) l_s) rfl <|
    mvD 1 rfl rfl rfl rfl rfl rfl <|
    aS (fun hk bs hd => xextract rfl (dp hd 2 rfl) rfl) rfl <|
    aS (fun hk bs hd => xextract rfl (dp hd 2 rfl) rfl) rfl <|
    asD 3 rfl rfl rfl rfl rfl rfl <|
    asD 4 rfl rfl rfl rfl rfl rfl <|
    arm0) fun fa fw bs hv ap z q ow => ?_
  obtain ⟨s1, s2⟩ := b2 bs s1 s2; have s3 := gv hv 5 rfl rfl; have s4 := gv hv 6 rfl rfl; refine wt hK2 ?_; refine sq fun hK3 => ?_; refine sq fun hK4 => ?_
  refine ro [yV _, yV _] 2 26 z q ow (
    mvS s4 rfl rfl rfl rfl <|
    aS (fun hk bs hd => xnot rfl (dp hd 0 rfl)) rfl <|
    arm0) fun fa fw bs hv ap z q ow => ?_
  obtain ⟨s1, s2, s3⟩ := b3 bs s1 s2 s3; have s11 := gv hv 1 rfl rfl; refine wt hK4 ?_; refine wp_cond_false (s11) ?_; refine wp_skip ?_; refine tn hK3 ?_; refine sq fun hK5 => ?_
  refine ro [yV (.pointer (some ⟨gb1, 0, none⟩)), yV _, yV _, yV _, yV (.pointer (some ⟨gb1, 0, none⟩)), yV _, yV _, yV _, yV _, yV _, yV _, yV _, yV (aggV (vText (s.drop (s.length - min 1 s.length))))] 13 26 z q ow (
    aS (fun hk bs hd => xfieldAddr rfl (bg bs s1) (by kernel_rfl)) rfl <|
    aS (fun hk bs hd => xloadB rfl (by kernel_rfl) (dp hd 0 rfl) ((ow.keep hk).box 1 rfl) rfl) rfl <|
    aS (fun hk bs hd => xindexAddr (u := .slice (some ⟨b, off, none⟩) 1 cs) (z := .int .i64 ((0 : Nat) : Int)) rfl (dp hd 1 rfl) rfl (run_place1 Tryz.underlying88 (by kernel_rfl) (by omega))) rfl <|
    aS (fun hk bs hd => xloadC rfl (by kernel_rfl) (dp hd 2 rfl) ((hs.kept (ow.keep hk).kept).at_ (k := 0) rfl)) rfl <|
    aS (fun hk bs hd => xfieldAddr rfl (bg bs s1) (by kernel_rfl)) rfl <|
    aS (fun hk bs hd => xloadB rfl (by kernel_rfl) (dp hd 4 rfl) ((ow.keep hk).box 1 rfl) rfl) rfl <|
    aS (fun hk bs hd => xindexAddr (u := .slice (some ⟨b, off, none⟩) 1 cs) (z := .int .i64 ((0 : Nat) : Int)) rfl (dp hd 5 rfl) rfl (run_place1 Tryz.underlying88 (by kernel_rfl) (by omega))) rfl <|
    aS (fun hk bs hd => xloadC rfl (by kernel_rfl) (dp hd 6 rfl) ((hs.kept (ow.keep hk).kept).at_ (k := 0) rfl)) rfl <|
    aS (fun hk bs hd => xlenS Tryz.underlying9 rfl (dp hd 7 rfl)) rfl <|
    mvS s3 rfl rfl rfl rfl <|
    aS (fun hk bs hd => xsub (Or.inl rfl) rfl (dp hd 8 rfl) (dp hd 9 rfl) (by omega) (by omega)) rfl <|
    aS (fun hk bs hd => xslice (u := .string ⟨s.toArray⟩) (l := some (.int .i64 ((s.length - min 1 s.length) : Nat))) (h := none) (m := none) rfl (dp hd 3 rfl) (congrArg some ((dp hd 10 rfl).trans (congrArg (Value.int .i64) (show ((s.length : Nat) : Int) - (min 1 ((s.length : Nat) : Int)) = ((s.length - min 1 s.length : Nat) : Int) by omega)))) rfl rfl (run_sliceFrom Tryz.underlying9 s (s.length - min 1 s.length) (by omega))) rfl <|
    aC (fun hk bs hd => xcall1 rfl (dp hd 11 rfl) (en_ftext_text _ _)) (fun hk bs hd => text14_any (s.drop (s.length - min 1 s.length)) _ (by rw [List.length_drop]; omega)) rfl <|
    arm0) fun fa fw bs hv ap z q ow => ?_
  have s2 := bg bs s2; have s25 := gv hv 12 rfl rfl; refine ws ow 0 0 s2 s25 fun fw ow => ?_; refine wt hK5 ?_; refine wp_ret ?_; refine rs3 s2 (ow.box 0 rfl) q ?_; exact ⟨congrArg (fun v => Ending.returned (aggV v)) (right_one s), ow.kept⟩
set_option maxHeartbeats 2000000 in
theorem right14_some (s : List UInt8) (m : Int) (b off cs : Nat) (nb no cn : Nat) (w : World) (hs : RowC w (some ⟨b, off, none⟩) [.string ⟨s.toArray⟩]) (hn : RowC w (some ⟨nb, no, none⟩) [.int .i64 m]) (l_s : s.length ≤ 300) (r_m : -922337203685478 ≤ m ∧ m ≤ 922337203685478) :
    Calls Tryz.prog 134 #[.agg #[.slice (some ⟨b, off, none⟩) 1 cs, .slice (some ⟨nb, no, none⟩) 1 cn]] w fun e w' => e = .returned (aggV (right14 s m)) ∧ Kept w w' := by
  go_enter Tryz.func134, Tryz.ntmps134; refine sq fun hK1 => ?_
  refine ro [yNew w.heap.size (.cells #[.slice (some ⟨b, off, none⟩) 1 cs, .slice (some ⟨nb, no, none⟩) 1 cn] 90 (0, 0)), yNew w.heap.size (.cells #[.int .u8 0, .int .i64 0, .string ⟨[].toArray⟩] 25 (0, 0))] 2 26 rfl rfl (Own.start w) (
    aP (fun hk bs hd => xbox rfl (bs.get 0 rfl rfl) (by kernel_rfl)) rfl <|
    aP (fun hk bs hd => xalloc rfl (by kernel_rfl)) rfl <|
    arm0) fun fa fw bs hv ap z q ov => ?_
  obtain ⟨gb1, s1, bgb1, hgb1⟩ := gotP hv 0 rfl rfl rfl; have ov := ov.cons hgb1 (Nat.le_trans (Own.start w).kept.size bgb1) ((Own.start w).below bgb1); obtain ⟨gb2, s2, bgb2, hgb2⟩ := gotP hv 1 rfl rfl rfl; have ov := ov.cons hgb2 (Nat.le_trans (Own.start w).kept.size bgb2) (ne_cons (apartP ap 0 1 rfl rfl rfl s1 rfl s2 rfl) ((Own.start w).below bgb2)); have ow := ov; refine wt hK1 ?_; refine sq fun hK2 => ?_
  refine ro [yV (.agg #[.slice (some ⟨b, off, none⟩) 1 cs, .slice (some ⟨nb, no, none⟩) 1 cn]), yV (.tuple #[.int .i64 (min m ((s.length : Nat) : Int)), .bool (decide ((0 : Int) ≤ (m : Int)))]), yV _, yV _, yV _, yV _, yV _] 7 26 z q ow (
    aS (fun hk bs hd => xloadN 2 rfl (by kernel_rfl) (by kernel_rfl) (bg bs s1) ((ow.keep hk).box 1 rfl) (Nat.le_of_ble_eq_true rfl) rfl) rfl <|
    aC (fun hk bs hd => xcall1 rfl (dp hd 0 rfl) (en_ftext_call__count _ _)) (fun hk bs hd => count14_some s m b off cs nb no cn _ (hs.kept (ow.keep hk).kept) (hn.kept (ow.keep hk).kept) l_s r_m) rfl <|
    mvD 1 rfl rfl rfl rfl rfl rfl <|
    aS (fun hk bs hd => xextract rfl (dp hd 2 rfl) rfl) rfl <|
    aS (fun hk bs hd => xextract rfl (dp hd 2 rfl) rfl) rfl <|
    asD 3 rfl rfl rfl rfl rfl rfl <|
    asD 4 rfl rfl rfl rfl rfl rfl <|
    arm0) fun fa fw bs hv ap z q ow => ?_
  obtain ⟨s1, s2⟩ := b2 bs s1 s2; have s3 := gv hv 5 rfl rfl; have s4 := gv hv 6 rfl rfl; refine wt hK2 ?_; refine sq fun hK3 => ?_; refine sq fun hK4 => ?_
  refine ro [yV _, yV _] 2 26 z q ow (
    mvS s4 rfl rfl rfl rfl <|
    aS (fun hk bs hd => xnot rfl (dp hd 0 rfl)) rfl <|
    arm0) fun fa fw bs hv ap z q ow => ?_
  obtain ⟨s1, s2, s3⟩ := b3 bs s1 s2 s3; have s11 := gv hv 1 rfl rfl; refine wt hK4 ?_
  by_cases hc1 : ¬ ((0 : Int) ≤ (m : Int))
  · refine ct s11 ((bnot (decide_eq_true_iff)).2 hc1) ?_
    refine sq fun hK5 => ?_
    refine ro [yV (aggV (vFail 2))] 1 26 z q ow (
      aC (fun hk bs hd => xcall1 rfl rfl (en_val_Fail _ _)) (fun hk bs hd => vfail_any 2 _) rfl <|
      arm0) fun fa fw bs hv ap z q ow => ?_
    obtain ⟨s1, s2, s3⟩ := b3 bs s1 s2 s3; have s12 := gv hv 0 rfl rfl; refine ws ow 0 0 s2 s12 fun fw ow => ?_; refine wt hK5 ?_; refine wp_ret ?_; refine then_r ?_; refine rs3 s2 (ow.box 0 rfl) q ?_; exact ⟨congrArg (fun v => Ending.returned (aggV v)) (right_neg s m (by omega)), ow.kept⟩
  refine cf s11 (bnot (decide_eq_true_iff)) hc1 ?_; refine wp_skip ?_; refine tn hK3 ?_; refine sq fun hK6 => ?_
  refine ro [yV (.pointer (some ⟨gb1, 0, none⟩)), yV _, yV _, yV _, yV (.pointer (some ⟨gb1, 0, none⟩)), yV _, yV _, yV _, yV _, yV _, yV _, yV _, yV (aggV (vText (s.drop (s.length - min m.toNat s.length))))] 13 26 z q ow (
    aS (fun hk bs hd => xfieldAddr rfl (bg bs s1) (by kernel_rfl)) rfl <|
    aS (fun hk bs hd => xloadB rfl (by kernel_rfl) (dp hd 0 rfl) ((ow.keep hk).box 1 rfl) rfl) rfl <|
    aS (fun hk bs hd => xindexAddr (u := .slice (some ⟨b, off, none⟩) 1 cs) (z := .int .i64 ((0 : Nat) : Int)) rfl (dp hd 1 rfl) rfl (run_place1 Tryz.underlying88 (by kernel_rfl) (by omega))) rfl <|
    aS (fun hk bs hd => xloadC rfl (by kernel_rfl) (dp hd 2 rfl) ((hs.kept (ow.keep hk).kept).at_ (k := 0) rfl)) rfl <|
    aS (fun hk bs hd => xfieldAddr rfl (bg bs s1) (by kernel_rfl)) rfl <|
    aS (fun hk bs hd => xloadB rfl (by kernel_rfl) (dp hd 4 rfl) ((ow.keep hk).box 1 rfl) rfl) rfl <|
    aS (fun hk bs hd => xindexAddr (u := .slice (some ⟨b, off, none⟩) 1 cs) (z := .int .i64 ((0 : Nat) : Int)) rfl (dp hd 5 rfl) rfl (run_place1 Tryz.underlying88 (by kernel_rfl) (by omega))) rfl <|
    aS (fun hk bs hd => xloadC rfl (by kernel_rfl) (dp hd 6 rfl) ((hs.kept (ow.keep hk).kept).at_ (k := 0) rfl)) rfl <|
    aS (fun hk bs hd => xlenS Tryz.underlying9 rfl (dp hd 7 rfl)) rfl <|
    mvS s3 rfl rfl rfl rfl <|
    aS (fun hk bs hd => xsub (Or.inl rfl) rfl (dp hd 8 rfl) (dp hd 9 rfl) (by omega) (by omega)) rfl <|
    aS (fun hk bs hd => xslice (u := .string ⟨s.toArray⟩) (l := some (.int .i64 ((s.length - min m.toNat s.length) : Nat))) (h := none) (m := none) rfl (dp hd 3 rfl) (congrArg some ((dp hd 10 rfl).trans (congrArg (Value.int .i64) (show ((s.length : Nat) : Int) - (min m ((s.length : Nat) : Int)) = ((s.length - min m.toNat s.length : Nat) : Int) by omega)))) rfl rfl (run_sliceFrom Tryz.underlying9 s (s.length - min m.toNat s.length) (by omega))) rfl <|
    aC (fun hk bs hd => xcall1 rfl (dp hd 11 rfl) (en_ftext_text _ _)) (fun hk bs hd => text14_any (s.drop (s.length - min m.toNat s.length)) _ (by rw [List.length_drop]; omega)) rfl <|
    arm0) fun fa fw bs hv ap z q ow => ?_
  have s2 := bg bs s2; have s25 := gv hv 12 rfl rfl; refine ws ow 0 0 s2 s25 fun fw ow => ?_; refine wt hK6 ?_; refine wp_ret ?_; refine rs3 s2 (ow.box 0 rfl) q ?_; exact ⟨congrArg (fun v => Ending.returned (aggV v)) (right_drop s m (by omega)), ow.kept⟩
set_option maxHeartbeats 2000000 in
theorem mid14_any (s : List UInt8) (m k : Int) (b off cs : Nat) (nb no cn : Nat) (w : World) (hs : RowC w (some ⟨b, off, none⟩) [.string ⟨s.toArray⟩]) (hn : RowC w (some ⟨nb, no, none⟩) [.int .i64 m, .int .i64 k]) (l_s : s.length ≤ 300) (r_m : -922337203685478 ≤ m ∧ m ≤ 922337203685478) (r_k : -922337203685478 ≤ k ∧ k ≤ 922337203685478) :
    Calls Tryz.prog 135 #[.agg #[.slice (some ⟨b, off, none⟩) 1 cs, .slice (some ⟨nb, no, none⟩) 2 cn]] w fun e w' => e = .returned (aggV (mid14 s m k)) ∧ Kept w w' := by
  go_enter Tryz.func135, Tryz.ntmps135; refine sq fun hK1 => ?_
  refine ro [yNew w.heap.size (.cells #[.slice (some ⟨b, off, none⟩) 1 cs, .slice (some ⟨nb, no, none⟩) 2 cn] 90 (0, 0)), yNew w.heap.size (.cells #[.int .u8 0, .int .i64 0, .string ⟨[].toArray⟩] 25 (0, 0))] 2 45 rfl rfl (Own.start w) (
    aP (fun hk bs hd => xbox rfl (bs.get 0 rfl rfl) (by kernel_rfl)) rfl <|
    aP (fun hk bs hd => xalloc rfl (by kernel_rfl)) rfl <|
    arm0) fun fa fw bs hv ap z q ov => ?_
  obtain ⟨gb1, s1, bgb1, hgb1⟩ := gotP hv 0 rfl rfl rfl; have ov := ov.cons hgb1 (Nat.le_trans (Own.start w).kept.size bgb1) ((Own.start w).below bgb1); obtain ⟨gb2, s2, bgb2, hgb2⟩ := gotP hv 1 rfl rfl rfl; have ov := ov.cons hgb2 (Nat.le_trans (Own.start w).kept.size bgb2) (ne_cons (apartP ap 0 1 rfl rfl rfl s1 rfl s2 rfl) ((Own.start w).below bgb2)); have ow := ov; refine wt hK1 ?_; refine sq fun hK2 => ?_
  refine ro [yV (.pointer (some ⟨gb1, 1, none⟩)), yV _, yV _, yV _, yV (.pointer (some ⟨gb1, 1, none⟩)), yV _, yV _, yV _, yV (.pointer (some ⟨gb1, 0, none⟩)), yV _, yV _, yV _, yV _, yV _, yV _, yV _] 16 45 z q ow (
    aS (fun hk bs hd => xfieldAddr rfl (bg bs s1) (by kernel_rfl)) rfl <|
    aS (fun hk bs hd => xloadB rfl (by kernel_rfl) (dp hd 0 rfl) ((ow.keep hk).box 1 rfl) rfl) rfl <|
    aS (fun hk bs hd => xindexAddr (u := .slice (some ⟨nb, no, none⟩) 2 cn) (z := .int .i64 ((0 : Nat) : Int)) rfl (dp hd 1 rfl) rfl (run_place1 Tryz.underlying72 (by kernel_rfl) (by omega))) rfl <|
    aS (fun hk bs hd => xloadC rfl (by kernel_rfl) (dp hd 2 rfl) ((hn.kept (ow.keep hk).kept).at_ (k := 0) rfl)) rfl <|
    aS (fun hk bs hd => xfieldAddr rfl (bg bs s1) (by kernel_rfl)) rfl <|
    aS (fun hk bs hd => xloadB rfl (by kernel_rfl) (dp hd 4 rfl) ((ow.keep hk).box 1 rfl) rfl) rfl <|
    aS (fun hk bs hd => xindexAddr (u := .slice (some ⟨nb, no, none⟩) 2 cn) (z := .int .i64 ((1 : Nat) : Int)) rfl (dp hd 5 rfl) rfl (run_place1 Tryz.underlying72 (by kernel_rfl) (by omega))) rfl <|
    aS (fun hk bs hd => xloadC rfl (by kernel_rfl) (dp hd 6 rfl) ((hn.kept (ow.keep hk).kept).at_ (k := 1) rfl)) rfl <|
    aS (fun hk bs hd => xfieldAddr rfl (bg bs s1) (by kernel_rfl)) rfl <|
    aS (fun hk bs hd => xloadB rfl (by kernel_rfl) (dp hd 8 rfl) ((ow.keep hk).box 1 rfl) rfl) rfl <|
    aS (fun hk bs hd => xindexAddr (u := .slice (some ⟨b, off, none⟩) 1 cs) (z := .int .i64 ((0 : Nat) : Int)) rfl (dp hd 9 rfl) rfl (run_place1 Tryz.underlying88 (by kernel_rfl) (by omega))) rfl <|
    aS (fun hk bs hd => xloadC rfl (by kernel_rfl) (dp hd 10 rfl) ((hs.kept (ow.keep hk).kept).at_ (k := 0) rfl)) rfl <|
    aS (fun hk bs hd => xlenS Tryz.underlying9 rfl (dp hd 11 rfl)) rfl <|
    asD 3 rfl rfl rfl rfl rfl rfl <|
    asD 7 rfl rfl rfl rfl rfl rfl <|
    asD 12 rfl rfl rfl rfl rfl rfl <|
    arm0) fun fa fw bs hv ap z q ow => ?_
  obtain ⟨s1, s2⟩ := b2 bs s1 s2; have s3 := gv hv 13 rfl rfl; have s4 := gv hv 14 rfl rfl; have s5 := gv hv 15 rfl rfl; refine wt hK2 ?_; refine sq fun hK3 => ?_; refine sq fun hK4 => ?_
  refine ro [yV _, yV _, yV _, yIf (((decide ((m : Int) < (1 : Int))) = false)) (yV (.int .i64 k)), yIf (((decide ((m : Int) < (1 : Int))) = false)) (yV (.bool (decide ((k : Int) < (0 : Int))))), yV _] 6 45 z q ow (
    mvS s3 rfl rfl rfl rfl <|
    aS (fun hk bs hd => xlss rfl (dp hd 0 rfl) rfl) rfl <|
    mvD 1 rfl rfl rfl rfl rfl rfl <|
    arm (fun aa ww hk bs hd => by
      have d2 := dp hd 2 rfl
      by_cases hz : ((decide ((m : Int) < (1 : Int))) = false)
      · exact stepX_same (v := .int .i64 k) (want1 (j := 2) (b := false) rfl (d2.trans (congrArg Value.bool hz))) (xmove rfl (bg bs s4)) ⟨fun _ => rfl, fun c => absurd hz c⟩ rfl
      · exact stepX_skip (wantN (j := 2) (b := false) (b' := true) rfl (d2.trans (congrArg Value.bool (by simpa using hz))) rfl) ⟨fun c => absurd c hz, fun _ => rfl⟩ rfl
      ) <|
    arm (fun aa ww hk bs hd => by
      have d2 := dp hd 2 rfl; have d3 := dI hd 3 rfl
      by_cases hz : ((decide ((m : Int) < (1 : Int))) = false)
      · exact stepX_same (v := .bool (decide ((k : Int) < (0 : Int)))) (want1 (j := 2) (b := false) rfl (d2.trans (congrArg Value.bool hz))) (xlss rfl (d3.1 hz) rfl) ⟨fun _ => rfl, fun c => absurd hz c⟩ rfl
      · exact stepX_skip (wantN (j := 2) (b := false) (b' := true) rfl (d2.trans (congrArg Value.bool (by simpa using hz))) rfl) ⟨fun c => absurd c hz, fun _ => rfl⟩ rfl
      ) <|
    arm (fun aa ww hk bs hd => by
      have d2 := dp hd 2 rfl; have d4 := dI hd 4 rfl; exact stepX_same (v := .bool ((decide ((m : Int) < (1 : Int))) || (decide ((k : Int) < (0 : Int))))) (want0 rfl) (xor_ rfl (d2) rfl (fun hb => d4.1 hb)) rfl rfl
      ) <|
    arm0) fun fa fw bs hv ap z q ow => ?_
  obtain ⟨s1, s2, s3, s4, s5⟩ := b5 bs s1 s2 s3 s4 s5; have s25 := gv hv 5 rfl rfl; refine wt hK4 ?_
  by_cases hc1 : ((m : Int) < (1 : Int)) ∨ ((k : Int) < (0 : Int))
  · refine ct s25 ((bor (decide_eq_true_iff) (decide_eq_true_iff)).2 hc1) ?_
    refine sq fun hK5 => ?_
    refine ro [yV (aggV (vFail 2))] 1 45 z q ow (
      aC (fun hk bs hd => xcall1 rfl rfl (en_val_Fail _ _)) (fun hk bs hd => vfail_any 2 _) rfl <|
      arm0) fun fa fw bs hv ap z q ow => ?_
    obtain ⟨s1, s2, s3, s4, s5⟩ := b5 bs s1 s2 s3 s4 s5; have s26 := gv hv 0 rfl rfl; refine ws ow 0 0 s2 s26 fun fw ow => ?_; refine wt hK5 ?_; refine wp_ret ?_; refine then_r ?_; refine rs3 s2 (ow.box 0 rfl) q ?_; exact ⟨congrArg (fun v => Ending.returned (aggV v)) (mid_no s m k (by omega)), ow.kept⟩
  refine cf s25 (bor (decide_eq_true_iff) (decide_eq_true_iff)) hc1 ?_; refine wp_skip ?_; refine tn hK3 ?_; refine sq fun hK6 => ?_
  refine ro [yV _, yV _, yV _, yV _, yV _] 5 45 z q ow (
    mvS s3 rfl rfl rfl rfl <|
    aS (fun hk bs hd => xsub (Or.inr rfl) rfl (dp hd 0 rfl) rfl (by omega) (by omega)) rfl <|
    mvS s5 rfl rfl rfl rfl <|
    aS (fun hk bs hd => xminI rfl (Or.inr rfl) (dp hd 1 rfl) (dp hd 2 rfl)) rfl <|
    asD 3 rfl rfl rfl rfl rfl rfl <|
    arm0) fun fa fw bs hv ap z q ow => ?_
  obtain ⟨s1, s2, s4, s5⟩ := b4 bs s1 s2 s4 s5; have s6 := gv hv 4 rfl rfl; refine wt hK6 ?_; refine sq fun hK7 => ?_
  refine ro [yV (.pointer (some ⟨gb1, 0, none⟩)), yV _, yV _, yV _, yV _, yV _, yV _, yV _, yV _, yV _, yV _, yV _, yV _, yV (aggV (vText ((s.take (min (m - 1).toNat s.length + min k.toNat (s.length - min (m - 1).toNat s.length))).drop (min (m - 1).toNat s.length))))] 14 45 z q ow (
    aS (fun hk bs hd => xfieldAddr rfl (bg bs s1) (by kernel_rfl)) rfl <|
    aS (fun hk bs hd => xloadB rfl (by kernel_rfl) (dp hd 0 rfl) ((ow.keep hk).box 1 rfl) rfl) rfl <|
    aS (fun hk bs hd => xindexAddr (u := .slice (some ⟨b, off, none⟩) 1 cs) (z := .int .i64 ((0 : Nat) : Int)) rfl (dp hd 1 rfl) rfl (run_place1 Tryz.underlying88 (by kernel_rfl) (by omega))) rfl <|
    aS (fun hk bs hd => xloadC rfl (by kernel_rfl) (dp hd 2 rfl) ((hs.kept (ow.keep hk).kept).at_ (k := 0) rfl)) rfl <|
    mvS s6 rfl rfl rfl rfl <|
    mvS s6 rfl rfl rfl rfl <|
    mvS s4 rfl rfl rfl rfl <|
    mvS s5 rfl rfl rfl rfl <|
    mvS s6 rfl rfl rfl rfl <|
    aS (fun hk bs hd => xsub (Or.inr rfl) rfl (dp hd 7 rfl) (dp hd 8 rfl) (by omega) (by omega)) rfl <|
    aS (fun hk bs hd => xminI rfl (Or.inr rfl) (dp hd 6 rfl) (dp hd 9 rfl)) rfl <|
    aS (fun hk bs hd => xadd (Or.inr rfl) rfl (dp hd 5 rfl) (dp hd 10 rfl) (by omega) (by omega)) rfl <|
    aS (fun hk bs hd => xslice (u := .string ⟨s.toArray⟩) (l := some (.int .i64 ((min (m - 1).toNat s.length) : Nat))) (h := some (.int .i64 ((min (m - 1).toNat s.length + min k.toNat (s.length - min (m - 1).toNat s.length)) : Nat))) (m := none) rfl (dp hd 3 rfl) (congrArg some ((dp hd 4 rfl).trans (congrArg (Value.int .i64) (show min (m - 1) ((s.length : Nat) : Int) = ((min (m - 1).toNat s.length : Nat) : Int) by omega)))) (congrArg some ((dp hd 11 rfl).trans (congrArg (Value.int .i64) (show (min (m - 1) ((s.length : Nat) : Int)) + (min k (((s.length : Nat) : Int) - (min (m - 1) ((s.length : Nat) : Int)))) = ((min (m - 1).toNat s.length + min k.toNat (s.length - min (m - 1).toNat s.length) : Nat) : Int) by omega)))) rfl (run_sliceS Tryz.underlying9 s (min (m - 1).toNat s.length) (min (m - 1).toNat s.length + min k.toNat (s.length - min (m - 1).toNat s.length)) (by omega) (by omega))) rfl <|
    aC (fun hk bs hd => xcall1 rfl (dp hd 12 rfl) (en_ftext_text _ _)) (fun hk bs hd => text14_any ((s.take (min (m - 1).toNat s.length + min k.toNat (s.length - min (m - 1).toNat s.length))).drop (min (m - 1).toNat s.length)) _ (by rw [List.length_drop, List.length_take]; omega)) rfl <|
    arm0) fun fa fw bs hv ap z q ow => ?_
  have s2 := bg bs s2; have s44 := gv hv 13 rfl rfl; refine ws ow 0 0 s2 s44 fun fw ow => ?_; refine wt hK7 ?_; refine wp_ret ?_; refine rs3 s2 (ow.box 0 rfl) q ?_; exact ⟨congrArg (fun v => Ending.returned (aggV v)) (mid_yes s m k (by omega) (by omega)), ow.kept⟩
set_option maxHeartbeats 2000000 in
theorem rept14_any (s : List UInt8) (m : Int) (b off cs : Nat) (nb no cn : Nat) (w : World) (hs : RowC w (some ⟨b, off, none⟩) [.string ⟨s.toArray⟩]) (hn : RowC w (some ⟨nb, no, none⟩) [.int .i64 m]) (l_s : s.length ≤ 300) (r_m : -922337203685478 ≤ m ∧ m ≤ 922337203685478) :
    Calls Tryz.prog 140 #[.agg #[.slice (some ⟨b, off, none⟩) 1 cs, .slice (some ⟨nb, no, none⟩) 1 cn]] w fun e w' => e = .returned (aggV (rept14 s m)) ∧ Kept w w' := by
  go_enter Tryz.func140, Tryz.ntmps140; refine sq fun hK1 => ?_
  refine ro [yNew w.heap.size (.cells #[.slice (some ⟨b, off, none⟩) 1 cs, .slice (some ⟨nb, no, none⟩) 1 cn] 90 (0, 0)), yNew w.heap.size (.cells #[.int .u8 0, .int .i64 0, .string ⟨[].toArray⟩] 25 (0, 0))] 2 35 rfl rfl (Own.start w) (
    aP (fun hk bs hd => xbox rfl (bs.get 0 rfl rfl) (by kernel_rfl)) rfl <|
    aP (fun hk bs hd => xalloc rfl (by kernel_rfl)) rfl <|
    arm0) fun fa fw bs hv ap z q ov => ?_
  obtain ⟨gb1, s1, bgb1, hgb1⟩ := gotP hv 0 rfl rfl rfl; have ov := ov.cons hgb1 (Nat.le_trans (Own.start w).kept.size bgb1) ((Own.start w).below bgb1); obtain ⟨gb2, s2, bgb2, hgb2⟩ := gotP hv 1 rfl rfl rfl; have ov := ov.cons hgb2 (Nat.le_trans (Own.start w).kept.size bgb2) (ne_cons (apartP ap 0 1 rfl rfl rfl s1 rfl s2 rfl) ((Own.start w).below bgb2)); have ow := ov; refine wt hK1 ?_; refine sq fun hK2 => ?_
  refine ro [yV (.pointer (some ⟨gb1, 1, none⟩)), yV _, yV _, yV _, yV _] 5 35 z q ow (
    aS (fun hk bs hd => xfieldAddr rfl (bg bs s1) (by kernel_rfl)) rfl <|
    aS (fun hk bs hd => xloadB rfl (by kernel_rfl) (dp hd 0 rfl) ((ow.keep hk).box 1 rfl) rfl) rfl <|
    aS (fun hk bs hd => xindexAddr (u := .slice (some ⟨nb, no, none⟩) 1 cn) (z := .int .i64 ((0 : Nat) : Int)) rfl (dp hd 1 rfl) rfl (run_place1 Tryz.underlying72 (by kernel_rfl) (by omega))) rfl <|
    aS (fun hk bs hd => xloadC rfl (by kernel_rfl) (dp hd 2 rfl) ((hn.kept (ow.keep hk).kept).at_ (k := 0) rfl)) rfl <|
    asD 3 rfl rfl rfl rfl rfl rfl <|
    arm0) fun fa fw bs hv ap z q ow => ?_
  obtain ⟨s1, s2⟩ := b2 bs s1 s2; have s3 := gv hv 4 rfl rfl; refine wt hK2 ?_; refine sq fun hK3 => ?_; refine sq fun hK4 => ?_
  refine ro [yV _, yV _, yV _, yIf (((decide ((m : Int) < (0 : Int))) = false)) (yV (.int .i64 m)), yIf (((decide ((m : Int) < (0 : Int))) = false)) (yV (.bool (decide ((256 : Int) < (m : Int))))), yIf (((decide ((m : Int) < (0 : Int))) = false)) (yV (.bool (decide ((256 : Int) < (m : Int))))), yIf (((decide ((m : Int) < (0 : Int))) = false) ∧ ((decide ((256 : Int) < (m : Int))) = true)) (yV (.pointer (some ⟨gb1, 0, none⟩))), yIf (((decide ((m : Int) < (0 : Int))) = false) ∧ ((decide ((256 : Int) < (m : Int))) = true)) (yV (.slice (some ⟨b, off, none⟩) 1 cs)), yIf (((decide ((m : Int) < (0 : Int))) = false) ∧ ((decide ((256 : Int) < (m : Int))) = true)) (yV (.pointer (some ⟨b, off + 0, none⟩))), yIf (((decide ((m : Int) < (0 : Int))) = false) ∧ ((decide ((256 : Int) < (m : Int))) = true)) (yV (.string ⟨s.toArray⟩)), yIf (((decide ((m : Int) < (0 : Int))) = false) ∧ ((decide ((256 : Int) < (m : Int))) = true)) (yV (.bool (decide (s ≠ [])))), yIf (((decide ((m : Int) < (0 : Int))) = false)) (yV (.bool ((decide ((256 : Int) < (m : Int))) && (decide (s ≠ []))))), yV _] 13 35 z q ow (
    mvS s3 rfl rfl rfl rfl <|
    aS (fun hk bs hd => xlss rfl (dp hd 0 rfl) rfl) rfl <|
    mvD 1 rfl rfl rfl rfl rfl rfl <|
    arm (fun aa ww hk bs hd => by
      have d2 := dp hd 2 rfl
      by_cases hz : ((decide ((m : Int) < (0 : Int))) = false)
      · exact stepX_same (v := .int .i64 m) (want1 (j := 2) (b := false) rfl (d2.trans (congrArg Value.bool hz))) (xmove rfl (bg bs s3)) ⟨fun _ => rfl, fun c => absurd hz c⟩ rfl
      · exact stepX_skip (wantN (j := 2) (b := false) (b' := true) rfl (d2.trans (congrArg Value.bool (by simpa using hz))) rfl) ⟨fun c => absurd c hz, fun _ => rfl⟩ rfl
      ) <|
    arm (fun aa ww hk bs hd => by
      have d2 := dp hd 2 rfl; have d3 := dI hd 3 rfl
      by_cases hz : ((decide ((m : Int) < (0 : Int))) = false)
      · exact stepX_same (v := .bool (decide ((256 : Int) < (m : Int)))) (want1 (j := 2) (b := false) rfl (d2.trans (congrArg Value.bool hz))) (xgtr rfl (d3.1 hz) rfl) ⟨fun _ => rfl, fun c => absurd hz c⟩ rfl
      · exact stepX_skip (wantN (j := 2) (b := false) (b' := true) rfl (d2.trans (congrArg Value.bool (by simpa using hz))) rfl) ⟨fun c => absurd c hz, fun _ => rfl⟩ rfl
      ) <|
    arm (fun aa ww hk bs hd => by
      have d2 := dp hd 2 rfl; have d4 := dI hd 4 rfl
      by_cases hz : ((decide ((m : Int) < (0 : Int))) = false)
      · exact stepX_same (v := .bool (decide ((256 : Int) < (m : Int)))) (want1 (j := 2) (b := false) rfl (d2.trans (congrArg Value.bool hz))) (xmove rfl (d4.1 hz)) ⟨fun _ => rfl, fun c => absurd hz c⟩ rfl
      · exact stepX_skip (wantN (j := 2) (b := false) (b' := true) rfl (d2.trans (congrArg Value.bool (by simpa using hz))) rfl) ⟨fun c => absurd c hz, fun _ => rfl⟩ rfl
      ) <|
    arm (fun aa ww hk bs hd => by
      have d5 := dI hd 5 rfl
      by_cases hz : ((decide ((m : Int) < (0 : Int))) = false) ∧ ((decide ((256 : Int) < (m : Int))) = true)
      · exact stepX_same (v := .pointer (some ⟨gb1, 0, none⟩)) (want1 (j := 5) (b := true) rfl ((d5.1 hz.1).trans (congrArg Value.bool hz.2))) (xfieldAddr rfl (bg bs s1) (by kernel_rfl)) ⟨fun _ => rfl, fun c => absurd hz c⟩ rfl
      · by_cases hy : ((decide ((m : Int) < (0 : Int))) = false)
        · exact stepX_skip (wantN (j := 5) (b := true) (b' := false) rfl ((d5.1 hy).trans (congrArg Value.bool (Bool.eq_false_iff.2 (fun hx => hz ⟨hy, hx⟩)))) rfl) ⟨fun c => absurd c hz, fun _ => rfl⟩ rfl
        · exact stepX_skip (wantU (j := 5) (b := true) rfl (d5.2 hy)) ⟨fun c => absurd c hz, fun _ => rfl⟩ rfl
      ) <|
    arm (fun aa ww hk bs hd => by
      have d5 := dI hd 5 rfl; have d6 := dI hd 6 rfl
      by_cases hz : ((decide ((m : Int) < (0 : Int))) = false) ∧ ((decide ((256 : Int) < (m : Int))) = true)
      · exact stepX_same (v := .slice (some ⟨b, off, none⟩) 1 cs) (want1 (j := 5) (b := true) rfl ((d5.1 hz.1).trans (congrArg Value.bool hz.2))) (xloadB rfl (by kernel_rfl) (d6.1 hz) ((ow.keep hk).box 1 rfl) rfl) ⟨fun _ => rfl, fun c => absurd hz c⟩ rfl
      · by_cases hy : ((decide ((m : Int) < (0 : Int))) = false)
        · exact stepX_skip (wantN (j := 5) (b := true) (b' := false) rfl ((d5.1 hy).trans (congrArg Value.bool (Bool.eq_false_iff.2 (fun hx => hz ⟨hy, hx⟩)))) rfl) ⟨fun c => absurd c hz, fun _ => rfl⟩ rfl
        · exact stepX_skip (wantU (j := 5) (b := true) rfl (d5.2 hy)) ⟨fun c => absurd c hz, fun _ => rfl⟩ rfl
      ) <|
    arm (fun aa ww hk bs hd => by
      have d5 := dI hd 5 rfl; have d7 := dI hd 7 rfl
      by_cases hz : ((decide ((m : Int) < (0 : Int))) = false) ∧ ((decide ((256 : Int) < (m : Int))) = true)
      · exact stepX_same (v := .pointer (some ⟨b, off + 0, none⟩)) (want1 (j := 5) (b := true) rfl ((d5.1 hz.1).trans (congrArg Value.bool hz.2))) (xindexAddr (u := .slice (some ⟨b, off, none⟩) 1 cs) (z := .int .i64 ((0 : Nat) : Int)) rfl (d7.1 hz) rfl (run_place1 Tryz.underlying88 (by kernel_rfl) (by omega))) ⟨fun _ => rfl, fun c => absurd hz c⟩ rfl
      · by_cases hy : ((decide ((m : Int) < (0 : Int))) = false)
        · exact stepX_skip (wantN (j := 5) (b := true) (b' := false) rfl ((d5.1 hy).trans (congrArg Value.bool (Bool.eq_false_iff.2 (fun hx => hz ⟨hy, hx⟩)))) rfl) ⟨fun c => absurd c hz, fun _ => rfl⟩ rfl
        · exact stepX_skip (wantU (j := 5) (b := true) rfl (d5.2 hy)) ⟨fun c => absurd c hz, fun _ => rfl⟩ rfl
      ) <|
    arm (fun aa ww hk bs hd => by
      have d5 := dI hd 5 rfl; have d8 := dI hd 8 rfl
      by_cases hz : ((decide ((m : Int) < (0 : Int))) = false) ∧ ((decide ((256 : Int) < (m : Int))) = true)
      · exact stepX_same (v := .string ⟨s.toArray⟩) (want1 (j := 5) (b := true) rfl ((d5.1 hz.1).trans (congrArg Value.bool hz.2))) (xloadC rfl (by kernel_rfl) (d8.1 hz) ((hs.kept (ow.keep hk).kept).at_ (k := 0) rfl)) ⟨fun _ => rfl, fun c => absurd hz c⟩ rfl
      · by_cases hy : ((decide ((m : Int) < (0 : Int))) = false)
        · exact stepX_skip (wantN (j := 5) (b := true) (b' := false) rfl ((d5.1 hy).trans (congrArg Value.bool (Bool.eq_false_iff.2 (fun hx => hz ⟨hy, hx⟩)))) rfl) ⟨fun c => absurd c hz, fun _ => rfl⟩ rfl
        · exact stepX_skip (wantU (j := 5) (b := true) rfl (d5.2 hy)) ⟨fun c => absurd c hz, fun _ => rfl⟩ rfl
      ) <|
    arm (fun aa ww hk bs hd => by
      have d5 := dI hd 5 rfl; have d9 := dI hd 9 rfl
      by_cases hz : ((decide ((m : Int) < (0 : Int))) = false) ∧ ((decide ((256 : Int) < (m : Int))) = true)
      · exact stepX_same (v := .bool (decide (s ≠ []))) (want1 (j := 5) (b := true) rfl ((d5.1 hz.1).trans (congrArg Value.bool hz.2))) (xneS rfl (s := s) (t := []) (d9.1 hz) rfl) ⟨fun _ => rfl, fun c => absurd hz c⟩ rfl
      · by_cases hy : ((decide ((m : Int) < (0 : Int))) = false)
        · exact stepX_skip (wantN (j := 5) (b := true) (b' := false) rfl ((d5.1 hy).trans (congrArg Value.bool (Bool.eq_false_iff.2 (fun hx => hz ⟨hy, hx⟩)))) rfl) ⟨fun c => absurd c hz, fun _ => rfl⟩ rfl
        · exact stepX_skip (wantU (j := 5) (b := true) rfl (d5.2 hy)) ⟨fun c => absurd c hz, fun _ => rfl⟩ rfl
      ) <|
    arm (fun aa ww hk bs hd => by
      have d2 := dp hd 2 rfl; have d5 := dI hd 5 rfl; have d10 := dI hd 10 rfl
      by_cases hz : ((decide ((m : Int) < (0 : Int))) = false)
      · exact stepX_same (v := .bool ((decide ((256 : Int) < (m : Int))) && (decide (s ≠ [])))) (want1 (j := 2) (b := false) rfl (d2.trans (congrArg Value.bool hz))) (xand rfl (d5.1 hz) (fun hb => d10.1 ⟨hz, hb⟩) rfl) ⟨fun _ => rfl, fun c => absurd hz c⟩ rfl
      · exact stepX_skip (wantN (j := 2) (b := false) (b' := true) rfl (d2.trans (congrArg Value.bool (by simpa using hz))) rfl) ⟨fun c => absurd c hz, fun _ => rfl⟩ rfl
      ) <|
    arm (fun aa ww hk bs hd => by
      have d2 := dp hd 2 rfl; have d11 := dI hd 11 rfl; exact stepX_same (v := .bool ((decide ((m : Int) < (0 : Int))) || ((decide ((256 : Int) < (m : Int))) && (decide (s ≠ []))))) (want0 rfl) (xor_ rfl (d2) rfl (fun hb => d11.1 hb)) rfl rfl
      ) <|
    arm0) fun fa fw bs hv ap z q ow => ?_
  obtain ⟨s1, s2, s3⟩ := b3 bs s1 s2 s3; have s20 := gv hv 12 rfl rfl; refine wt hK4 ?_
  by_cases hc1 : ((m : Int) < (0 : Int)) ∨ (((256 : Int) < (m : Int)) ∧ (s ≠ []))
  · refine ct s20 ((bor (decide_eq_true_iff) (band (decide_eq_true_iff) (decide_eq_true_iff))).2 hc1) ?_
    have hq := rept_bad hc1; refine sq fun hK5 => ?_
    refine ro [yV (aggV (vFail 2))] 1 35 z q ow (
      aC (fun hk bs hd => xcall1 rfl rfl (en_val_Fail _ _)) (fun hk bs hd => vfail_any 2 _) rfl <|
      arm0) fun fa fw bs hv ap z q ow => ?_
    obtain ⟨s1, s2, s3⟩ := b3 bs s1 s2 s3; have s21 := gv hv 0 rfl rfl; refine ws ow 0 0 s2 s21 fun fw ow => ?_; refine wt hK5 ?_; refine wp_ret ?_; refine then_r ?_; refine rs3 s2 (ow.box 0 rfl) q ?_; exact ⟨congrArg (fun v => Ending.returned (aggV v)) (rept_no s m (by omega)), ow.kept⟩
  refine cf s20 (bor (decide_eq_true_iff) (band (decide_eq_true_iff) (decide_eq_true_iff))) hc1 ?_; have hq : 0 ≤ m ∧ (s = [] ∨ m ≤ 256) := rept_split hc1; refine wp_skip ?_; refine tn hK3 ?_; refine sq fun hK6 => ?_; refine sq fun hK7 => ?_
  refine ro [yV (.pointer (some ⟨gb1, 0, none⟩)), yV _, yV _, yV _, yV _] 5 35 z q ow (
    aS (fun hk bs hd => xfieldAddr rfl (bg bs s1) (by kernel_rfl)) rfl <|
    aS (fun hk bs hd => xloadB rfl (by kernel_rfl) (dp hd 0 rfl) ((ow.keep hk).box 1 rfl) rfl) rfl <|
    aS (fun hk bs hd => xindexAddr (u := .slice (some ⟨b, off, none⟩) 1 cs) (z := .int .i64 ((0 : Nat) : Int)) rfl (dp hd 1 rfl) rfl (run_place1 Tryz.underlying88 (by kernel_rfl) (by omega))) rfl <|
    aS (fun hk bs hd => xloadC rfl (by kernel_rfl) (dp hd 2 rfl) ((hs.kept (ow.keep hk).kept).at_ (k := 0) rfl)) rfl <|
    aS (fun hk bs hd => xeqS rfl (dp hd 3 rfl) rfl) rfl <|
    arm0) fun fa fw bs hv ap z q ow => ?_
  obtain ⟨s1, s2, s3⟩ := b3 bs s1 s2 s3; have s26 := gv hv 4 rfl rfl; refine wt hK7 ?_
  by_cases hc2 : s = []
  · refine ct s26 ((decide_eq_true_iff).2 hc2) ?_
    refine sq fun hK8 => ?_
    refine ro [yV (aggV (vText []))] 1 35 z q ow (
      aC (fun hk bs hd => xcall1 rfl rfl (en_ftext_text _ _)) (fun hk bs hd => text14_any [] _ (by first | decide | (rw [flatten_len]; exact Nat.le_trans (Nat.mul_le_mul (show m.toNat ≤ 256 by omega) l_s) (by decide)))) rfl <|
      arm0) fun fa fw bs hv ap z q ow => ?_
    obtain ⟨s1, s2, s3⟩ := b3 bs s1 s2 s3; have s27 := gv hv 0 rfl rfl; refine ws ow 0 0 s2 s27 fun fw ow => ?_; refine wt hK8 ?_; refine wp_ret ?_; refine then_r ?_; refine rs3 s2 (ow.box 0 rfl) q ?_; exact ⟨congrArg (fun v => Ending.returned (aggV v)) (rept_empty s m (by assumption) (by omega)), ow.kept⟩
  refine cf s26 (decide_eq_true_iff) hc2 ?_; have hq2 : m ≤ 256 := hq.2.resolve_left hc2; refine wp_skip ?_; refine tn hK6 ?_; refine sq fun hK9 => ?_
  refine ro [yV (.pointer (some ⟨gb1, 0, none⟩)), yV _, yV _, yV _, yV _, yV (.string ⟨((List.replicate m.toNat s).flatten).toArray⟩), yV (aggV (vText ((List.replicate m.toNat s).flatten)))] 7 35 z q ow (
    aS (fun hk bs hd => xfieldAddr rfl (bg bs s1) (by kernel_rfl)) rfl <|
    aS (fun hk bs hd => xloadB rfl (by kernel_rfl) (dp hd 0 rfl) ((ow.keep hk).box 1 rfl) rfl) rfl <|
    aS (fun hk bs hd => xindexAddr (u := .slice (some ⟨b, off, none⟩) 1 cs) (z := .int .i64 ((0 : Nat) : Int)) rfl (dp hd 1 rfl) rfl (run_place1 Tryz.underlying88 (by kernel_rfl) (by omega))) rfl <|
    aS (fun hk bs hd => xloadC rfl (by kernel_rfl) (dp hd 2 rfl) ((hs.kept (ow.keep hk).kept).at_ (k := 0) rfl)) rfl <|
    mvS s3 rfl rfl rfl rfl <|
    aC (fun hk bs hd => xcall2 rfl (dp hd 3 rfl) (dp hd 4 rfl) (en_strings_Repeat _ _)) (fun hk bs hd => repeat14 s m _ (by omega) (by omega) l_s) rfl <|
    aC (fun hk bs hd => xcall1 rfl (dp hd 5 rfl) (en_ftext_text _ _)) (fun hk bs hd => text14_any ((List.replicate m.toNat s).flatten) _ (by first | decide | (rw [flatten_len]; exact Nat.le_trans (Nat.mul_le_mul (show m.toNat ≤ 256 by omega) l_s) (by decide)))) rfl <|
    arm0) fun fa fw bs hv ap z q ow => ?_
  have s2 := bg bs s2; have s34 := gv hv 6 rfl rfl; refine ws ow 0 0 s2 s34 fun fw ow => ?_; refine wt hK9 ?_; refine wp_ret ?_; refine rs3 s2 (ow.box 0 rfl) q ?_; exact ⟨congrArg (fun v => Ending.returned (aggV v)) (rept_yes s m (by omega)), ow.kept⟩
set_option maxHeartbeats 2000000 in
theorem concat14_any (s : List (List UInt8)) (b off cs : Nat) (B : Option Addr) (cn : Nat) (w : World) (hs : RowC w (some ⟨b, off, none⟩) (s.map strV)) (hsz : 0 < s.length ∧ s.length ≤ 100) (hcs : s.length ≤ cs) (hl : ∀ t ∈ s, t.length ≤ 300) :
    Calls Tryz.prog 139 #[.agg #[.slice (some ⟨b, off, none⟩) s.length cs, .slice B 0 cn]] w fun e w' => e = .returned (aggV (vText s.flatten)) ∧ Kept w w' := by
  go_enter Tryz.func139, Tryz.ntmps139; refine sq fun hK1 => ?_
  refine ro [yNew w.heap.size (.cells #[.slice (some ⟨b, off, none⟩) s.length cs, .slice B 0 cn] 90 (0, 0)), yNew w.heap.size (.cells #[.int .u8 0, .int .i64 0, .string ⟨[].toArray⟩] 25 (0, 0))] 2 7 rfl rfl (Own.start w) (
    aP (fun hk bs hd => xbox rfl (bs.get 0 rfl rfl) (by kernel_rfl)) rfl <|
    aP (fun hk bs hd => xalloc rfl (by kernel_rfl)) rfl <|
    arm0) fun fa fw bs hv ap z q ov => ?_
  obtain ⟨gb1, s1, bgb1, hgb1⟩ := gotP hv 0 rfl rfl rfl; have ov := ov.cons hgb1 (Nat.le_trans (Own.start w).kept.size bgb1) ((Own.start w).below bgb1); obtain ⟨gb2, s2, bgb2, hgb2⟩ := gotP hv 1 rfl rfl rfl; have ov := ov.cons hgb2 (Nat.le_trans (Own.start w).kept.size bgb2) (ne_cons (apartP ap 0 1 rfl rfl rfl s1 rfl s2 rfl) ((Own.start w).below bgb2)); have ow := ov; refine wt hK1 ?_; refine sq fun hK2 => ?_
  refine ro [yV (.pointer (some ⟨gb1, 0, none⟩)), yV _, yV (.string ⟨s.flatten.toArray⟩), yV (aggV (vText s.flatten))] 4 7 z q ow (
    aS (fun hk bs hd => xfieldAddr rfl (bg bs s1) (by kernel_rfl)) rfl <|
    aS (fun hk bs hd => xloadB rfl (by kernel_rfl) (dp hd 0 rfl) ((ow.keep hk).box 1 rfl) rfl) rfl <|
    aC (fun hk bs hd => xcall2 rfl (dp hd 1 rfl) rfl (en_strings_Join _ _)) (fun hk bs hd => join14 s b off cs _ (hs.kept (ow.keep hk).kept) hsz hcs hl) rfl <|
    aC (fun hk bs hd => xcall1 rfl (dp hd 2 rfl) (en_ftext_text _ _)) (fun hk bs hd => text14_any s.flatten _ (by have := flatten_le s hl; have := Nat.mul_le_mul hsz.2 (Nat.le_refl 300); omega)) rfl <|
    arm0) fun fa fw bs hv ap z q ow => ?_
  have s2 := bg bs s2; have s6 := gv hv 3 rfl rfl; refine ws ow 0 0 s2 s6 fun fw ow => ?_; refine wt hK2 ?_; refine wp_ret ?_; refine rs3 s2 (ow.box 0 rfl) q ?_; exact ⟨rfl, ow.kept⟩
set_option maxHeartbeats 2000000 in
theorem find14_some (s t : List UInt8) (m : Int) (b off cs : Nat) (nb no cn : Nat) (w : World) (hs : RowC w (some ⟨b, off, none⟩) [.string ⟨s.toArray⟩, .string ⟨t.toArray⟩]) (hn : RowC w (some ⟨nb, no, none⟩) [.int .i64 m]) (l_s : s.length ≤ 300) (l_t : t.length ≤ 300) (r_m : -922337203685478 ≤ m ∧ m ≤ 922337203685478) (mx : Int) (HM : Mx w mx) :
    Calls Tryz.prog 142 #[.agg #[.slice (some ⟨b, off, none⟩) 2 cs, .slice (some ⟨nb, no, none⟩) 1 cn]] w fun e w' => e = .returned (aggV (find14 s t m)) ∧ Kept w w' := by
  go_enter Tryz.func142, Tryz.ntmps142; refine sq fun hK1 => ?_
  refine ro [yNew w.heap.size (.cells #[.slice (some ⟨b, off, none⟩) 2 cs, .slice (some ⟨nb, no, none⟩) 1 cn] 90 (0, 0)), yNew w.heap.size (.cells #[.int .u8 0, .int .i64 0, .string ⟨[].toArray⟩] 25 (0, 0))] 2 45 rfl rfl (Own.start w) (
    aP (fun hk bs hd => xbox rfl (bs.get 0 rfl rfl) (by kernel_rfl)) rfl <|
    aP (fun hk bs hd => xalloc rfl (by kernel_rfl)) rfl <|
    arm0) fun fa fw bs hv ap z q ov => ?_
  obtain ⟨gb1, s1, bgb1, hgb1⟩ := gotP hv 0 rfl rfl rfl; have ov := ov.cons hgb1 (Nat.le_trans (Own.start w).kept.size bgb1) ((Own.start w).below bgb1); obtain ⟨gb2, s2, bgb2, hgb2⟩ := gotP hv 1 rfl rfl rfl; have ov := ov.cons hgb2 (Nat.le_trans (Own.start w).kept.size bgb2) (ne_cons (apartP ap 0 1 rfl rfl rfl s1 rfl s2 rfl) ((Own.start w).below bgb2)); have ow := ov; refine wt hK1 ?_; refine sq fun hK2 => ?_
  refine ro [yV _] 1 45 z q ow (
    aS (fun hk bs hd => xassign rfl rfl) rfl <|
    arm0) fun fa fw bs hv ap z q ow => ?_
  obtain ⟨s1, s2⟩ := b2 bs s1 s2; have s3 := gv hv 0 rfl rfl; refine wt hK2 ?_; refine sq fun hK3 => ?_; refine sq fun hK4 => ?_
  refine ro [yV (.pointer (some ⟨gb1, 1, none⟩)), yV _, yV _, yV (.bool true)] 4 45 z q ow (
    aS (fun hk bs hd => xfieldAddr rfl (bg bs s1) (by kernel_rfl)) rfl <|
    aS (fun hk bs hd => xloadB rfl (by kernel_rfl) (dp hd 0 rfl) ((ow.keep hk).box 1 rfl) rfl) rfl <|
    aS (fun hk bs hd => xlen Tryz.underlying72 rfl (dp hd 1 rfl)) rfl <|
    aE (fun hk bs hd => xgtr rfl (dp hd 2 rfl) rfl) (congrArg Value.bool rfl) rfl <|
    arm0) fun fa fw bs hv ap z q ow => ?_
  obtain ⟨s1, s2, s3⟩ := b3 bs s1 s2 s3; have s8 := gv hv 3 rfl rfl; refine wt hK4 ?_; refine wp_cond_true (s8) ?_
  refine ro [yV (.pointer (some ⟨gb1, 1, none⟩)), yV _, yV _, yV _, yV _] 5 45 z q ow (
    aS (fun hk bs hd => xfieldAddr rfl (bg bs s1) (by kernel_rfl)) rfl <|
    aS (fun hk bs hd => xloadB rfl (by kernel_rfl) (dp hd 0 rfl) ((ow.keep hk).box 1 rfl) rfl) rfl <|
    aS (fun hk bs hd => xindexAddr (u := .slice (some ⟨nb, no, none⟩) 1 cn) (z := .int .i64 ((0 : Nat) : Int)) rfl (dp hd 1 rfl) rfl (run_place1 Tryz.underlying72 (by kernel_rfl) (by omega))) rfl <|
    aS (fun hk bs hd => xloadC rfl (by kernel_rfl) (dp hd 2 rfl) ((hn.kept (ow.keep hk).kept).at_ (k := 0) rfl)) rfl <|
    asD 3 rfl rfl rfl rfl rfl rfl <|
    arm0) fun fa fw bs hv ap z q ow => ?_
  obtain ⟨s1, s2⟩ := b2 bs s1 s2; have s3 := gv hv 4 rfl rfl; refine wt hK3 ?_; refine sq fun hK5 => ?_; refine sq fun hK6 => ?_
  refine ro [yV _, yV _, yV _, yIf (((decide ((m : Int) < (1 : Int))) = false)) (yV (.int .i64 m)), yIf (((decide ((m : Int) < (1 : Int))) = false)) (yV (.pointer (some ⟨gb1, 0, none⟩))), yIf (((decide ((m : Int) < (1 : Int))) = false)) (yV (.slice (some ⟨b, off, none⟩) 2 cs)), yIf (((decide ((m : Int) < (1 : Int))) = false)) (yV (.pointer (some ⟨b, off + 1, none⟩))), yIf (((decide ((m : Int) < (1 : Int))) = false)) (yV (.string ⟨t.toArray⟩)), yIf (((decide ((m : Int) < (1 : Int))) = false)) (yV (.int .i64 ((t.length : Nat) : Int))), yIf (((decide ((m : Int) < (1 : Int))) = false)) (yV (.int .i64 (((t.length) + 1 : Nat) : Int))), yIf (((decide ((m : Int) < (1 : Int))) = false)) (yV (.bool (decide ((((t.length) + 1 : Nat) : Int) < (m : Int))))), yV _] 12 45 z q ow (
    mvS s3 rfl rfl rfl rfl <|
    aS (fun hk bs hd => xlss rfl (dp hd 0 rfl) rfl) rfl <|
    mvD 1 rfl rfl rfl rfl rfl rfl <|
    arm (fun aa ww hk bs hd => by
      have d2 := dp hd 2 rfl
      by_cases hz : ((decide ((m : Int) < (1 : Int))) = false)
      · exact stepX_same (v := .int .i64 m) (want1 (j := 2) (b := false) rfl (d2.trans (congrArg Value.bool hz))) (xmove rfl (bg bs s3)) ⟨fun _ => rfl, fun c => absurd hz c⟩ rfl
      · exact stepX_skip (wantN (j := 2) (b := false) (b' := true) rfl (d2.trans (congrArg Value.bool (by simpa using hz))) rfl) ⟨fun c => absurd c hz, fun _ => rfl⟩ rfl
      ) <|
    arm (fun aa ww hk bs hd => by
      have d2 := dp hd 2 rfl
      by_cases hz : ((decide ((m : Int) < (1 : Int))) = false)
      · exact stepX_same (v := .pointer (some ⟨gb1, 0, none⟩)) (want1 (j := 2) (b := false) rfl (d2.trans (congrArg Value.bool hz))) (xfieldAddr rfl (bg bs s1) (by kernel_rfl)) ⟨fun _ => rfl, fun c => absurd hz c⟩ rfl
      · exact stepX_skip (wantN (j := 2) (b := false) (b' := true) rfl (d2.trans (congrArg Value.bool (by simpa using hz))) rfl) ⟨fun c => absurd c hz, fun _ => rfl⟩ rfl
      ) <|
    arm (fun aa ww hk bs hd => by
      have d2 := dp hd 2 rfl; have d4 := dI hd 4 rfl
      by_cases hz : ((decide ((m : Int) < (1 : Int))) = false)
      · exact stepX_same (v := .slice (some ⟨b, off, none⟩) 2 cs) (want1 (j := 2) (b := false) rfl (d2.trans (congrArg Value.bool hz))) (xloadB rfl (by kernel_rfl) (d4.1 hz) ((ow.keep hk).box 1 rfl) rfl) ⟨fun _ => rfl, fun c => absurd hz c⟩ rfl
      · exact stepX_skip (wantN (j := 2) (b := false) (b' := true) rfl (d2.trans (congrArg Value.bool (by simpa using hz))) rfl) ⟨fun c => absurd c hz, fun _ => rfl⟩ rfl
      ) <|
    arm (fun aa ww hk bs hd => by
      have d2 := dp hd 2 rfl; have d5 := dI hd 5 rfl
      by_cases hz : ((decide ((m : Int) < (1 : Int))) = false)
      · exact stepX_same (v := .pointer (some ⟨b, off + 1, none⟩)) (want1 (j := 2) (b := false) rfl (d2.trans (congrArg Value.bool hz))) (xindexAddr (u := .slice (some ⟨b, off, none⟩) 2 cs) (z := .int .i64 ((1 : Nat) : Int)) rfl (d5.1 hz) rfl (run_place1 Tryz.underlying88 (by kernel_rfl) (by omega))) ⟨fun _ => rfl, fun c => absurd hz c⟩ rfl
      · exact stepX_skip (wantN (j := 2) (b := false) (b' := true) rfl (d2.trans (congrArg Value.bool (by simpa using hz))) rfl) ⟨fun c => absurd c hz, fun _ => rfl⟩ rfl
      ) <|
    arm (fun aa ww hk bs hd => by
      have d2 := dp hd 2 rfl; have d6 := dI hd 6 rfl
      by_cases hz : ((decide ((m : Int) < (1 : Int))) = false)
      · exact stepX_same (v := .string ⟨t.toArray⟩) (want1 (j := 2) (b := false) rfl (d2.trans (congrArg Value.bool hz))) (xloadC rfl (by kernel_rfl) (d6.1 hz) ((hs.kept (ow.keep hk).kept).at_ (k := 1) rfl)) ⟨fun _ => rfl, fun c => absurd hz c⟩ rfl
      · exact stepX_skip (wantN (j := 2) (b := false) (b' := true) rfl (d2.trans (congrArg Value.bool (by simpa using hz))) rfl) ⟨fun c => absurd c hz, fun _ => rfl⟩ rfl
      ) <|
    arm (fun aa ww hk bs hd => by
      have d2 := dp hd 2 rfl; have d7 := dI hd 7 rfl
      by_cases hz : ((decide ((m : Int) < (1 : Int))) = false)
      · exact stepX_same (v := .int .i64 ((t.length : Nat) : Int)) (want1 (j := 2) (b := false) rfl (d2.trans (congrArg Value.bool hz))) (xlenS Tryz.underlying9 rfl (t := t) (d7.1 hz)) ⟨fun _ => rfl, fun c => absurd hz c⟩ rfl
      · exact stepX_skip (wantN (j := 2) (b := false) (b' := true) rfl (d2.trans (congrArg Value.bool (by simpa using hz))) rfl) ⟨fun c => absurd c hz, fun _ => rfl⟩ rfl
      ) <|
    arm (fun aa ww hk bs hd => by
      have d2 := dp hd 2 rfl; have d8 := dI hd 8 rfl
      by_cases hz : ((decide ((m : Int) < (1 : Int))) = false)
      · exact stepX_same (v := .int .i64 (((t.length) + 1 : Nat) : Int)) (want1 (j := 2) (b := false) rfl (d2.trans (congrArg Value.bool hz))) (xadd (Or.inr rfl) rfl (n := ((t.length : Nat) : Int)) (m := 1) (d8.1 hz) rfl (by omega) (by omega)) ⟨fun _ => rfl, fun c => absurd hz c⟩ rfl
      · exact stepX_skip (wantN (j := 2) (b := false) (b' := true) rfl (d2.trans (congrArg Value.bool (by simpa using hz))) rfl) ⟨fun c => absurd c hz, fun _ => rfl⟩ rfl
      ) <|
    arm (fun aa ww hk bs hd => by
      have d2 := dp hd 2 rfl; have d3 := dI hd 3 rfl; have d9 := dI hd 9 rfl
      by_cases hz : ((decide ((m : Int) < (1 : Int))) = false)
      · exact stepX_same (v := .bool (decide ((((t.length) + 1 : Nat) : Int) < (m : Int)))) (want1 (j := 2) (b := false) rfl (d2.trans (congrArg Value.bool hz))) (xgtr rfl (d3.1 hz) (d9.1 hz)) ⟨fun _ => rfl, fun c => absurd hz c⟩ rfl
      · exact stepX_skip (wantN (j := 2) (b := false) (b' := true) rfl (d2.trans (congrArg Value.bool (by simpa using hz))) rfl) ⟨fun c => absurd c hz, fun _ => rfl⟩ rfl
      ) <|
    arm (fun aa ww hk bs hd => by
      have d2 := dp hd 2 rfl; have d10 := dI hd 10 rfl; exact stepX_same (v := .bool ((decide ((m : Int) < (1 : Int))) || (decide ((((t.length) + 1 : Nat) : Int) < (m : Int))))) (want0 rfl) (xor_ rfl (d2) rfl (fun hb => d10.1 hb)) rfl rfl
      ) <|
    arm0) fun fa fw bs hv ap z q ow => ?_
  obtain ⟨s1, s2, s3⟩ := b3 bs s1 s2 s3; have s24 := gv hv 11 rfl rfl; refine wt hK6 ?_
  by_cases hc1 : ((m : Int) < (1 : Int)) ∨ ((((t.length) + 1 : Nat) : Int) < (m : Int))
  · refine ct s24 ((bor (decide_eq_true_iff) (decide_eq_true_iff)).2 hc1) ?_
    refine sq fun hK7 => ?_
    refine ro [yV (aggV (vFail 2))] 1 45 z q ow (
      aC (fun hk bs hd => xcall1 rfl rfl (en_val_Fail _ _)) (fun hk bs hd => vfail_any 2 _) rfl <|
      arm0) fun fa fw bs hv ap z q ow => ?_
    obtain ⟨s1, s2, s3⟩ := b3 bs s1 s2 s3; have s25 := gv hv 0 rfl rfl; refine ws ow 0 0 s2 s25 fun fw ow => ?_; refine wt hK7 ?_; refine wp_ret ?_; refine then_r ?_; refine rs3 s2 (ow.box 0 rfl) q ?_; exact ⟨congrArg (fun v => Ending.returned (aggV v)) (find_out s t m (by omega)), ow.kept⟩
  refine cf s24 (bor (decide_eq_true_iff) (decide_eq_true_iff)) hc1 ?_; refine wp_skip ?_; refine tn hK5 ?_; refine sq fun hK8 => ?_
  refine ro [yV (.pointer (some ⟨gb1, 0, none⟩)), yV _, yV _, yV _, yV _, yV _, yV _, yV (.pointer (some ⟨gb1, 0, none⟩)), yV _, yV _, yV _, yV (.int .i64 (Lib.index (t.drop ((m - 1).toNat)) s)), yV _] 13 45 z q ow (
    aS (fun hk bs hd => xfieldAddr rfl (bg bs s1) (by kernel_rfl)) rfl <|
    aS (fun hk bs hd => xloadB rfl (by kernel_rfl) (dp hd 0 rfl) ((ow.keep hk).box 1 rfl) rfl) rfl <|
    aS (fun hk bs hd => xindexAddr (u := .slice (some ⟨b, off, none⟩) 2 cs) (z := .int .i64 ((1 : Nat) : Int)) rfl (dp hd 1 rfl) rfl (run_place1 Tryz.underlying88 (by kernel_rfl) (by omega))) rfl <|
    aS (fun hk bs hd => xloadC rfl (by kernel_rfl) (dp hd 2 rfl) ((hs.kept (ow.keep hk).kept).at_ (k := 1) rfl)) rfl <|
    mvS s3 rfl rfl rfl rfl <|
    aS (fun hk bs hd => xsub (Or.inr rfl) rfl (dp hd 4 rfl) rfl (by omega) (by omega)) rfl <|
    aS (fun hk bs hd => xslice (u := .string ⟨t.toArray⟩) (l := some (.int .i64 ((m - 1).toNat : Nat))) (h := none) (m := none) rfl (dp hd 3 rfl) (congrArg some ((dp hd 5 rfl).trans (congrArg (Value.int .i64) (show m - 1 = (((m - 1).toNat : Nat) : Int) by omega)))) rfl rfl (run_sliceFrom Tryz.underlying9 t ((m - 1).toNat) (by omega))) rfl <|
    aS (fun hk bs hd => xfieldAddr rfl (bg bs s1) (by kernel_rfl)) rfl <|
    aS (fun hk bs hd => xloadB rfl (by kernel_rfl) (dp hd 7 rfl) ((ow.keep hk).box 1 rfl) rfl) rfl <|
    aS (fun hk bs hd => xindexAddr (u := .slice (some ⟨b, off, none⟩) 2 cs) (z := .int .i64 ((0 : Nat) : Int)) rfl (dp hd 8 rfl) rfl (run_place1 Tryz.underlying88 (by kernel_rfl) (by omega))) rfl <|
    aS (fun hk bs hd => xloadC rfl (by kernel_rfl) (dp hd 9 rfl) ((hs.kept (ow.keep hk).kept).at_ (k := 0) rfl)) rfl <|
    aC (fun hk bs hd => xcall2 rfl (dp hd 6 rfl) (dp hd 10 rfl) (en_strings_Index _ _)) (fun hk bs hd => back_kept (Tryz.strings_Index ⟨(t.drop ((m - 1).toNat)).toArray⟩ ⟨s.toArray⟩ mx _ (by show (List.length _) < _; rw [List.length_drop]; omega) (HM.kept (ow.keep hk).kept))) rfl <|
    asD 11 rfl rfl rfl rfl rfl rfl <|
    arm0) fun fa fw bs hv ap z q ow => ?_
  obtain ⟨s2, s3⟩ := b2 bs s2 s3; have s4 := gv hv 12 rfl rfl; refine wt hK8 ?_; refine sq fun hK9 => ?_; refine sq fun hK10 => ?_
  refine ro [yV _, yV _] 2 45 z q ow (
    mvS s4 rfl rfl rfl rfl <|
    aS (fun hk bs hd => xlss rfl (dp hd 0 rfl) rfl) rfl <|
    arm0) fun fa fw bs hv ap z q ow => ?_
  obtain ⟨s2, s3, s4⟩ := b3 bs s2 s3 s4; have s39 := gv hv 1 rfl rfl; refine wt hK10 ?_
  by_cases hc2 : (Lib.index (t.drop ((m - 1).toNat)) s : Int) < (0 : Int)
  · refine ct s39 ((decide_eq_true_iff).2 hc2) ?_
    refine sq fun hK11 => ?_
    refine ro [yV (aggV (vFail 2))] 1 45 z q ow (
      aC (fun hk bs hd => xcall1 rfl rfl (en_val_Fail _ _)) (fun hk bs hd => vfail_any 2 _) rfl <|
      arm0) fun fa fw bs hv ap z q ow => ?_
    obtain ⟨s2, s3, s4⟩ := b3 bs s2 s3 s4; have s40 := gv hv 0 rfl rfl; refine ws ow 0 0 s2 s40 fun fw ow => ?_; refine wt hK11 ?_; refine wp_ret ?_; refine then_r ?_; refine rs3 s2 (ow.box 0 rfl) q ?_; exact ⟨congrArg (fun v => Ending.returned (aggV v)) (find_none s t m (by omega) (by omega) (by omega)), ow.kept⟩
  refine cf s39 (decide_eq_true_iff) hc2 ?_; refine wp_skip ?_; refine tn hK9 ?_; refine sq fun hK12 => ?_
  refine ro [yV _, yV _, yV _, yV (aggV (vMake (((Lib.index (t.drop ((m - 1).toNat)) s) + m) * 10000)))] 4 45 z q ow (
    mvS s4 rfl rfl rfl rfl <|
    mvS s3 rfl rfl rfl rfl <|
    aS (fun hk bs hd => xadd (Or.inl rfl) rfl (dp hd 0 rfl) (dp hd 1 rfl) (by have := Lib.index_le (t.drop (m - 1).toNat) s; rw [List.length_drop] at this; omega) (by have := Lib.index_le (t.drop (m - 1).toNat) s; rw [List.length_drop] at this; omega)) rfl <|
    aC (fun hk bs hd => xcall1 rfl (dp hd 2 rfl) (en_ftext_number _ _)) (fun hk bs hd => number14_any ((Lib.index (t.drop ((m - 1).toNat)) s) + m) _ (by have := Lib.index_le (t.drop (m - 1).toNat) s; rw [List.length_drop] at this; omega) (by have := Lib.index_le (t.drop (m - 1).toNat) s; rw [List.length_drop] at this; omega)) rfl <|
    arm0) fun fa fw bs hv ap z q ow => ?_
  have s2 := bg bs s2; have s44 := gv hv 3 rfl rfl; refine ws ow 0 0 s2 s44 fun fw ow => ?_; refine wt hK12 ?_; refine wp_ret ?_; refine rs3 s2 (ow.box 0 rfl) q ?_; exact ⟨congrArg (fun v => Ending.returned (aggV v)) (find_some s t m (by omega) (by omega) (by omega)), ow.kept⟩
set_option maxHeartbeats 2000000 in
theorem find14_none (s t : List UInt8) (b off cs : Nat) (B : Option Addr) (cn : Nat) (w : World) (hs : RowC w (some ⟨b, off, none⟩) [.string ⟨s.toArray⟩, .string ⟨t.toArray⟩]) (l_s : s.length ≤ 300) (l_t : t.length ≤ 300) (mx : Int) (HM : Mx w mx) :
    Calls Tryz.prog 142 #[.agg #[.slice (some ⟨b, off, none⟩) 2 cs, .slice B 0 cn]] w fun e w' => e = .returned (aggV (find14 s t 1)) ∧ Kept w w' := by
  go_enter Tryz.func142, Tryz.ntmps142; refine sq fun hK1 => ?_
  refine ro [yNew w.heap.size (.cells #[.slice (some ⟨b, off, none⟩) 2 cs, .slice B 0 cn] 90 (0, 0)), yNew w.heap.size (.cells #[.int .u8 0, .int .i64 0, .string ⟨[].toArray⟩] 25 (0, 0))] 2 45 rfl rfl (Own.start w) (
    aP (fun hk bs hd => xbox rfl (bs.get 0 rfl rfl) (by kernel_rfl)) rfl <|
    aP (fun hk bs hd => xalloc rfl (by kernel_rfl)) rfl <|
    arm0) fun fa fw bs hv ap z q ov => ?_
  obtain ⟨gb1, s1, bgb1, hgb1⟩ := gotP hv 0 rfl rfl rfl; have ov := ov.cons hgb1 (Nat.le_trans (Own.start w).kept.size bgb1) ((Own.start w).below bgb1); obtain ⟨gb2, s2, bgb2, hgb2⟩ := gotP hv 1 rfl rfl rfl; have ov := ov.cons hgb2 (Nat.le_trans (Own.start w).kept.size bgb2) (ne_cons (apartP ap 0 1 rfl rfl rfl s1 rfl s2 rfl) ((Own.start w).below bgb2)); have ow := ov; refine wt hK1 ?_; refine sq fun hK2 => ?_
  refine ro [yV _] 1 45 z q ow (
    aS (fun hk bs hd => xassign rfl rfl) rfl <|
    arm0) fun fa fw bs hv ap z q ow => ?_
  obtain ⟨s1, s2⟩ := b2 bs s1 s2; have s3 := gv hv 0 rfl rfl; refine wt hK2 ?_; refine sq fun hK3 => ?_; refine sq fun hK4 => ?_
  refine ro [yV (.pointer (some ⟨gb1, 1, none⟩)), yV _, yV _, yV (.bool false)] 4 45 z q ow (
    aS (fun hk bs hd => xfieldAddr rfl (bg bs s1) (by kernel_rfl)) rfl <|
    aS (fun hk bs hd => xloadB rfl (by kernel_rfl) (dp hd 0 rfl) ((ow.keep hk).box 1 rfl) rfl) rfl <|
    aS (fun hk bs hd => xlen Tryz.underlying72 rfl (dp hd 1 rfl)) rfl <|
    aE (fun hk bs hd => xgtr rfl (dp hd 2 rfl) rfl) (congrArg Value.bool rfl) rfl <|
    arm0) fun fa fw bs hv ap z q ow => ?_
  obtain ⟨s1, s2, s3⟩ := b3 bs s1 s2 s3; have s8 := gv hv 3 rfl rfl; refine wt hK4 ?_; refine wp_cond_false (s8) ?_; refine wp_skip ?_; refine tn hK3 ?_; refine sq fun hK5 => ?_; refine sq fun hK6 => ?_
  refine ro [yV _, yV (.bool false), yV _, yV _, yV (.pointer (some ⟨gb1, 0, none⟩)), yV _, yV _, yV _, yV _, yV (.int .i64 (((t.length) + 1 : Nat) : Int)), yV _, yV _] 12 45 z q ow (
    mvS s3 rfl rfl rfl rfl <|
    aE (fun hk bs hd => xlss rfl (dp hd 0 rfl) rfl) (congrArg Value.bool rfl) rfl <|
    mvD 1 rfl rfl rfl rfl rfl rfl <|
    armS (wg (j := 2) (b := false) rfl rfl rfl) (fun aa ww hk bs hd => xmove rfl (bg bs s3)) rfl <|
    armS (wg (j := 2) (b := false) rfl rfl rfl) (fun aa ww hk bs hd => xfieldAddr rfl (bg bs s1) (by kernel_rfl)) rfl <|
    armS (wg (j := 2) (b := false) rfl rfl rfl) (fun aa ww hk bs hd => xloadB rfl (by kernel_rfl) (dp hd 4 rfl) ((ow.keep hk).box 1 rfl) rfl) rfl <|
    armS (wg (j := 2) (b := false) rfl rfl rfl) (fun aa ww hk bs hd => xindexAddr (u := .slice (some ⟨b, off, none⟩) 2 cs) (z := .int .i64 ((1 : Nat) : Int)) rfl (dp hd 5 rfl) rfl (run_place1 Tryz.underlying88 (by kernel_rfl) (by omega))) rfl <|
    armS (wg (j := 2) (b := false) rfl rfl rfl) (fun aa ww hk bs hd => xloadC rfl (by kernel_rfl) (dp hd 6 rfl) ((hs.kept (ow.keep hk).kept).at_ (k := 1) rfl)) rfl <|
    armS (wg (j := 2) (b := false) rfl rfl rfl) (fun aa ww hk bs hd => xlenS Tryz.underlying9 rfl (dp hd 7 rfl)) rfl <|
    armS (wg (j := 2) (b := false) rfl rfl rfl) (fun aa ww hk bs hd => xadd (Or.inr rfl) rfl (dp hd 8 rfl) rfl (by omega) (by omega)) rfl <|
    armS (wg (j := 2) (b := false) rfl rfl rfl) (fun aa ww hk bs hd => xgtr rfl (dp hd 3 rfl) (dp hd 9 rfl)) rfl <|
    aS (fun hk bs hd => xpickF rfl (dp hd 2 rfl) (dp hd 10 rfl)) rfl <|
    arm0) fun fa fw bs hv ap z q ow => ?_
  obtain ⟨s1, s2, s3⟩ := b3 bs s1 s2 s3; have s24 := gv hv 11 rfl rfl; refine wt hK6 ?_
  by_cases hc1 : (((t.length) + 1 : Nat) : Int) < (1 : Int)
  · refine ct s24 ((decide_eq_true_iff).2 hc1) ?_
    refine sq fun hK7 => ?_
    refine ro [yV (aggV (vFail 2))] 1 45 z q ow (
      aC (fun hk bs hd => xcall1 rfl rfl (en_val_Fail _ _)) (fun hk bs hd => vfail_any 2 _) rfl <|
      arm0) fun fa fw bs hv ap z q ow => ?_
    obtain ⟨s1, s2, s3⟩ := b3 bs s1 s2 s3; have s25 := gv hv 0 rfl rfl; refine ws ow 0 0 s2 s25 fun fw ow => ?_; refine wt hK7 ?_; refine wp_ret ?_; refine then_r ?_; refine rs3 s2 (ow.box 0 rfl) q ?_; exact ⟨congrArg (fun v => Ending.returned (aggV v)) (find_out s t 1 (by omega)), ow.kept⟩
  refine cf s24 (decide_eq_true_iff) hc1 ?_; refine wp_skip ?_; refine tn hK5 ?_; refine sq fun hK8 => ?_
  refine ro [yV (.pointer (some ⟨gb1, 0, none⟩)), yV _, yV _, yV _, yV _, yV _, yV _, yV (.pointer (some ⟨gb1, 0, none⟩)), yV _, yV _, yV _, yV (.int .i64 (Lib.index (t.drop (((1 : Int) - 1).toNat)) s)), yV _] 13 45 z q ow (
    aS (fun hk bs hd => xfieldAddr rfl (bg bs s1) (by kernel_rfl)) rfl <|
    aS (fun hk bs hd => xloadB rfl (by kernel_rfl) (dp hd 0 rfl) ((ow.keep hk).box 1 rfl) rfl) rfl <|
    aS (fun hk bs hd => xindexAddr (u := .slice (some ⟨b, off, none⟩) 2 cs) (z := .int .i64 ((1 : Nat) : Int)) rfl (dp hd 1 rfl) rfl (run_place1 Tryz.underlying88 (by kernel_rfl) (by omega))) rfl <|
    aS (fun hk bs hd => xloadC rfl (by kernel_rfl) (dp hd 2 rfl) ((hs.kept (ow.keep hk).kept).at_ (k := 1) rfl)) rfl <|
    mvS s3 rfl rfl rfl rfl <|
    aS (fun hk bs hd => xsub (Or.inr rfl) rfl (dp hd 4 rfl) rfl (by omega) (by omega)) rfl <|
    aS (fun hk bs hd => xslice (u := .string ⟨t.toArray⟩) (l := some (.int .i64 (((1 : Int) - 1).toNat : Nat))) (h := none) (m := none) rfl (dp hd 3 rfl) (congrArg some ((dp hd 5 rfl).trans (congrArg (Value.int .i64) (show (1 : Int) - 1 = ((((1 : Int) - 1).toNat : Nat) : Int) by omega)))) rfl rfl (run_sliceFrom Tryz.underlying9 t (((1 : Int) - 1).toNat) (by omega))) rfl <|
    aS (fun hk bs hd => xfieldAddr rfl (bg bs s1) (by kernel_rfl)) rfl <|
    aS (fun hk bs hd => xloadB rfl (by kernel_rfl) (dp hd 7 rfl) ((ow.keep hk).box 1 rfl) rfl) rfl <|
    aS (fun hk bs hd => xindexAddr (u := .slice (some ⟨b, off, none⟩) 2 cs) (z := .int .i64 ((0 : Nat) : Int)) rfl (dp hd 8 rfl) rfl (run_place1 Tryz.underlying88 (by kernel_rfl) (by omega))) rfl <|
    aS (fun hk bs hd => xloadC rfl (by kernel_rfl) (dp hd 9 rfl) ((hs.kept (ow.keep hk).kept).at_ (k := 0) rfl)) rfl <|
    aC (fun hk bs hd => xcall2 rfl (dp hd 6 rfl) (dp hd 10 rfl) (en_strings_Index _ _)) (fun hk bs hd => back_kept (Tryz.strings_Index ⟨(t.drop (((1 : Int) - 1).toNat)).toArray⟩ ⟨s.toArray⟩ mx _ (by show (List.length _) < _; rw [List.length_drop]; omega) (HM.kept (ow.keep hk).kept))) rfl <|
    asD 11 rfl rfl rfl rfl rfl rfl <|
    arm0) fun fa fw bs hv ap z q ow => ?_
  obtain ⟨s2, s3⟩ := b2 bs s2 s3; have s4 := gv hv 12 rfl rfl; refine wt hK8 ?_; refine sq fun hK9 => ?_; refine sq fun hK10 => ?_
  refine ro [yV _, yV _] 2 45 z q ow (
    mvS s4 rfl rfl rfl rfl <|
    aS (fun hk bs hd => xlss rfl (dp hd 0 rfl) rfl) rfl <|
    arm0) fun fa fw bs hv ap z q ow => ?_
  obtain ⟨s2, s3, s4⟩ := b3 bs s2 s3 s4; have s39 := gv hv 1 rfl rfl; refine wt hK10 ?_
  by_cases hc2 : (Lib.index (t.drop (((1 : Int) - 1).toNat)) s : Int) < (0 : Int)
  · refine ct s39 ((decide_eq_true_iff).2 hc2) ?_
    refine sq fun hK11 => ?_
    refine ro [yV (aggV (vFail 2))] 1 45 z q ow (
      aC (fun hk bs hd => xcall1 rfl rfl (en_val_Fail _ _)) (fun hk bs hd => vfail_any 2 _) rfl <|
      arm0) fun fa fw bs hv ap z q ow => ?_
    obtain ⟨s2, s3, s4⟩ := b3 bs s2 s3 s4; have s40 := gv hv 0 rfl rfl; refine ws ow 0 0 s2 s40 fun fw ow => ?_; refine wt hK11 ?_; refine wp_ret ?_; refine then_r ?_; refine rs3 s2 (ow.box 0 rfl) q ?_; exact ⟨congrArg (fun v => Ending.returned (aggV v)) (find_none s t 1 (by omega) (by omega) (by omega)), ow.kept⟩
  refine cf s39 (decide_eq_true_iff) hc2 ?_; refine wp_skip ?_; refine tn hK9 ?_; refine sq fun hK12 => ?_
  refine ro [yV _, yV _, yV _, yV (aggV (vMake (((Lib.index (t.drop (((1 : Int) - 1).toNat)) s) + 1) * 10000)))] 4 45 z q ow (
    mvS s4 rfl rfl rfl rfl <|
    mvS s3 rfl rfl rfl rfl <|
    aS (fun hk bs hd => xadd (Or.inl rfl) rfl (dp hd 0 rfl) (dp hd 1 rfl) (by have := Lib.index_le (t.drop ((1 : Int) - 1).toNat) s; rw [List.length_drop] at this; omega) (by have := Lib.index_le (t.drop ((1 : Int) - 1).toNat) s; rw [List.length_drop] at this; omega)) rfl <|
    aC (fun hk bs hd => xcall1 rfl (dp hd 2 rfl) (en_ftext_number _ _)) (fun hk bs hd => number14_any ((Lib.index (t.drop (((1 : Int) - 1).toNat)) s) + 1) _ (by have := Lib.index_le (t.drop ((1 : Int) - 1).toNat) s; rw [List.length_drop] at this; omega) (by have := Lib.index_le (t.drop ((1 : Int) - 1).toNat) s; rw [List.length_drop] at this; omega)) rfl <|
    arm0) fun fa fw bs hv ap z q ow => ?_
  have s2 := bg bs s2; have s44 := gv hv 3 rfl rfl; refine ws ow 0 0 s2 s44 fun fw ow => ?_; refine wt hK12 ?_; refine wp_ret ?_; refine rs3 s2 (ow.box 0 rfl) q ?_; exact ⟨congrArg (fun v => Ending.returned (aggV v)) (find_some s t 1 (by omega) (by omega) (by omega)), ow.kept⟩
end Go.Proofs.YtbpkfnoenkoabaaGreatDoor
