/- The law GlyphExamples, walked (printed by wip/mkgex.py). -/
import Derived.Test.YtipkjpcedfokhaaDoorGMany
namespace Go.Proofs.YtipkjpcedfokhaaDoor
set_option linter.unusedVariables false
set_option linter.unusedSimpArgs false
open Go.RowKit Lv

theorem chk_rep_long {n : Nat} {b : UInt8} (h : 256 < n) : dCheck (List.replicate n b) = 5 := by unfold dCheck; rw [List.length_replicate, if_pos h]
theorem chk_rep_ok {n : Nat} {b : UInt8} (h : n ≤ 256) (g : okB b = true) : dCheck (List.replicate n b) = 0 := by unfold dCheck; rw [List.length_replicate, if_neg (by omega), if_pos (plain_rep b n g)]
theorem quote_long {l : List UInt8} (h : 256 < l.length) : dQuote l = ([], 5) := by
  have c : dCheck l = 5 := by unfold dCheck; rw [if_pos h]
  unfold dQuote; rw [if_neg (by rw [c]; decide), c]
theorem qq_rep (n : Nat) : qq (List.replicate n 34) = List.replicate (2 * n) 34 := by
  induction n with
  | zero => rfl
  | succ n ih => rw [List.replicate_succ, qq_cons, if_pos rfl, ih, show 2 * (n + 1) = (2 * n + 1) + 1 by omega, List.replicate_succ, List.replicate_succ]; rfl
theorem qq_none : ∀ l : List UInt8, (∀ c ∈ l, c ≠ 34) → qq l = l
  | [], _ => rfl
  | c :: l, h => by rw [qq_cons, if_neg (h c (by simp)), qq_none l (fun x hx => h x (by simp [hx]))]; rfl
theorem unq_rep_quotes : dUnq ([34] ++ List.replicate 512 (34 : UInt8) ++ [34]) = (List.replicate 256 34, 0) := by
  have e := unq_lit (m := List.replicate 256 34) (plain_rep 34 256 (by decide)) (by rw [List.length_replicate]; omega)
  rw [qq_rep] at e
  exact e
theorem unq_too_long {m : List UInt8} (q : qq m = m) (p : plain m = true) (h : 256 < m.length) : dUnq (34 :: (m ++ [34])) = ([], 5) := by
  have lp := plain_lit m
  rw [q, p] at lp
  have g : litB (34 :: (m ++ [34])) = true := lit_yes (by simp) (by simp) (by simp) lp
  exact dUnq_long g (by rw [rst_lit, ← q, unq_qq, q]) h
theorem unq_rep_long : dUnq ([34] ++ List.replicate 257 (120 : UInt8) ++ [34]) = ([], 5) :=
  unq_too_long (m := List.replicate 257 120) (qq_none _ (fun c hc => by rw [(List.mem_replicate.1 hc).2]; decide)) (plain_rep 120 257 (by decide)) (by rw [List.length_replicate]; omega)

theorem badLit (k : Nat) (h : k < 8) : ∃ s : List UInt8, (#[.string ⟨#[34]⟩, .string ⟨#[34, 34, 34]⟩, .string ⟨#[97]⟩, .string ⟨#[]⟩, .string ⟨#[34, 97]⟩, .string ⟨#[97, 34]⟩, .string ⟨#[34, 97, 34, 98, 34]⟩, .string ⟨#[34, 9, 34]⟩] : Array Value)[k]? = some (.string ⟨s.toArray⟩) ∧ dUnq s = ([], 4) ∧ s.length ≤ 10 :=
  match k, h with
  | 0, _ => ⟨[34], rfl, by decide, by decide⟩
  | 1, _ => ⟨[34, 34, 34], rfl, by decide, by decide⟩
  | 2, _ => ⟨[97], rfl, by decide, by decide⟩
  | 3, _ => ⟨[], rfl, by decide, by decide⟩
  | 4, _ => ⟨[34, 97], rfl, by decide, by decide⟩
  | 5, _ => ⟨[97, 34], rfl, by decide, by decide⟩
  | 6, _ => ⟨[34, 97, 34, 98, 34], rfl, by decide, by decide⟩
  | 7, _ => ⟨[34, 9, 34], rfl, by decide, by decide⟩

set_option maxHeartbeats 4000000 in
set_option maxRecDepth 100000 in
theorem GlyphExamples_walk (w : World) (m : Int) (hm : Mx w m) : Calls Tryd.prog 9 #[] w fun e w' => e = .returned (.bool true) ∧ Below w.heap.size w w' := by
  have HM := Lib.hid hm
  clear hm
  have Mr1 := fun w => many_any 120 256 (by omega) w
  have HMr1 := Lib.hid Mr1
  clear Mr1
  have Mr2 := fun w => many_any 120 257 (by omega) w
  have HMr2 := Lib.hid Mr2
  clear Mr2
  have Mr3 := fun w => many_any 31 1 (by omega) w
  have HMr3 := Lib.hid Mr3
  clear Mr3
  have Mr4 := fun w => many_any 31 257 (by omega) w
  have HMr4 := Lib.hid Mr4
  clear Mr4
  have Mr5 := fun w => many_any 127 1 (by omega) w
  have HMr5 := Lib.hid Mr5
  clear Mr5
  have Mr6 := fun w => many_any 34 512 (by omega) w
  have HMr6 := Lib.hid Mr6
  clear Mr6
  have Mr7 := fun w => many_any 34 256 (by omega) w
  have HMr7 := Lib.hid Mr7
  clear Mr7
  have X := ba_append
  have Cr1 := fun w => check_any (List.replicate 256 (120 : UInt8)) w (by rw [List.length_replicate]; omega)
  rw [show dCheck (List.replicate 256 (120 : UInt8)) = 0 from chk_rep_ok (by omega) (by decide)] at Cr1
  have HCr1 := Lib.hid Cr1
  clear Cr1
  have Cr2 := fun w => check_any (List.replicate 257 (120 : UInt8)) w (by rw [List.length_replicate]; omega)
  rw [show dCheck (List.replicate 257 (120 : UInt8)) = 5 from chk_rep_long (by omega)] at Cr2
  have HCr2 := Lib.hid Cr2
  clear Cr2
  have Cr3 := fun w => check_any (List.replicate 1 (31 : UInt8)) w (by rw [List.length_replicate]; omega)
  rw [show dCheck (List.replicate 1 (31 : UInt8)) = 4 from by decide] at Cr3
  have HCr3 := Lib.hid Cr3
  clear Cr3
  have Cr4 := fun w => check_any (List.replicate 257 (31 : UInt8)) w (by rw [List.length_replicate]; omega)
  rw [show dCheck (List.replicate 257 (31 : UInt8)) = 5 from chk_rep_long (by omega)] at Cr4
  have HCr4 := Lib.hid Cr4
  clear Cr4
  have Cr5 := fun w => check_any (List.replicate 1 (127 : UInt8)) w (by rw [List.length_replicate]; omega)
  rw [show dCheck (List.replicate 1 (127 : UInt8)) = 4 from by decide] at Cr5
  have HCr5 := Lib.hid Cr5
  clear Cr5
  have Cx := fun w => check_any [32, 126] w (by decide)
  rw [show dCheck [32, 126] = 0 from by decide] at Cx
  have HCx := Lib.hid Cx
  clear Cx
  have U1 := fun w => upper_any [97, 90, 95, 49, 122] w (by decide)
  rw [show upper [97, 90, 95, 49, 122] = [65, 90, 95, 49, 90] from by decide] at U1
  have HU1 := Lib.hid U1
  clear U1
  have L1 := fun w => lower_any [97, 90, 95, 49, 65] w (by decide)
  rw [show lower [97, 90, 95, 49, 65] = [97, 122, 95, 49, 97] from by decide] at L1
  have HL1 := Lib.hid L1
  clear L1
  have K1 := fun w => compare_any [97] [66] w (by decide) (by decide)
  rw [show dComp [97] [66] = -1 from by decide] at K1
  have HK1 := Lib.hid K1
  clear K1
  have K2 := fun w => compare_any [65, 98] [97, 66] w (by decide) (by decide)
  rw [show dComp [65, 98] [97, 66] = 0 from by decide] at K2
  have HK2 := Lib.hid K2
  clear K2
  have K3 := fun w => compare_any [97] [] w (by decide) (by decide)
  rw [show dComp [97] [] = 1 from by decide] at K3
  have HK3 := Lib.hid K3
  clear K3
  have K4 := fun w => compare_any [95] [97] w (by decide) (by decide)
  rw [show dComp [95] [97] = 1 from by decide] at K4
  have HK4 := Lib.hid K4
  clear K4
  have T1 := fun w (h : Mx w m) => trim_any [32, 32, 97, 32, 32, 32, 98, 32] w m (by decide) h
  rw [show trim [32, 32, 97, 32, 32, 32, 98, 32] = [97, 32, 98] from by decide] at T1
  have HT1 := Lib.hid T1
  clear T1
  have T2 := fun w (h : Mx w m) => trim_any [32, 32, 32] w m (by decide) h
  rw [show trim [32, 32, 32] = [] from by decide] at T2
  have HT2 := Lib.hid T2
  clear T2
  have Q1 := fun w (h : Mx w m) => quote_any [97, 34, 98] w m (by decide) h
  rw [show dQuote [97, 34, 98] = ([34, 97, 34, 34, 98, 34], 0) from by decide] at Q1
  have HQ1 := Lib.hid Q1
  clear Q1
  have N1 := fun w => unquote_any [34, 97, 34, 34, 98, 34] w (by decide)
  rw [show dUnq [34, 97, 34, 34, 98, 34] = ([97, 34, 98], 0) from by decide] at N1
  have HN1 := Lib.hid N1
  clear N1
  have N2 := fun w => unquote_any [34, 34, 34, 34] w (by decide)
  rw [show dUnq [34, 34, 34, 34] = ([34], 0) from by decide] at N2
  have HN2 := Lib.hid N2
  clear N2
  have N3 := fun w => unquote_any [34, 34] w (by decide)
  rw [show dUnq [34, 34] = ([], 0) from by decide] at N3
  have HN3 := Lib.hid N3
  clear N3
  have Q2 := fun w (h : Mx w m) => quote_any (List.replicate 257 (120 : UInt8)) w m (by rw [List.length_replicate]; omega) h
  rw [quote_long (show 256 < (List.replicate 257 (120 : UInt8)).length by rw [List.length_replicate]; omega)] at Q2
  have HQ2 := Lib.hid Q2
  clear Q2
  have N4 := fun w => unquote_any ([34] ++ List.replicate 257 (120 : UInt8) ++ [34]) w (by rw [List.length_append, List.length_append, List.length_replicate]; decide)
  rw [unq_rep_long] at N4
  have HN4 := Lib.hid N4
  clear N4
  have N5 := fun w => unquote_any ([34] ++ List.replicate 512 (34 : UInt8) ++ [34]) w (by rw [List.length_append, List.length_append, List.length_replicate]; decide)
  rw [unq_rep_quotes] at N5
  have HN5 := Lib.hid N5
  clear N5
  have Z := ba_size
  have z_r1 : (List.replicate 256 (120 : UInt8)).length ≤ 1000 := by rw [List.length_replicate]; omega
  have z_r2 : (List.replicate 257 (120 : UInt8)).length ≤ 1000 := by rw [List.length_replicate]; omega
  have z_r3 : (List.replicate 1 (31 : UInt8)).length ≤ 1000 := by rw [List.length_replicate]; omega
  have z_r4 : (List.replicate 257 (31 : UInt8)).length ≤ 1000 := by rw [List.length_replicate]; omega
  have z_r5 : (List.replicate 1 (127 : UInt8)).length ≤ 1000 := by rw [List.length_replicate]; omega
  have z_r6 : (List.replicate 512 (34 : UInt8)).length ≤ 1000 := by rw [List.length_replicate]; omega
  have z_r7 : (List.replicate 256 (34 : UInt8)).length ≤ 1000 := by rw [List.length_replicate]; omega
  generalize List.replicate 256 (120 : UInt8) = r1 at *
  generalize List.replicate 257 (120 : UInt8) = r2 at *
  generalize List.replicate 1 (31 : UInt8) = r3 at *
  generalize List.replicate 257 (31 : UInt8) = r4 at *
  generalize List.replicate 1 (127 : UInt8) = r5 at *
  generalize List.replicate 512 (34 : UInt8) = r6 at *
  generalize List.replicate 256 (34 : UInt8) = r7 at *
  have kk : Kept w w := Kept.refl w
  go_enter Tryd.func9, Tryd.ntmps9
  go_wp2_with fail
  refine (HMr1.out _).mono ?_
  rintro e w' ⟨rfl, k1⟩
  have kk := kk.trans k1
  clear k1
  go_wp2_with fail
  refine (HCr1.out _).mono ?_
  rintro e w' ⟨rfl, k1⟩
  have kk := kk.trans k1
  clear k1
  go_wp2_with fail
  refine (HMr2.out _).mono ?_
  rintro e w' ⟨rfl, k1⟩
  have kk := kk.trans k1
  clear k1
  go_wp2_with fail
  refine (HCr2.out _).mono ?_
  rintro e w' ⟨rfl, k1⟩
  have kk := kk.trans k1
  clear k1
  go_wp2_with fail
  refine (HMr3.out _).mono ?_
  rintro e w' ⟨rfl, k1⟩
  have kk := kk.trans k1
  clear k1
  go_wp2_with fail
  refine (HCr3.out _).mono ?_
  rintro e w' ⟨rfl, k1⟩
  have kk := kk.trans k1
  clear k1
  go_wp2_with fail
  refine (HMr4.out _).mono ?_
  rintro e w' ⟨rfl, k1⟩
  have kk := kk.trans k1
  clear k1
  go_wp2_with fail
  refine (HCr4.out _).mono ?_
  rintro e w' ⟨rfl, k1⟩
  have kk := kk.trans k1
  clear k1
  go_wp2_with fail
  refine (HMr5.out _).mono ?_
  rintro e w' ⟨rfl, k1⟩
  have kk := kk.trans k1
  clear k1
  go_wp2_with fail
  refine (HCr5.out _).mono ?_
  rintro e w' ⟨rfl, k1⟩
  have kk := kk.trans k1
  clear k1
  go_wp2_with fail
  refine (HCx.out _).mono ?_
  rintro e w' ⟨rfl, k1⟩
  have kk := kk.trans k1
  clear k1
  go_wp2_with fail
  refine (HU1.out _).mono ?_
  rintro e w' ⟨rfl, k1⟩
  have kk := kk.trans k1
  clear k1
  go_wp2_with fail
  refine (HL1.out _).mono ?_
  rintro e w' ⟨rfl, k1⟩
  have kk := kk.trans k1
  clear k1
  go_wp2_with fail
  refine (HK1.out _).mono ?_
  rintro e w' ⟨rfl, k1⟩
  have kk := kk.trans k1
  clear k1
  go_wp2_with fail
  refine (HK2.out _).mono ?_
  rintro e w' ⟨rfl, k1⟩
  have kk := kk.trans k1
  clear k1
  go_wp2_with fail
  refine (HK3.out _).mono ?_
  rintro e w' ⟨rfl, k1⟩
  have kk := kk.trans k1
  clear k1
  go_wp2_with fail
  refine (HK4.out _).mono ?_
  rintro e w' ⟨rfl, k1⟩
  have kk := kk.trans k1
  clear k1
  have mm := Lib.hid (HM.out.kept kk)
  go_wp2_with fail
  refine (HT1.out _ mm.out).mono ?_
  rintro e w' ⟨rfl, k1⟩
  clear mm
  have kk := kk.trans k1
  clear k1
  have mm := Lib.hid (HM.out.kept kk)
  go_wp2_with fail
  refine (HT2.out _ mm.out).mono ?_
  rintro e w' ⟨rfl, k1⟩
  clear mm
  have kk := kk.trans k1
  clear k1
  have mm := Lib.hid (HM.out.kept kk)
  go_wp2_with fail
  refine (HQ1.out _ mm.out).mono ?_
  rintro e w' ⟨rfl, k1⟩
  clear mm
  have kk := kk.trans k1
  clear k1
  go_wp2_with fail
  refine (HN1.out _).mono ?_
  rintro e w' ⟨rfl, k1⟩
  have kk := kk.trans k1
  clear k1
  go_wp2_with fail
  refine (HN2.out _).mono ?_
  rintro e w' ⟨rfl, k1⟩
  have kk := kk.trans k1
  clear k1
  go_wp2_with fail
  refine (HN3.out _).mono ?_
  rintro e w' ⟨rfl, k1⟩
  have kk := kk.trans k1
  clear k1
  go_wp2_with fail
  go_loopw [119] (fun i wx => ∃ k : Nat, k ≤ 8 ∧ i = .int .i64 k ∧ Kept w wx ∧ Box wx w'.heap.size 9 #[.string ⟨#[34]⟩, .string ⟨#[34, 34, 34]⟩, .string ⟨#[97]⟩, .string ⟨#[]⟩, .string ⟨#[34, 97]⟩, .string ⟨#[97, 34]⟩, .string ⟨#[34, 97, 34, 98, 34]⟩, .string ⟨#[34, 9, 34]⟩]) (fun i _ => 8 - (intOf i).toNat)
  case atStart => exact ⟨0, by omega, rfl, kk.alloc _, (by repeat (first | with_reducible assumption | (with_reducible refine Box.newAt ?_ _ _; (simp; done)) | with_reducible apply Box.drew | with_reducible apply Box.drewN | (with_reducible refine Box.alloc ?_ _) | (with_reducible apply Box.s20) | (with_reducible apply Box.s21) | (with_reducible apply Box.s1) | (with_reducible apply Box.s40) | (with_reducible apply Box.s41) | (with_reducible apply Box.s42) | (with_reducible apply Box.s43) | (with_reducible refine Box.farX ?_ ?_ _; focus (first | (simp; done) | (simp; omega)))))⟩
  case round =>
    obtain ⟨k, hk, rfl, kw2, bs⟩ := hrel
    clear kk
    by_cases c : k < 8
    · obtain ⟨s, s1, s2, s3⟩ := badLit k c
      have hc := (bs.cell k).trans s1
      have NB := fun w => unquote_any s w (by omega)
      rw [s2] at NB
      have HNB := Lib.hid NB
      have BS := Lib.hid bs
      clear NB s1 s2 bs
      go_wp2_with fail
      refine (HNB.out _).mono ?_
      rintro e w2 ⟨rfl, k2⟩
      go_wp2_with fail
      go_roundw
      case rel => exact ⟨k + 1, by omega, by go_num, kw2.trans k2, Box.kept k2 BS.out⟩
      case measure => (simp [intOf]; try omega)
    · obtain rfl : k = 8 := by omega
      have kk := kw2
      clear kw2 bs
      go_wp2_with fail
      refine (HMr2.out _).mono ?_
      rintro e w' ⟨rfl, k1⟩
      have kk := kk.trans k1
      clear k1
      have mm := Lib.hid (HM.out.kept kk)
      go_wp2_with fail
      refine (HQ2.out _ mm.out).mono ?_
      rintro e w' ⟨rfl, k1⟩
      clear mm
      have kk := kk.trans k1
      clear k1
      go_wp2_with fail
      refine (HMr2.out _).mono ?_
      rintro e w' ⟨rfl, k1⟩
      have kk := kk.trans k1
      clear k1
      go_wp2_with fail
      refine (HN4.out _).mono ?_
      rintro e w' ⟨rfl, k1⟩
      have kk := kk.trans k1
      clear k1
      go_wp2_with fail
      refine (HMr6.out _).mono ?_
      rintro e w' ⟨rfl, k1⟩
      have kk := kk.trans k1
      clear k1
      go_wp2_with fail
      refine (HN5.out _).mono ?_
      rintro e w' ⟨rfl, k1⟩
      have kk := kk.trans k1
      clear k1
      go_wp2_with fail
      refine (HMr7.out _).mono ?_
      rintro e w' ⟨rfl, k1⟩
      have kk := kk.trans k1
      clear k1
      go_wp2_with fail
      go_ret
      exact ⟨rfl, kk⟩
end Go.Proofs.YtipkjpcedfokhaaDoor
