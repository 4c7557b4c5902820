/- The law DecExamples, walked (printed by wip/mklexamples.py). -/
import Derived.Test.YtingopdeckgpaaaWExamples
import Derived.Test.YtingopdeckgpaaaWRef6
namespace Go.Proofs.Ytingopdeckgpaaa
set_option linter.unusedVariables false
set_option linter.unusedSimpArgs false
open Go.RowKit Lv

theorem held2_alloc {W a : World} {g : Nat} {u v : Value} (h : Kept W a ∧ a.cell? ⟨g, 0, none⟩ = some u ∧ a.cell? ⟨g, 1, none⟩ = some v) (o : Obj) : Kept W (a.alloc o) ∧ (a.alloc o).cell? ⟨g, 0, none⟩ = some u ∧ (a.alloc o).cell? ⟨g, 1, none⟩ = some v := held2_next h ((Kept.refl a).alloc o)
theorem held2_alloc' {W a : World} {g : Nat} {u v : Value} (h : Kept W a.drew ∧ a.drew.cell? ⟨g, 0, none⟩ = some u ∧ a.drew.cell? ⟨g, 1, none⟩ = some v) (o : Obj) : Kept W (a.alloc o).drew ∧ (a.alloc o).drew.cell? ⟨g, 0, none⟩ = some u ∧ (a.alloc o).drew.cell? ⟨g, 1, none⟩ = some v := held2_next h ((Kept.refl a.drew).alloc o)
theorem nil_row (w : World) : Row w none [] := fun i hi => by simp at hi

set_option maxHeartbeats 40000000 in
set_option maxRecDepth 100000 in
theorem DecExamples_walk (w : World) : Calls Try.prog 14 #[] w fun e w' => e = .returned (.bool true) ∧ Below w.heap.size w w' := by
  go_enter Try.func14, Try.ntmps14
  go_wp2_with fail
  have bn : Box (w.alloc (Obj.cells #[.int .i64 0, .bool true] 46)) w.heap.size 46 #[.int .i64 0, .bool true] := (by repeat (first | with_reducible assumption | (with_reducible refine Box.newAt ?_ _ _; (simp; done)) | with_reducible apply Box.drew | with_reducible apply Box.drewN | (with_reducible refine Box.alloc ?_ _) | (with_reducible apply Box.s20) | (with_reducible apply Box.s21) | (with_reducible apply Box.s1) | (with_reducible apply Box.s40) | (with_reducible apply Box.s41) | (with_reducible apply Box.s42) | (with_reducible apply Box.s43) | (with_reducible refine Box.farX ?_ ?_ _; focus (first | (simp; done) | (simp; omega)))))
  have kw : Kept w (w.alloc (Obj.cells #[.int .i64 0, .bool true] 46)) := (by repeat (first | with_reducible exact Kept.refl _ | with_reducible apply Kept.drew | with_reducible apply Kept.drewN | with_reducible apply Kept.alloc | (with_reducible refine Kept.setCellX ?_ ?_ _; focus (first | (simp; done) | (simp; omega))) | (with_reducible refine Kept.trans ?_ (by assumption))))
  generalize (w.alloc (Obj.cells #[.int .i64 0, .bool true] 46)) = wr at *
  as_aux_lemma =>
    have bn_0 := Box.c0 bn; have bn_1 := Box.c1 bn
    go_region_held3 (fun x => Kept wr x ∧ x.cell? ⟨w.heap.size, 0, none⟩ = some (.int .i64 0) ∧ x.cell? ⟨w.heap.size, 1, none⟩ = some (.bool true))
      (first | (with_reducible exact held2_start (by assumption) (by assumption)) | (with_reducible exact held2_next (by assumption) (by assumption)) | (with_reducible exact held2_alloc (by assumption) _) | (with_reducible exact held2_alloc' (by assumption) _))
      (first | (go_at_call 15; (with_reducible refine (ex0 _).mono ?_); rintro e w' ⟨rfl, hk'⟩) | (go_at_call 17; (with_reducible refine (ex1 _).mono ?_); rintro e w' ⟨rfl, hk'⟩) | (go_at_call 15; (with_reducible refine (ex2 _).mono ?_); rintro e w' ⟨rfl, hk'⟩) | (go_at_call 15; (with_reducible refine (ex3 _).mono ?_); rintro e w' ⟨rfl, hk'⟩) | (go_at_call 15; (with_reducible refine (ex4 _).mono ?_); rintro e w' ⟨rfl, hk'⟩) | (go_at_call 19; (with_reducible refine (ex5 _).mono ?_); rintro e w' ⟨rfl, hk'⟩) | (go_at_call 46; (with_reducible refine (got_yes _ _).mono ?_); rintro e w' ⟨rfl, hk'⟩) | (go_at_call 46; (with_reducible refine (got_no _).mono ?_); rintro e w' ⟨rfl, hk'⟩))
    rename_i hh
    have kw := kw.trans hh.1
    have bn := Box.kept hh.1 bn
    clear hh bn_0 bn_1
    go_wp2_with fail
    as_aux_lemma =>
      refine (ex6 _).mono ?_
      rintro e w' ⟨rfl, hk'⟩
      have kw := kw.trans hk'
      have bn := Box.kept hk' bn
      clear hk'
      go_wp2_with fail
      refine (got_yes _ _).mono ?_
      rintro e w' ⟨rfl, hk'⟩
      have kw := kw.trans hk'
      have bn := Box.kept hk' bn
      clear hk'
      go_wp2_with fail
      refine (ex7 _).mono ?_
      rintro e w' ⟨rfl, hk'⟩
      have kw := kw.trans hk'
      have bn := Box.kept hk' bn
      clear hk'
      go_wp2_with fail
      refine (got_yes _ _).mono ?_
      rintro e w' ⟨rfl, hk'⟩
      have kw := kw.trans hk'
      have bn := Box.kept hk' bn
      clear hk'
      go_wp2_with fail
      refine (ex8 _).mono ?_
      rintro e w' ⟨rfl, hk'⟩
      have kw := kw.trans hk'
      have bn := Box.kept hk' bn
      clear hk'
      go_wp2_with fail
      refine (got_yes _ _).mono ?_
      rintro e w' ⟨rfl, hk'⟩
      have kw := kw.trans hk'
      have bn := Box.kept hk' bn
      clear hk'
      go_wp2_with fail
      refine (ex9 _).mono ?_
      rintro e w' ⟨rfl, hk'⟩
      have kw := kw.trans hk'
      have bn := Box.kept hk' bn
      clear hk'
      go_wp2_with fail
      refine (got_yes _ _).mono ?_
      rintro e w' ⟨rfl, hk'⟩
      have kw := kw.trans hk'
      have bn := Box.kept hk' bn
      clear hk'
      go_wp2_with fail
      as_aux_lemma =>
        have bn_0 := Box.c0 bn; have bn_1 := Box.c1 bn
        go_region_held3 (fun x => Kept w' x ∧ x.cell? ⟨w.heap.size, 0, none⟩ = some (.int .i64 0) ∧ x.cell? ⟨w.heap.size, 1, none⟩ = some (.bool true))
          (first | (with_reducible exact held2_start (by assumption) (by assumption)) | (with_reducible exact held2_next (by assumption) (by assumption)) | (with_reducible exact held2_alloc (by assumption) _) | (with_reducible exact held2_alloc' (by assumption) _))
          (first | (go_at_call 23; (with_reducible refine (ex10 _).mono ?_); rintro e w' ⟨rfl, hk'⟩) | (go_at_call 23; (with_reducible refine (ex11 _).mono ?_); rintro e w' ⟨rfl, hk'⟩) | (go_at_call 23; (with_reducible refine (ex12 _).mono ?_); rintro e w' ⟨rfl, hk'⟩) | (go_at_call 23; (with_reducible refine (ex13 _).mono ?_); rintro e w' ⟨rfl, hk'⟩) | (go_at_call 23; (with_reducible refine (ex14 _).mono ?_); rintro e w' ⟨rfl, hk'⟩) | (go_at_call 46; (with_reducible refine (got_yes _ _).mono ?_); rintro e w' ⟨rfl, hk'⟩) | (go_at_call 46; (with_reducible refine (got_no _).mono ?_); rintro e w' ⟨rfl, hk'⟩))
        rename_i hh
        have kw := kw.trans hh.1
        have bn := Box.kept hh.1 bn
        clear hh bn_0 bn_1
        go_wp2_with fail
        as_aux_lemma =>
          refine (ex15 _).mono ?_
          rintro e w' ⟨rfl, hk'⟩
          have kw := kw.trans hk'
          have bn := Box.kept hk' bn
          clear hk'
          go_wp2_with fail
          refine (got_yes _ _).mono ?_
          rintro e w' ⟨rfl, hk'⟩
          have kw := kw.trans hk'
          have bn := Box.kept hk' bn
          clear hk'
          go_wp2_with fail
          refine (ex16 _).mono ?_
          rintro e w' ⟨rfl, hk'⟩
          have kw := kw.trans hk'
          have bn := Box.kept hk' bn
          clear hk'
          go_wp2_with fail
          refine (got_yes _ _).mono ?_
          rintro e w' ⟨rfl, hk'⟩
          have kw := kw.trans hk'
          have bn := Box.kept hk' bn
          clear hk'
          go_wp2_with fail
          refine (ex17 _).mono ?_
          rintro e w' ⟨rfl, hk'⟩
          have kw := kw.trans hk'
          have bn := Box.kept hk' bn
          clear hk'
          go_wp2_with fail
          refine (got_yes _ _).mono ?_
          rintro e w' ⟨rfl, hk'⟩
          have kw := kw.trans hk'
          have bn := Box.kept hk' bn
          clear hk'
          go_wp2_with fail
          refine (ex18 _).mono ?_
          rintro e w' ⟨rfl, hk'⟩
          have kw := kw.trans hk'
          have bn := Box.kept hk' bn
          clear hk'
          go_wp2_with fail
          refine (got_yes _ _).mono ?_
          rintro e w' ⟨rfl, hk'⟩
          have kw := kw.trans hk'
          have bn := Box.kept hk' bn
          clear hk'
          go_wp2_with fail
          refine (ex19 _).mono ?_
          rintro e w' ⟨rfl, hk'⟩
          have kw := kw.trans hk'
          have bn := Box.kept hk' bn
          clear hk'
          go_wp2_with fail
          refine (got_yes _ _).mono ?_
          rintro e w' ⟨rfl, hk'⟩
          have kw := kw.trans hk'
          have bn := Box.kept hk' bn
          clear hk'
          go_wp2_with fail
          as_aux_lemma =>
            have bn_0 := Box.c0 bn; have bn_1 := Box.c1 bn
            go_region_held3 (fun x => Kept w' x ∧ x.cell? ⟨w.heap.size, 0, none⟩ = some (.int .i64 0) ∧ x.cell? ⟨w.heap.size, 1, none⟩ = some (.bool true))
              (first | (with_reducible exact held2_start (by assumption) (by assumption)) | (with_reducible exact held2_next (by assumption) (by assumption)) | (with_reducible exact held2_alloc (by assumption) _) | (with_reducible exact held2_alloc' (by assumption) _))
              (first | (go_at_call 33; (with_reducible refine (ex20 _).mono ?_); rintro e w' ⟨rfl, hk'⟩) | (go_at_call 33; (with_reducible refine (ex21 _).mono ?_); rintro e w' ⟨rfl, hk'⟩) | (go_at_call 33; (with_reducible refine (ex22 _).mono ?_); rintro e w' ⟨rfl, hk'⟩) | (go_at_call 35; (with_reducible refine (ex23 _).mono ?_); rintro e w' ⟨rfl, hk'⟩) | (go_at_call 37; (with_reducible refine (ex24 _).mono ?_); rintro e w' ⟨rfl, hk'⟩) | (go_at_call 37; (with_reducible refine (ex25 _).mono ?_); rintro e w' ⟨rfl, hk'⟩) | (go_at_call 37; (with_reducible refine (ex26 _).mono ?_); rintro e w' ⟨rfl, hk'⟩) | (go_at_call 46; (with_reducible refine (got_yes _ _).mono ?_); rintro e w' ⟨rfl, hk'⟩) | (go_at_call 46; (with_reducible refine (got_no _).mono ?_); rintro e w' ⟨rfl, hk'⟩))
            rename_i hh
            have kw := kw.trans hh.1
            have bn := Box.kept hh.1 bn
            clear hh bn_0 bn_1
            go_wp2_with fail
            as_aux_lemma =>
              have bn_0 := Box.c0 bn; have bn_1 := Box.c1 bn
              go_region_held3 (fun x => Kept w' x ∧ x.cell? ⟨w.heap.size, 0, none⟩ = some (.int .i64 0) ∧ x.cell? ⟨w.heap.size, 1, none⟩ = some (.bool true))
                (first | (with_reducible exact held2_start (by assumption) (by assumption)) | (with_reducible exact held2_next (by assumption) (by assumption)) | (with_reducible exact held2_alloc (by assumption) _) | (with_reducible exact held2_alloc' (by assumption) _))
                (first | (go_at_call 30; (with_reducible refine (ex27 _).mono ?_); rintro e w' ⟨rfl, hk'⟩) | (go_at_call 30; (with_reducible refine (ex28 _).mono ?_); rintro e w' ⟨rfl, hk'⟩) | (go_at_call 30; (with_reducible refine (ex29 _).mono ?_); rintro e w' ⟨rfl, hk'⟩) | (go_at_call 46; (with_reducible refine (got_yes _ _).mono ?_); rintro e w' ⟨rfl, hk'⟩) | (go_at_call 46; (with_reducible refine (got_no _).mono ?_); rintro e w' ⟨rfl, hk'⟩))
              rename_i hh
              have kw := kw.trans hh.1
              have bn := Box.kept hh.1 bn
              clear hh bn_0 bn_1
              go_wp2_with fail
              as_aux_lemma =>
                have bn_0 := Box.c0 bn; have bn_1 := Box.c1 bn
                go_region_held3 (fun x => Kept w' x ∧ x.cell? ⟨w.heap.size, 0, none⟩ = some (.int .i64 0) ∧ x.cell? ⟨w.heap.size, 1, none⟩ = some (.bool true))
                  (first | (with_reducible exact held2_start (by assumption) (by assumption)) | (with_reducible exact held2_next (by assumption) (by assumption)) | (with_reducible exact held2_alloc (by assumption) _) | (with_reducible exact held2_alloc' (by assumption) _))
                  (first | (go_at_call 32; (with_reducible refine (ex30 _).mono ?_); rintro e w' ⟨rfl, hk'⟩) | (go_at_call 32; (with_reducible refine (ex31 _).mono ?_); rintro e w' ⟨rfl, hk'⟩) | (go_at_call 32; (with_reducible refine (ex32 _).mono ?_); rintro e w' ⟨rfl, hk'⟩) | (go_at_call 32; (with_reducible refine (ex33 _).mono ?_); rintro e w' ⟨rfl, hk'⟩) | (go_at_call 32; (with_reducible refine (ex34 _).mono ?_); rintro e w' ⟨rfl, hk'⟩) | (go_at_call 32; (with_reducible refine (ex35 _).mono ?_); rintro e w' ⟨rfl, hk'⟩) | (go_at_call 32; (with_reducible refine (ex36 _).mono ?_); rintro e w' ⟨rfl, hk'⟩) | (go_at_call 32; (with_reducible refine (ex37 _).mono ?_); rintro e w' ⟨rfl, hk'⟩) | (go_at_call 46; (with_reducible refine (got_yes _ _).mono ?_); rintro e w' ⟨rfl, hk'⟩) | (go_at_call 46; (with_reducible refine (got_no _).mono ?_); rintro e w' ⟨rfl, hk'⟩))
                rename_i hh
                have kw := kw.trans hh.1
                have bn := Box.kept hh.1 bn
                clear hh bn_0 bn_1
                go_wp2_with fail
                as_aux_lemma =>
                  have bn_0 := Box.c0 bn; have bn_1 := Box.c1 bn
                  go_region_held3 (fun x => Kept w' x ∧ x.cell? ⟨w.heap.size, 0, none⟩ = some (.int .i64 0) ∧ x.cell? ⟨w.heap.size, 1, none⟩ = some (.bool true))
                    (first | (with_reducible exact held2_start (by assumption) (by assumption)) | (with_reducible exact held2_next (by assumption) (by assumption)) | (with_reducible exact held2_alloc (by assumption) _) | (with_reducible exact held2_alloc' (by assumption) _))
                    (first | (go_at_call 26; (with_reducible refine (ex38 _ _ _ ?hr).mono ?_); (case hr => (refine Row.box (t := 2) (cs := #[.int .i64 9223372036854770000, .int .i64 10000, .int .i64 (-9223372036854770000)]) (by repeat (first | with_reducible assumption | (with_reducible refine Box.newAt ?_ _ _; (simp; done)) | with_reducible apply Box.drew | with_reducible apply Box.drewN | (with_reducible refine Box.alloc ?_ _) | (with_reducible apply Box.s20) | (with_reducible apply Box.s21) | (with_reducible apply Box.s1) | (with_reducible apply Box.s40) | (with_reducible apply Box.s41) | (with_reducible apply Box.s42) | (with_reducible apply Box.s43) | (with_reducible refine Box.farX ?_ ?_ _; focus (first | (simp; done) | (simp; omega))))) ?_; intro i hi; match i, hi with | 0, _ => rfl | 1, _ => rfl | 2, _ => rfl)); rintro e w' ⟨rfl, hk'⟩) | (go_at_call 28; (with_reducible refine (ex39 _ _ _ ?hr).mono ?_); (case hr => (refine Row.box (t := 2) (cs := #[.int .i64 10000, .int .i64 20000, .int .i64 20000]) (by repeat (first | with_reducible assumption | (with_reducible refine Box.newAt ?_ _ _; (simp; done)) | with_reducible apply Box.drew | with_reducible apply Box.drewN | (with_reducible refine Box.alloc ?_ _) | (with_reducible apply Box.s20) | (with_reducible apply Box.s21) | (with_reducible apply Box.s1) | (with_reducible apply Box.s40) | (with_reducible apply Box.s41) | (with_reducible apply Box.s42) | (with_reducible apply Box.s43) | (with_reducible refine Box.farX ?_ ?_ _; focus (first | (simp; done) | (simp; omega))))) ?_; intro i hi; match i, hi with | 0, _ => rfl | 1, _ => rfl | 2, _ => rfl)); rintro e w' ⟨rfl, hk'⟩) | (go_at_call 28; (with_reducible refine (ex40 _ _ _ ?hr).mono ?_); (case hr => (refine Row.box (t := 2) (cs := #[.int .i64 1, .int .i64 0]) (by repeat (first | with_reducible assumption | (with_reducible refine Box.newAt ?_ _ _; (simp; done)) | with_reducible apply Box.drew | with_reducible apply Box.drewN | (with_reducible refine Box.alloc ?_ _) | (with_reducible apply Box.s20) | (with_reducible apply Box.s21) | (with_reducible apply Box.s1) | (with_reducible apply Box.s40) | (with_reducible apply Box.s41) | (with_reducible apply Box.s42) | (with_reducible apply Box.s43) | (with_reducible refine Box.farX ?_ ?_ _; focus (first | (simp; done) | (simp; omega))))) ?_; intro i hi; match i, hi with | 0, _ => rfl | 1, _ => rfl)); rintro e w' ⟨rfl, hk'⟩) | (go_at_call 28; (with_reducible refine (ex41 _ _ _ (nil_row _)).mono ?_); rintro e w' ⟨rfl, hk'⟩) | (go_at_call 26; (with_reducible refine (ex42 _ _ _ (nil_row _)).mono ?_); rintro e w' ⟨rfl, hk'⟩) | (go_at_call 46; (with_reducible refine (got_yes _ _).mono ?_); rintro e w' ⟨rfl, hk'⟩) | (go_at_call 46; (with_reducible refine (got_no _).mono ?_); rintro e w' ⟨rfl, hk'⟩))
                  rename_i hh
                  have kw := kw.trans hh.1
                  have bn := Box.kept hh.1 bn
                  clear hh bn_0 bn_1
                  go_wp2_with fail
                  as_aux_lemma =>
                    refine (ex_p0 _).mono ?_
                    rintro e w' ⟨rfl, hk'⟩
                    have kw := kw.trans hk'
                    clear hk'
                    go_wp2_with fail
                    refine (ex_p1 _).mono ?_
                    rintro e w' ⟨rfl, hk'⟩
                    have kw := kw.trans hk'
                    clear hk'
                    go_wp2_with fail
                    go_loopw [362] (fun i wx => ∃ k : Nat, k ≤ 8 ∧ i = .int .i64 k ∧ Kept w wx ∧ Box wx w'.heap.size 9 #[.string ⟨#[49, 46]⟩, .string ⟨#[46, 53]⟩, .string ⟨#[43, 49]⟩, .string ⟨#[]⟩, .string ⟨#[45]⟩, .string ⟨#[49, 32]⟩, .string ⟨#[49, 46, 50, 46, 51]⟩, .string ⟨#[49, 101, 53]⟩]) (fun i _ => 8 - (intOf i).toNat)
                    case atStart => exact ⟨0, by omega, rfl, kw.alloc _, (by repeat (first | with_reducible assumption | (with_reducible refine Box.newAt ?_ _ _; (simp; done)) | with_reducible apply Box.drew | with_reducible apply Box.drewN | (with_reducible refine Box.alloc ?_ _) | (with_reducible apply Box.s20) | (with_reducible apply Box.s21) | (with_reducible apply Box.s1) | (with_reducible apply Box.s40) | (with_reducible apply Box.s41) | (with_reducible apply Box.s42) | (with_reducible apply Box.s43) | (with_reducible refine Box.farX ?_ ?_ _; focus (first | (simp; done) | (simp; omega)))))⟩
                    case round =>
                      obtain ⟨k, hk, rfl, kw2, bs⟩ := hrel
                      clear kw
                      by_cases c : k < 8
                      · have hs : ∃ s, (#[.string ⟨#[49, 46]⟩, .string ⟨#[46, 53]⟩, .string ⟨#[43, 49]⟩, .string ⟨#[]⟩, .string ⟨#[45]⟩, .string ⟨#[49, 32]⟩, .string ⟨#[49, 46, 50, 46, 51]⟩, .string ⟨#[49, 101, 53]⟩] : Array Value)[k]? = some (.string s) ∧ (∀ w, Calls Try.prog 42 #[.string s] w fun e w' => e = .returned (.tuple #[.int .i64 0, .int .i64 4]) ∧ Kept w w') :=
                          match k, c with
                          | 0, _ => ⟨_, rfl, ex_q0⟩
                          | 1, _ => ⟨_, rfl, ex_q1⟩
                          | 2, _ => ⟨_, rfl, ex_q2⟩
                          | 3, _ => ⟨_, rfl, ex_q3⟩
                          | 4, _ => ⟨_, rfl, ex_q4⟩
                          | 5, _ => ⟨_, rfl, ex_q5⟩
                          | 6, _ => ⟨_, rfl, ex_q6⟩
                          | 7, _ => ⟨_, rfl, ex_q7⟩
                        obtain ⟨s, hs1, hs2⟩ := hs
                        have hc := (bs.cell k).trans hs1
                        have BS := Lib.hid bs
                        have HP := Lib.hid hs2
                        clear bs hs1 hs2
                        go_wp2_with fail
                        refine (HP.out _).mono ?_
                        rintro e w1 ⟨rfl, k1⟩
                        go_wp2_with fail
                        go_roundw
                        case rel => exact ⟨k + 1, by omega, by go_num, kw2.trans k1, BS.out.kept k1⟩
                        case measure => (simp [intOf]; try omega)
                      · obtain rfl : k = 8 := by omega
                        clear bs
                        go_wp2_with fail
                        refine (ex_p2 _).mono ?_
                        rintro e w1 ⟨rfl, k1⟩
                        have kw3 := kw2.trans k1
                        go_wp2_with fail
                        refine (ex_f0 _).mono ?_
                        rintro e w2 ⟨rfl, k2⟩
                        go_wp2_with fail
                        refine (ex_f1 _).mono ?_
                        rintro e w3 ⟨rfl, k3⟩
                        go_wp2_with fail
                        refine (ex_f2 _).mono ?_
                        rintro e w4 ⟨rfl, k4⟩
                        go_wp2_with fail
                        refine (ex_f3 _).mono ?_
                        rintro e w5 ⟨rfl, k5⟩
                        go_wp2_with fail
                        go_ret
                        exact ⟨rfl, (((kw3.trans k2).trans k3).trans k4).trans k5⟩
end Go.Proofs.Ytingopdeckgpaaa
