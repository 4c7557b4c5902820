/- Layer 15: Call. -/
import Derived.Test.YtipkjpcedfokhaaDoorGLogic7
namespace Go.Proofs.YtipkjpcedfokhaaDoor
set_option linter.unusedVariables false
set_option linter.unusedSimpArgs false
open Go.RowKit Lv

theorem value_any (fn : Nat) (h1 : 20 ≤ fn) (h2 : fn ≤ 30) (b off cap : Nat) (a : Vl) (r : List Vl) (mx : Int) (w : World) (hm : Mx w mx) (hs : ∀ v ∈ a :: r, Small v) (hlo : lo15 fn ≤ r.length + 1) (hhi : r.length + 1 ≤ hi15 fn) (hr : RowV w (some ⟨b, off, none⟩) (a :: r)) (hc : (r.length + 1) ≤ cap) :
    Calls Tryd.prog 89 #[.int .u8 fn, .slice (some ⟨b, off, none⟩) (r.length + 1) cap] w fun e w' => e = .returned (aggV (vLogic fn a r)) ∧ Kept w w' := by
  have hl : r.length + 1 ≤ 100 := by
    have : hi15 fn ≤ 16 := by unfold hi15; split <;> (try split) <;> (try split) <;> omega
    omega
  have sa := hs a (by simp)
  rcases (show fn = 20 ∨ fn = 21 ∨ fn = 22 ∨ fn = 23 ∨ fn = 24 ∨ fn = 25 ∨ fn = 26 ∨ fn = 27 ∨ fn = 28 ∨ fn = 29 ∨ fn = 30 by omega) with rfl | rfl | rfl | rfl | rfl | rfl | rfl | rfl | rfl | rfl | rfl
  · exact value20 b off cap a r mx w hm hl hhi (by have : lo15 20 = 2 := rfl; omega) sa hr hc
  · exact value21 b off cap a r hl hs w hr hc
  · exact value22 b off cap a r hl hs w hr hc
  · exact value23 b off cap a r hl hs w hr hc
  · exact value24 b off cap a r w sa hr hc
  · have h25 : lo15 25 = 2 := rfl
    rw [h25] at hlo
    match r, hlo with
    | c :: r, _ => exact value25 b off cap a c r w hr hc
  · exact value26 b off cap a r w hr hc
  · exact value27 b off cap a r w hr hc
  · exact value28 b off cap a r w hr hc
  · exact value29 b off cap a r w hr hc
  · exact value30 b off cap a r mx w hm hl (by have : lo15 30 = 2 := rfl; omega) sa hr hc

/-- what a Call hands back -/
abbrev callE (p : Vl × Int) : Ending := .returned (.tuple #[aggV p.1, .int .i64 p.2])
theorem call_name {fn : Nat} {l : List Vl} (h : fn < 20 ∨ 30 < fn) : vCall fn l = (blankV, 10) := by unfold vCall; rw [if_pos h]
theorem call_count {fn : Nat} {l : List Vl} (h : ¬ (fn < 20 ∨ 30 < fn)) (g : l.length < lo15 fn ∨ hi15 fn < l.length) : vCall fn l = (blankV, 11) := by unfold vCall; rw [if_neg h, if_pos g]
theorem call_arg {fn : Nat} {l : List Vl} (h : ¬ (fn < 20 ∨ 30 < fn)) (g : ¬ (l.length < lo15 fn ∨ hi15 fn < l.length)) (o : ∃ v ∈ l, vOk v = false) : vCall fn l = (blankV, 2) := by
  unfold vCall
  rw [if_neg h, if_neg g, if_pos]
  obtain ⟨v, hv, e⟩ := o
  exact List.any_eq_true.2 ⟨v, hv, by rw [e]; rfl⟩
theorem call_good {fn : Nat} {a : Vl} {r : List Vl} (h : ¬ (fn < 20 ∨ 30 < fn)) (g : ¬ ((a :: r).length < lo15 fn ∨ hi15 fn < (a :: r).length)) (o : ∀ v ∈ a :: r, vOk v = true) : vCall fn (a :: r) = (vLogic fn a r, 0) := by
  unfold vCall
  rw [if_neg h, if_neg g, if_neg]
  intro e
  obtain ⟨v, hv, e⟩ := List.any_eq_true.1 e
  rw [o v hv] at e; cases e
theorem lo_pos (fn : Nat) : 1 ≤ lo15 fn := by unfold lo15; split <;> omega
theorem hi_small (fn : Nat) : hi15 fn ≤ 16 := by unfold hi15; split <;> (try split) <;> (try split) <;> omega

set_option maxHeartbeats 4000000 in
set_option maxRecDepth 100000 in
theorem call15_any (fn : Nat) (A : Option Addr) (cap : Nat) (l : List Vl) (w : World) (mx : Int) (hm : Mx w mx) (hr : RowV w A l) (hs : ∀ v ∈ l, Small v) (hl : l.length ≤ 1000000) (hc : l.length ≤ cap) :
    Calls Tryd.prog 44 #[.int .u8 fn, .slice A l.length cap] w fun e w' => e = callE (vCall fn l) ∧ Kept w w' := by
  have B0 : Hid (Box (w.alloc (.cells #[.int .u8 0, .int .i64 0, .string ⟨#[]⟩] 35)) w.heap.size 35 (cellsV blankV)) := Lib.hid (Box.new w _ _)
  have bz : Box (w.alloc (.cells #[.int .u8 0, .int .i64 0, .string ⟨#[]⟩] 35)) w.heap.size 35 #[.int .u8 0, .int .i64 0, .string ⟨#[]⟩] := Box.new w _ _
  obtain ⟨p0, p1, p2⟩ := bz.cells3
  clear bz
  by_cases h : fn < 20 ∨ 30 < fn
  · have EF : Hid (callE (vCall fn l) = .returned (.tuple #[aggV blankV, .int .i64 10])) := by
      show _ = _
      rw [call_name h]
    clear hr hs
    rcases h with h | h
    · go_enter Tryd.func44, Tryd.ntmps44
      go_wp2_with fail
      exact bodyPost_ret (v := .tuple #[.agg #[.int .u8 0, .int .i64 0, .string ⟨#[]⟩], .int .i64 10]) (by simp [results, Tryd.results44, go_sem, p0, p1, p2]) rfl ⟨EF.out.symm, (by repeat (first | with_reducible exact Kept.refl _ | with_reducible apply Kept.drew | with_reducible apply Kept.drewN | with_reducible apply Kept.alloc | (with_reducible refine Kept.setCellX ?_ ?_ _; focus (first | (simp; done) | (simp; omega))) | (with_reducible refine Kept.trans ?_ (by assumption))))⟩
    · have h' : ¬ fn < 20 := by omega
      go_enter Tryd.func44, Tryd.ntmps44
      go_wp2_with fail
      exact bodyPost_ret (v := .tuple #[.agg #[.int .u8 0, .int .i64 0, .string ⟨#[]⟩], .int .i64 10]) (by simp [results, Tryd.results44, go_sem, p0, p1, p2]) rfl ⟨EF.out.symm, (by repeat (first | with_reducible exact Kept.refl _ | with_reducible apply Kept.drew | with_reducible apply Kept.drewN | with_reducible apply Kept.alloc | (with_reducible refine Kept.setCellX ?_ ?_ _; focus (first | (simp; done) | (simp; omega))) | (with_reducible refine Kept.trans ?_ (by assumption))))⟩
  · have AR := Lib.hid (fun w => arity_any fn w)
    by_cases g : l.length < lo15 fn ∨ hi15 fn < l.length
    · have EF : Hid (callE (vCall fn l) = .returned (.tuple #[aggV blankV, .int .i64 11])) := by
        show _ = _
        rw [call_count h g]
      generalize lo15 fn = lo at *
      generalize hi15 fn = hi at *
      obtain ⟨n, hn⟩ : ∃ n, n = l.length := ⟨_, rfl⟩
      rw [← hn] at g hc hl ⊢
      have h1 : ¬ fn < 20 := fun c => h (Or.inl c)
      have h2 : ¬ 30 < fn := fun c => h (Or.inr c)
      clear hr hs h hn
      have g : n < lo ∨ (¬ n < lo ∧ hi < n) := by omega
      rcases g with g | ⟨g', g⟩
      · go_enter Tryd.func44, Tryd.ntmps44
        go_wp2_with fail
        refine (AR.out _).mono ?_
        rintro e w1 ⟨rfl, k1⟩
        obtain ⟨i1, q0, q1, q2, g0, g1, g2⟩ := (B0.out.kept k1).three
        have C0 := Lib.hid (B0.out.kept k1)
        have KK : Hid (Kept w w1) := Lib.hid (Kept.trans (by repeat (first | with_reducible exact Kept.refl _ | with_reducible apply Kept.drew | with_reducible apply Kept.drewN | with_reducible apply Kept.alloc | (with_reducible refine Kept.setCellX ?_ ?_ _; focus (first | (simp; done) | (simp; omega))) | (with_reducible refine Kept.trans ?_ (by assumption)))) k1)
        clear k1 p0 p1 p2
        go_wp2_with fail
        refine ret_world (fun wf => Box wf w.heap.size 35 #[.int .u8 0, .int .i64 0, .string ⟨#[]⟩] ∧ Kept w wf) ⟨Box.set3 C0.out, KK.out.set3 (Nat.le_refl _)⟩ ?_
        rintro wf ⟨z0, kf⟩
        obtain ⟨e0, e1, e2⟩ := z0.cells3
        exact bodyPost_ret (v := .tuple #[.agg #[.int .u8 0, .int .i64 0, .string ⟨#[]⟩], .int .i64 11]) (by simp [results, Tryd.results44, go_sem, e0, e1, e2]) rfl ⟨EF.out.symm, kf⟩
      · go_enter Tryd.func44, Tryd.ntmps44
        go_wp2_with fail
        refine (AR.out _).mono ?_
        rintro e w1 ⟨rfl, k1⟩
        obtain ⟨i1, q0, q1, q2, g0, g1, g2⟩ := (B0.out.kept k1).three
        have C0 := Lib.hid (B0.out.kept k1)
        have KK : Hid (Kept w w1) := Lib.hid (Kept.trans (by repeat (first | with_reducible exact Kept.refl _ | with_reducible apply Kept.drew | with_reducible apply Kept.drewN | with_reducible apply Kept.alloc | (with_reducible refine Kept.setCellX ?_ ?_ _; focus (first | (simp; done) | (simp; omega))) | (with_reducible refine Kept.trans ?_ (by assumption)))) k1)
        clear k1 p0 p1 p2
        go_wp2_with fail
        refine ret_world (fun wf => Box wf w.heap.size 35 #[.int .u8 0, .int .i64 0, .string ⟨#[]⟩] ∧ Kept w wf) ⟨Box.set3 C0.out, KK.out.set3 (Nat.le_refl _)⟩ ?_
        rintro wf ⟨z0, kf⟩
        obtain ⟨e0, e1, e2⟩ := z0.cells3
        exact bodyPost_ret (v := .tuple #[.agg #[.int .u8 0, .int .i64 0, .string ⟨#[]⟩], .int .i64 11]) (by simp [results, Tryd.results44, go_sem, e0, e1, e2]) rfl ⟨EF.out.symm, kf⟩
    · obtain ⟨n, hn⟩ : ∃ n, n = l.length := ⟨_, rfl⟩
      have HN := Lib.hid hn
      have G := Lib.hid g
      have H := Lib.hid h
      have HR := Lib.hid hr
      have HS := Lib.hid hs
      have HM := Lib.hid hm
      have h1 : ¬ fn < 20 := fun c => h (Or.inl c)
      have h2 : ¬ 30 < fn := fun c => h (Or.inr c)
      rw [← hn] at g hc hl ⊢
      have g1 : ¬ n < lo15 fn := fun c => g (Or.inl c)
      have g2 : ¬ hi15 fn < n := fun c => g (Or.inr c)
      have LP := Lib.hid (lo_pos fn)
      have HI := Lib.hid (hi_small fn)
      have VA := Lib.hid (fun b off a r w hm hs hlo hhi hr hc => value_any fn (by omega) (by omega) b off cap a r mx w hm hs hlo hhi hr hc)
      have LO : Hid (lo15 fn ≤ n) := Lib.hid (by omega)
      have HH : Hid (n ≤ hi15 fn) := Lib.hid (by omega)
      generalize hlo : lo15 fn = lo at g1 AR
      generalize hhi : hi15 fn = hi at g2 AR
      clear hr hs hm h hn g hlo hhi
      go_enter Tryd.func44, Tryd.ntmps44
      go_wp2_with fail
      refine (AR.out _).mono ?_
      rintro e w1 ⟨rfl, k1⟩
      have C0 := Lib.hid (B0.out.kept k1)
      have KK : Hid (Kept w w1) := Lib.hid (Kept.trans (by repeat (first | with_reducible exact Kept.refl _ | with_reducible apply Kept.drew | with_reducible apply Kept.drewN | with_reducible apply Kept.alloc | (with_reducible refine Kept.setCellX ?_ ?_ _; focus (first | (simp; done) | (simp; omega))) | (with_reducible refine Kept.trans ?_ (by assumption)))) k1)
      clear k1 p0 p1 p2
      go_wp2_with fail
      go_loopw [35] (fun i wr => ∃ k : Nat, k ≤ n ∧ i = .int .i64 k ∧ (∀ v ∈ l.take k, vOk v = true) ∧ Kept w wr ∧ Box wr w.heap.size 35 (cellsV blankV)) (fun i _ => n - (intOf i).toNat)
      case atStart => exact ⟨0, by omega, rfl, fun v hv => by simp at hv, KK.out, C0.out⟩
      case round =>
        obtain ⟨k, hk, rfl, hok, kw, bx⟩ := hrel
        have HOK := Lib.hid hok
        have KW := Lib.hid kw
        have BX := Lib.hid bx
        clear hok kw bx
        by_cases hlt : k < n
        · have hkl : k < l.length := by rw [← HN.out]; exact hlt
          obtain ⟨b, off, rfl, _, x0, x1, x2⟩ := (HR.out.kept KW.out) k hkl
          have hmem : l.getD k blankV ∈ l := by rw [show l.getD k blankV = l[k] by simp [List.getD, hkl]]; exact List.getElem_mem hkl
          have sv := HS.out _ hmem
          have CK := Lib.hid (fun w => vcheck5_any (l.getD k blankV) w sv.1 (by have := sv.2; omega))
          have tk : l.take (k + 1) = l.take k ++ [l.getD k blankV] := by
            rw [List.take_succ_eq_append_getElem hkl, show l.getD k blankV = l[k] by simp [List.getD, hkl]]
          have TK := Lib.hid tk
          have HMEM := Lib.hid hmem
          clear tk sv hmem
          generalize l.getD k blankV = x at *
          by_cases ok : vOk x = true
          · have OK := Lib.hid ok
            rw [chk_yes ok] at CK
            clear ok
            go_wp2_with fail
            refine (CK.out _).mono ?_
            rintro e w2 ⟨rfl, k2⟩
            have k3 := Lib.hid (Kept.trans (Kept.alloc (Kept.refl wr) (.cells #[.int .u8 x.k, .int .i64 x.n, .string ⟨x.t.toArray⟩] 35)) k2)
            clear k2
            go_wp2_with fail
            go_roundw
            case rel =>
              refine ⟨k + 1, by omega, by go_num, fun v hv => ?_, KW.out.trans k3.out, BX.out.kept k3.out⟩
              rw [TK.out] at hv
              rcases List.mem_append.1 hv with hv | hv
              · exact HOK.out v hv
              · rw [List.mem_singleton] at hv; subst hv; exact OK.out
            case measure => (simp [intOf]; try omega)
          · rw [chk_no (by simpa using ok)] at CK
            have EF : Hid (callE (vCall fn l) = .returned (.tuple #[aggV blankV, .int .i64 2])) := by
              show _ = _
              rw [call_arg H.out G.out ⟨x, HMEM.out, by simpa using ok⟩]
            clear ok
            go_wp2_with fail
            refine (CK.out _).mono ?_
            rintro e w2 ⟨rfl, k2⟩
            have k3 := (Kept.trans (Kept.alloc (Kept.refl wr) (.cells #[.int .u8 x.k, .int .i64 x.n, .string ⟨x.t.toArray⟩] 35)) k2)
            have C0 := Lib.hid (BX.out.kept k3)
            have KK := Lib.hid (KW.out.trans k3)
            obtain ⟨i1, q0, q1, q2, g0, g1, g2⟩ := C0.out.three
            clear k2 k3
            go_wp2_with fail
            refine ret_world (fun wf => Box wf w.heap.size 35 #[.int .u8 0, .int .i64 0, .string ⟨#[]⟩] ∧ Kept w wf) ⟨Box.set3 C0.out, KK.out.set3 (Nat.le_refl _)⟩ ?_
            rintro wf ⟨z0, kf⟩
            obtain ⟨e0, e1, e2⟩ := z0.cells3
            exact bodyPost_ret (v := .tuple #[.agg #[.int .u8 0, .int .i64 0, .string ⟨#[]⟩], .int .i64 2]) (by simp [results, Tryd.results44, go_sem, e0, e1, e2]) rfl ⟨EF.out.symm, kf⟩
        · obtain rfl : k = n := by omega
          have e : l.take k = l := List.take_of_length_le (by rw [← HN.out]; omega)
          have HOK : Hid (∀ v ∈ l, vOk v = true) := Lib.hid (by have := HOK.out; rwa [e] at this)
          clear e
          obtain ⟨a, r, hL⟩ : ∃ a r, l = a :: r := by
            cases l with
            | nil => exact absurd HN.out (by have := LO.out; have := LP.out; simp; omega)
            | cons a r => exact ⟨a, r, rfl⟩
          have hn := HN.out
          have hr := HR.out
          have hs := HS.out
          have g := G.out
          have ho := HOK.out
          have EF : Hid (callE (vCall fn l) = .returned (.tuple #[aggV (vLogic fn a r), .int .i64 0])) := by
            show _ = _
            rw [hL] at g ho ⊢
            rw [call_good H.out g ho]
          rw [hL] at hn hr hs
          clear hL g ho HOK HS
          have HR := Lib.hid hr
          have HS := Lib.hid hs
          clear hr hs
          · obtain ⟨b, off, rfl, _, _⟩ := HR.out 0 (by simp)
            have hn2 : k = r.length + 1 := by simpa using hn
            have V := Lib.hid (fun w hm hr => VA.out b off a r w hm HS.out (by rw [← hn2]; exact LO.out) (by rw [← hn2]; exact HH.out) hr (by omega))
            rw [← hn2] at V
            obtain ⟨i1, q0, q1, q2, g0, g1, g2⟩ := BX.out.three
            clear hn hn2
            go_wp2_with fail
            refine (V.out _ (HM.out.kept KW.out) (HR.out.kept KW.out)).mono ?_
            rintro e w2 ⟨rfl, k2⟩
            have C0 := Lib.hid (BX.out.kept k2)
            have KK := Lib.hid (KW.out.trans k2)
            obtain ⟨i1, q0, q1, q2, g0, g1, g2⟩ := C0.out.three
            clear k2
            go_wp2_with fail
            refine ret_world (fun wf => Box wf w.heap.size 35 (cellsV (vLogic fn a r)) ∧ Kept w wf) ⟨Box.set3 C0.out, KK.out.set3 (Nat.le_refl _)⟩ ?_
            rintro wf ⟨z0, kf⟩
            obtain ⟨e0, e1, e2⟩ := z0.cells3
            exact bodyPost_ret (v := .tuple #[aggV (vLogic fn a r), .int .i64 0]) (by simp [results, Tryd.results44, go_sem, e0, e1, e2]) rfl ⟨EF.out.symm, kf⟩
end Go.Proofs.YtipkjpcedfokhaaDoor
