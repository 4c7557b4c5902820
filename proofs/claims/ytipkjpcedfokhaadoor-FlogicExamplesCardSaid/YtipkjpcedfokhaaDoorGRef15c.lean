/- The reference of layer 15: Call. -/
import Derived.Test.YtipkjpcedfokhaaDoorGRef15b
import Derived.Test.YtipkjpcedfokhaaDoorGLogic8
namespace Go.Proofs.YtipkjpcedfokhaaDoor
set_option linter.unusedVariables false
set_option linter.unusedSimpArgs false
open Go.RowKit Lv

theorem rConvs_get (fn : Nat) : ∀ (l : List Vl) (i k : Nat), k < l.length → (rConvs fn i l)[k]? = some (rConv fn (i + k) (l.getD k blankV))
  | [], _, _, h => by simp at h
  | v :: l, i, 0, _ => rfl
  | v :: l, i, k + 1, h => by
    have := rConvs_get fn l (i + 1) k (by simpa using h)
    rw [show i + 1 + k = i + (k + 1) by omega] at this
    exact this
theorem small_conv {fn i : Nat} {v : Vl} (h : Small v) : Small (rConv fn i v) := by
  unfold rConv
  split
  · exact small_bool h
  · split
    · exact small_bool h
    · split
      · exact small_num h
      · exact h
/-- a block below an own row, behind an append to that row -/
theorem OwnV.box {w w' : World} {base p : Nat} {u : Value} {l : List Vl} {T : TypeId} {cs : Array Value} (h : OwnV w base u l) (hp : p < base) (g : w.grownBy w' u.ownBlock) (b : Box w p T cs) : Box w' p T cs := by
  refine (g.block p b.inside (fun e => ?_)).trans b
  have := (World.ownsRow.lt h p e.symm).1
  omega
theorem all_false {l : List Vl} (h : l.all vOk = false) : ∃ v ∈ l, vOk v = false := by
  obtain ⟨v, hv, e⟩ := List.all_eq_false.1 h
  exact ⟨v, hv, by simpa using e⟩
theorem rlogic_error {fn : Nat} {l c : List Vl} {e : Vl} (hc : c = rConvs fn 0 l) {k : Nat} (h : firstE (c.take k) = none) (hk : c[k]? = some e) (he : isE e = true) : rLogic fn l = e := by
  unfold rLogic
  have hl : k < c.length := by
    rcases Nat.lt_or_ge k c.length with x | x
    · exact x
    · rw [List.getElem?_eq_none x] at hk; cases hk
  have : firstE c = some e := by
    have e2 : c = c.take k ++ e :: c.drop (k + 1) := by
      conv => lhs; rw [← List.take_append_drop k c]
      rw [List.drop_eq_getElem_cons hl]
      rw [List.getElem?_eq_getElem hl] at hk
      rw [Option.some.inj hk]
    rw [e2, firstE_append_none h, firstE_cons_yes he]
  rw [← hc, this]
theorem rlogic_value {fn : Nat} {l c : List Vl} (hc : c = rConvs fn 0 l) (h : firstE c = none) : rLogic fn l = rVal fn c := by
  unfold rLogic
  rw [← hc, h]

set_option maxHeartbeats 4000000 in
set_option maxRecDepth 100000 in
theorem rcall15_any (fn : Nat) (A : Option Addr) (cap : Nat) (l : List Vl) (w : World) (hr : RowV w A l) (hs : ∀ v ∈ l, Small v) (hl : l.length ≤ 1000000) (hc : l.length ≤ cap) :
    Calls Tryd.prog 45 #[.int .u8 fn, .slice A l.length cap] w fun e w' => e = callE (vCall fn l) ∧ Kept w w' := by
  have B0 : Hid (Box (w.alloc (.cells #[.int .u8 0, .int .i64 0, .string ⟨#[]⟩] 35)) w.heap.size 35 (cellsV blankV)) := Lib.hid (Box.new w _ _)
  have bz : Box (w.alloc (.cells #[.int .u8 0, .int .i64 0, .string ⟨#[]⟩] 35)) w.heap.size 35 #[.int .u8 0, .int .i64 0, .string ⟨#[]⟩] := Box.new w _ _
  obtain ⟨p0, p1, p2⟩ := bz.cells3
  clear bz
  by_cases h : fn < 20 ∨ 30 < fn
  · have EF : Hid (callE (vCall fn l) = .returned (.tuple #[aggV blankV, .int .i64 10])) := by
      show _ = _
      rw [call_name h]
    clear hr hs
    rcases h with h | h
    · go_enter Tryd.func45, Tryd.ntmps45
      go_wp2_with fail
      exact bodyPost_ret (v := .tuple #[.agg #[.int .u8 0, .int .i64 0, .string ⟨#[]⟩], .int .i64 10]) (by simp [results, Tryd.results45, go_sem, p0, p1, p2]) rfl ⟨EF.out.symm, (by repeat (first | with_reducible exact Kept.refl _ | with_reducible apply Kept.drew | with_reducible apply Kept.drewN | with_reducible apply Kept.alloc | (with_reducible refine Kept.setCellX ?_ ?_ _; focus (first | (simp; done) | (simp; omega))) | (with_reducible refine Kept.trans ?_ (by assumption))))⟩
    · have h' : ¬ fn < 20 := by omega
      go_enter Tryd.func45, Tryd.ntmps45
      go_wp2_with fail
      exact bodyPost_ret (v := .tuple #[.agg #[.int .u8 0, .int .i64 0, .string ⟨#[]⟩], .int .i64 10]) (by simp [results, Tryd.results45, go_sem, p0, p1, p2]) rfl ⟨EF.out.symm, (by repeat (first | with_reducible exact Kept.refl _ | with_reducible apply Kept.drew | with_reducible apply Kept.drewN | with_reducible apply Kept.alloc | (with_reducible refine Kept.setCellX ?_ ?_ _; focus (first | (simp; done) | (simp; omega))) | (with_reducible refine Kept.trans ?_ (by assumption))))⟩
  obtain ⟨n, hn⟩ : ∃ n, n = l.length := ⟨_, rfl⟩
  have CT := Lib.hid (fun w => count13_any fn (by omega) (by omega) n w)
  have VD := Lib.hid (fun w hr => valid13_any A cap l w hr hs hl)
  rw [← hn] at VD
  have h1 : ¬ fn < 20 := fun c => h (Or.inl c)
  have h2 : ¬ 30 < fn := fun c => h (Or.inr c)
  have HR := Lib.hid hr
  have HN := Lib.hid hn
  have HS := Lib.hid hs
  have H := Lib.hid h
  by_cases g : l.length < lo15 fn ∨ hi15 fn < l.length
  · have EF : Hid (callE (vCall fn l) = .returned (.tuple #[aggV blankV, .int .i64 11])) := by
      show _ = _
      rw [call_count h g]
    rw [← hn] at g hl hc ⊢
    rw [decide_eq_false (by omega)] at CT
    clear hr hs hn h g
    go_enter Tryd.func45, Tryd.ntmps45
    go_wp2_with fail
    refine (CT.out _).mono ?_
    rintro e w1 ⟨rfl, k1⟩
    have C0 := Lib.hid (B0.out.kept k1)
    obtain ⟨i1, q0, q1, q2, g0, g1, g2⟩ := C0.out.three
    have KK : Hid (Kept w w1) := Lib.hid (Kept.trans (by repeat (first | with_reducible exact Kept.refl _ | with_reducible apply Kept.drew | with_reducible apply Kept.drewN | with_reducible apply Kept.alloc | (with_reducible refine Kept.setCellX ?_ ?_ _; focus (first | (simp; done) | (simp; omega))) | (with_reducible refine Kept.trans ?_ (by assumption)))) k1)
    clear k1 p0 p1 p2
    go_wp2_with fail
    refine ret_world (fun wf => Box wf w.heap.size 35 #[.int .u8 0, .int .i64 0, .string ⟨#[]⟩] ∧ Kept w wf) ⟨Box.set3 C0.out, KK.out.set3 (Nat.le_refl _)⟩ ?_
    rintro wf ⟨z0, kf⟩
    obtain ⟨e0, e1, e2⟩ := z0.cells3
    exact bodyPost_ret (v := .tuple #[.agg #[.int .u8 0, .int .i64 0, .string ⟨#[]⟩], .int .i64 11]) (by simp [results, Tryd.results45, go_sem, e0, e1, e2]) rfl ⟨EF.out.symm, kf⟩
  have G := Lib.hid g
  rw [← hn] at g hl hc ⊢
  rw [decide_eq_true (by omega)] at CT
  cases ok : l.all vOk with
  | false =>
    have EF : Hid (callE (vCall fn l) = .returned (.tuple #[aggV blankV, .int .i64 2])) := by
      show _ = _
      rw [call_arg h G.out (all_false ok)]
    rw [ok] at VD
    clear hr hs hn h g ok
    go_enter Tryd.func45, Tryd.ntmps45
    go_wp2_with fail
    refine (CT.out _).mono ?_
    rintro e w1 ⟨rfl, k1⟩
    have KK : Hid (Kept w w1) := Lib.hid (Kept.trans (by repeat (first | with_reducible exact Kept.refl _ | with_reducible apply Kept.drew | with_reducible apply Kept.drewN | with_reducible apply Kept.alloc | (with_reducible refine Kept.setCellX ?_ ?_ _; focus (first | (simp; done) | (simp; omega))) | (with_reducible refine Kept.trans ?_ (by assumption)))) k1)
    have C0 := Lib.hid (B0.out.kept k1)
    clear k1 p0 p1 p2
    go_wp2_with fail
    refine (VD.out _ (HR.out.kept KK.out)).mono ?_
    rintro e w2 ⟨rfl, k2⟩
    have C0 := Lib.hid (C0.out.kept k2)
    have KK := Lib.hid (KK.out.trans k2)
    obtain ⟨i1, q0, q1, q2, g0, g1, g2⟩ := C0.out.three
    clear k2
    go_wp2_with fail
    refine ret_world (fun wf => Box wf w.heap.size 35 #[.int .u8 0, .int .i64 0, .string ⟨#[]⟩] ∧ Kept w wf) ⟨Box.set3 C0.out, KK.out.set3 (Nat.le_refl _)⟩ ?_
    rintro wf ⟨z0, kf⟩
    obtain ⟨e0, e1, e2⟩ := z0.cells3
    exact bodyPost_ret (v := .tuple #[.agg #[.int .u8 0, .int .i64 0, .string ⟨#[]⟩], .int .i64 2]) (by simp [results, Tryd.results45, go_sem, e0, e1, e2]) rfl ⟨EF.out.symm, kf⟩
  | true =>
    rw [ok] at VD
    have HOK : Hid (∀ v ∈ l, vOk v = true) := Lib.hid (List.all_eq_true.1 ok)
    have LP := lo_pos fn
    have HI := hi_small fn
    obtain ⟨a, r, hL⟩ : ∃ a r, l = a :: r := by
      cases l with
      | nil => exfalso; simp at hn; omega
      | cons a r => exact ⟨a, r, rfl⟩
    have hv : vCall fn l = (vLogic fn a r, 0) := by
      have go := G.out
      have ho := HOK.out
      rw [hL] at go ho ⊢
      exact call_good h go ho
    obtain ⟨b, off, rfl, hbb, x0, x1, x2⟩ := hr 0 (by rw [← hn]; omega)
    rw [show l.getD 0 blankV = a by rw [hL]; rfl] at x0 x1 x2
    simp only [Nat.zero_mul, Nat.add_zero] at x0 x1 x2
    have HV := Lib.hid hv
    have HL := Lib.hid hL
    have GG := Lib.hid g
    have n1 : 1 ≤ n := by omega
    have n16 : n ≤ 16 := by omega
    have HA := Lib.hid (show l.getD 0 blankV = a by rw [hL]; rfl)
    clear hr hs hn h g ok hL
    by_cases c26 : fn = 26
    · subst c26
      have ie := isE_beq a
      have EF : Hid (callE (vCall 26 l) = .returned (.tuple #[aggV (vTruth (isE a)), .int .i64 0])) := by
        show _ = _
        rw [HV.out]; rfl
      have T := Lib.hid (fun w => rtruth_any (isE a) w)
      clear hv
      generalize isE a = z at *
      go_enter Tryd.func45, Tryd.ntmps45
      go_wp2_with fail
      refine (CT.out _).mono ?_
      rintro e w1 ⟨rfl, k1⟩
      have KK : Hid (Kept w w1) := Lib.hid (Kept.trans (by repeat (first | with_reducible exact Kept.refl _ | with_reducible apply Kept.drew | with_reducible apply Kept.drewN | with_reducible apply Kept.alloc | (with_reducible refine Kept.setCellX ?_ ?_ _; focus (first | (simp; done) | (simp; omega))) | (with_reducible refine Kept.trans ?_ (by assumption)))) k1)
      have C0 := Lib.hid (B0.out.kept k1)
      clear k1 p0 p1 p2
      go_wp2_with fail
      refine (VD.out _ (HR.out.kept KK.out)).mono ?_
      rintro e w2 ⟨rfl, k2⟩
      have C0 := Lib.hid (C0.out.kept k2)
      have KK := Lib.hid (KK.out.trans k2)
      obtain ⟨i1, q0, q1, q2, g0, g1, g2⟩ := C0.out.three
      obtain ⟨hb2, y0, y1, y2⟩ := (HR.out.kept KK.out).nth 0 (by rw [← HN.out]; omega)
      rw [HA.out] at y0 y1 y2
      simp only [Nat.zero_mul, Nat.add_zero] at y0 y1 y2
      clear k2 x0 x1 x2
      go_wp2_with fail
      refine (T.out _).mono ?_
      rintro e w3 ⟨rfl, k3⟩
      have C0 := Lib.hid (C0.out.kept k3)
      have KK := Lib.hid (KK.out.trans k3)
      clear k3
      obtain ⟨i1, q0, q1, q2, g0, g1, g2⟩ := C0.out.three
      go_wp2_with fail
      refine ret_world (fun wf => Box wf w.heap.size 35 (cellsV (vTruth z)) ∧ Kept w wf) ⟨Box.set3 C0.out, KK.out.set3 (Nat.le_refl _)⟩ ?_
      rintro wf ⟨z0, kf⟩
      obtain ⟨e0, e1, e2⟩ := z0.cells3
      exact bodyPost_ret (v := .tuple #[aggV (vTruth z), .int .i64 0]) (by simp [results, Tryd.results45, go_sem, e0, e1, e2]) rfl ⟨EF.out.symm, kf⟩
    by_cases c25 : fn = 25
    · subst c25
      have ie := isE_beq a
      have n2 : 2 ≤ n := by have h25 : lo15 25 = 2 := rfl; have := GG.out; omega
      obtain ⟨c, r', hr'⟩ : ∃ c r', r = c :: r' := by
        have hn := HN.out
        rw [HL.out] at hn
        cases r with
        | nil => simp at hn; omega
        | cons c r' => exact ⟨c, r', rfl⟩
      have HC := Lib.hid (show l.getD 1 blankV = c by rw [HL.out, hr']; rfl)
      cases he : isE a with
      | true =>
        rw [he] at ie
        have EF : Hid (callE (vCall 25 l) = .returned (.tuple #[aggV c, .int .i64 0])) := by
          show _ = _
          rw [HV.out, hr']
          show Ending.returned (.tuple #[aggV (vLogic 25 a (c :: r')), .int .i64 0]) = _
          have : vLogic 25 a (c :: r') = c := by unfold vLogic; rw [if_neg (by omega), if_pos rfl, he]; rfl
          rw [this]
        clear hv he hr'
        go_enter Tryd.func45, Tryd.ntmps45
        go_wp2_with fail
        refine (CT.out _).mono ?_
        rintro e w1 ⟨rfl, k1⟩
        have KK : Hid (Kept w w1) := Lib.hid (Kept.trans (by repeat (first | with_reducible exact Kept.refl _ | with_reducible apply Kept.drew | with_reducible apply Kept.drewN | with_reducible apply Kept.alloc | (with_reducible refine Kept.setCellX ?_ ?_ _; focus (first | (simp; done) | (simp; omega))) | (with_reducible refine Kept.trans ?_ (by assumption)))) k1)
        have C0 := Lib.hid (B0.out.kept k1)
        clear k1 p0 p1 p2
        go_wp2_with fail
        refine (VD.out _ (HR.out.kept KK.out)).mono ?_
        rintro e w2 ⟨rfl, k2⟩
        have C0 := Lib.hid (C0.out.kept k2)
        have KK := Lib.hid (KK.out.trans k2)
        obtain ⟨i1, q0, q1, q2, g0, g1, g2⟩ := C0.out.three
        obtain ⟨hb2, y0, y1, y2⟩ := (HR.out.kept KK.out).nth 0 (by rw [← HN.out]; omega)
        rw [HA.out] at y0 y1 y2
        simp only [Nat.zero_mul, Nat.add_zero] at y0 y1 y2
        clear k2 x0 x1 x2
        obtain ⟨_, z0, z1, z2⟩ := (HR.out.kept KK.out).nth 1 (by rw [← HN.out]; omega)
        rw [HC.out] at z0 z1 z2
        simp only [Nat.one_mul] at z0 z1 z2
        go_wp2_with fail
        refine ret_world (fun wf => Box wf w.heap.size 35 (cellsV c) ∧ Kept w wf) ⟨Box.set3 C0.out, KK.out.set3 (Nat.le_refl _)⟩ ?_
        rintro wf ⟨z0, kf⟩
        obtain ⟨e0, e1, e2⟩ := z0.cells3
        exact bodyPost_ret (v := .tuple #[aggV c, .int .i64 0]) (by simp [results, Tryd.results45, go_sem, e0, e1, e2]) rfl ⟨EF.out.symm, kf⟩
      | false =>
        rw [he] at ie
        have EF : Hid (callE (vCall 25 l) = .returned (.tuple #[aggV a, .int .i64 0])) := by
          show _ = _
          rw [HV.out, hr']
          show Ending.returned (.tuple #[aggV (vLogic 25 a (c :: r')), .int .i64 0]) = _
          have : vLogic 25 a (c :: r') = a := by unfold vLogic; rw [if_neg (by omega), if_pos rfl, he]; rfl
          rw [this]
        clear hv he hr'
        go_enter Tryd.func45, Tryd.ntmps45
        go_wp2_with fail
        refine (CT.out _).mono ?_
        rintro e w1 ⟨rfl, k1⟩
        have KK : Hid (Kept w w1) := Lib.hid (Kept.trans (by repeat (first | with_reducible exact Kept.refl _ | with_reducible apply Kept.drew | with_reducible apply Kept.drewN | with_reducible apply Kept.alloc | (with_reducible refine Kept.setCellX ?_ ?_ _; focus (first | (simp; done) | (simp; omega))) | (with_reducible refine Kept.trans ?_ (by assumption)))) k1)
        have C0 := Lib.hid (B0.out.kept k1)
        clear k1 p0 p1 p2
        go_wp2_with fail
        refine (VD.out _ (HR.out.kept KK.out)).mono ?_
        rintro e w2 ⟨rfl, k2⟩
        have C0 := Lib.hid (C0.out.kept k2)
        have KK := Lib.hid (KK.out.trans k2)
        obtain ⟨i1, q0, q1, q2, g0, g1, g2⟩ := C0.out.three
        obtain ⟨hb2, y0, y1, y2⟩ := (HR.out.kept KK.out).nth 0 (by rw [← HN.out]; omega)
        rw [HA.out] at y0 y1 y2
        simp only [Nat.zero_mul, Nat.add_zero] at y0 y1 y2
        clear k2 x0 x1 x2
        go_wp2_with fail
        refine ret_world (fun wf => Box wf w.heap.size 35 (cellsV a) ∧ Kept w wf) ⟨Box.set3 C0.out, KK.out.set3 (Nat.le_refl _)⟩ ?_
        rintro wf ⟨z0, kf⟩
        obtain ⟨e0, e1, e2⟩ := z0.cells3
        exact bodyPost_ret (v := .tuple #[aggV a, .int .i64 0]) (by simp [results, Tryd.results45, go_sem, e0, e1, e2]) rfl ⟨EF.out.symm, kf⟩
    obtain ⟨cs, hcs⟩ : ∃ cs, cs = rConvs fn 0 l := ⟨_, rfl⟩
    have lc : cs.length = n := by rw [hcs, rConvs_length, ← HN.out]
    have EV : Hid (callE (vCall fn l) = .returned (.tuple #[aggV (rLogic fn l), .int .i64 0])) := by
      show _ = _
      rw [HV.out]
      have := logic_same fn a r (by omega) (by omega) c25 c26 (by have := GG.out; rw [HN.out, HL.out] at this; omega)
      rw [this, ← HL.out]
    have CG : Hid (∀ k, k < n → cs[k]? = some (rConv fn k (l.getD k blankV))) := fun k hk => by
      have := rConvs_get fn l 0 k (by rw [← HN.out]; exact hk)
      rw [Nat.zero_add] at this
      rw [hcs]; exact this
    have SC : Hid (∀ v ∈ cs, Small v) := fun v hv => by
      obtain ⟨k, hk, e⟩ := List.getElem_of_mem hv
      have hkn : k < n := by rw [← lc]; exact hk
      have g := CG.out k hkn
      rw [List.getElem?_eq_getElem hk] at g
      have hkl : k < l.length := by rw [← HN.out]; exact hkn
      rw [← e, Option.some.inj g]
      refine small_conv (HS.out _ ?_)
      rw [show l.getD k blankV = l[k] by simp [List.getD, hkl]]; exact List.getElem_mem hkl
    have CV := Lib.hid (fun i v w hs => conv15_any fn (by omega) (by omega) c25 c26 i v w hs)
    have RV := Lib.hid (fun A cap w hr hc => rval_any fn (by omega) (by omega) c25 c26 A cap cs w hr (by omega) hc SC.out (by omega) (fun h20 => by
      have g := GG.out
      subst h20
      have l20 : lo15 20 = 2 := rfl
      have m20 : hi15 20 = 3 := rfl
      omega))
    have HCS := Lib.hid hcs
    have LC := Lib.hid lc
    have b25 : ((fn : Int) == 25) = false := by rw [beq_eq_false_iff_ne]; omega
    have b26 : ((fn : Int) == 26) = false := by rw [beq_eq_false_iff_ne]; omega
    clear hv hcs lc c25 c26
    rw [LC.out] at RV
    go_enter Tryd.func45, Tryd.ntmps45
    go_wp2_with fail
    refine (CT.out _).mono ?_
    rintro e w1 ⟨rfl, k1⟩
    have KK : Hid (Kept w w1) := Lib.hid (Kept.trans (by repeat (first | with_reducible exact Kept.refl _ | with_reducible apply Kept.drew | with_reducible apply Kept.drewN | with_reducible apply Kept.alloc | (with_reducible refine Kept.setCellX ?_ ?_ _; focus (first | (simp; done) | (simp; omega))) | (with_reducible refine Kept.trans ?_ (by assumption)))) k1)
    have C0 := Lib.hid (B0.out.kept k1)
    clear k1 p0 p1 p2
    go_wp2_with fail
    refine (VD.out _ (HR.out.kept KK.out)).mono ?_
    rintro e w2 ⟨rfl, k2⟩
    have C0 := Lib.hid (C0.out.kept k2)
    have KK := Lib.hid (KK.out.trans k2)
    obtain ⟨i1, q0, q1, q2, g0, g1, g2⟩ := C0.out.three
    obtain ⟨hb2, y0, y1, y2⟩ := (HR.out.kept KK.out).nth 0 (by rw [← HN.out]; omega)
    rw [HA.out] at y0 y1 y2
    simp only [Nat.zero_mul, Nat.add_zero] at y0 y1 y2
    clear k2 x0 x1 x2
    clear y0 y1 y2 q0 q1 q2 g0 g1 g2
    go_wp2_with fail
    go_loopw [6, 7] (fun u i wr => ∃ k : Nat, k ≤ n ∧ i = .int .i64 k ∧ OwnV wr (w.heap.size + 1) u (cs.take k) ∧ firstE (cs.take k) = none ∧ Kept w wr ∧ Box wr w.heap.size 35 (cellsV blankV)) (fun _ i _ => n - (intOf i).toNat)
    case atStart => exact ⟨0, by omega, rfl, by rw [List.take_zero]; exact OwnV.nil _ _, rfl, KK.out, C0.out⟩
    case round =>
      obtain ⟨k, hk, rfl, own, hf, kw, bx⟩ := hrel
      have OWN := Lib.hid own
      have HF := Lib.hid hf
      have KW := Lib.hid kw
      have BX := Lib.hid bx
      have isz := bx.inside
      clear own hf kw bx
      by_cases hlt : k < n
      · have hkl : k < l.length := by rw [← HN.out]; exact hlt
        obtain ⟨hbr, x0, x1, x2⟩ := (HR.out.kept KW.out).nth k hkl
        have sx : Small (l.getD k blankV) := HS.out _ (by rw [show l.getD k blankV = l[k] by simp [List.getD, hkl]]; exact List.getElem_mem hkl)
        have C1 := Lib.hid (fun w => CV.out k (l.getD k blankV) w sx)
        have CK := Lib.hid (CG.out k hlt)
        clear sx
        generalize rConv fn k (l.getD k blankV) = y at *
        generalize l.getD k blankV = x at *
        have ie := isE_beq y
        cases he : isE y with
        | true =>
          rw [he] at ie
          have EF : Hid (callE (vCall fn l) = .returned (.tuple #[aggV y, .int .i64 0])) := by
            show _ = _
            rw [EV.out, rlogic_error HCS.out HF.out CK.out he]
          clear he
          go_wp2_with fail
          refine (C1.out _).mono ?_
          rintro e w3 ⟨rfl, k3⟩
          have C0 := Lib.hid (BX.out.kept k3)
          have KK := Lib.hid (KW.out.trans k3)
          clear k3
          obtain ⟨i1, q0, q1, q2, g0, g1, g2⟩ := C0.out.three
          go_wp2_with fail
          refine ret_world (fun wf => Box wf w.heap.size 35 (cellsV y) ∧ Kept w wf) ⟨(Box.set3 C0.out).alloc _, (KK.out.set3 (Nat.le_refl _)).alloc _⟩ ?_
          rintro wf ⟨z0, kf⟩
          obtain ⟨e0, e1, e2⟩ := z0.cells3
          exact bodyPost_ret (v := .tuple #[aggV y, .int .i64 0]) (by simp [results, Tryd.results45, go_sem, e0, e1, e2]) rfl ⟨EF.out.symm, kf⟩
        | false =>
          rw [he] at ie
          have HE := Lib.hid he
          clear he
          go_wp2_with fail
          refine (C1.out _).mono ?_
          rintro e w3 ⟨rfl, k3⟩
          have kz := (k3.alloc (.cells #[.int .u8 y.k, .int .i64 y.n, .string ⟨y.t.toArray⟩] 35)).alloc (.cells #[.int .u8 y.k, .int .i64 y.n, .string ⟨y.t.toArray⟩] 35)
          have ho := Lib.hid (OWN.out.kept kz)
          have bz := Lib.hid (BX.out.kept kz)
          have KZ := Lib.hid (KW.out.trans kz)
          have rz : RowV ((w3.alloc (.cells #[.int .u8 y.k, .int .i64 y.n, .string ⟨y.t.toArray⟩] 35)).alloc (.cells #[.int .u8 y.k, .int .i64 y.n, .string ⟨y.t.toArray⟩] 35)) (some ⟨w3.heap.size + 1, 0, none⟩) [y] := RowV.box (t := 35) (Box.newAt (by simp) _ _) rfl
          have RZ := Lib.hid rz
          have sz3 : w.heap.size + 1 ≤ w3.heap.size := by have := k3.size; omega
          have LT : Hid ((cs.take k).length + 1 ≤ 1000000) := Lib.hid (by rw [List.length_take]; omega)
          clear kz rz k3
          go_wp2_with (refine append_vals rfl _ _ rfl (w.heap.size + 1) _ _ [y] rfl ho.out _ _ rfl RZ.out (by simp only [List.length_singleton]; exact LT.out) (by simp; omega) ?_; intro v1 w5 o1 gr)
          have k5 := ho.out.grown (a := w) (by omega) KZ.out gr
          have b5 := ho.out.box (Nat.lt_succ_self _) gr bz.out
          have tk : cs.take (k + 1) = cs.take k ++ [y] := by
            have hkc : k < cs.length := by rw [LC.out]; exact hlt
            have g := CK.out
            rw [List.getElem?_eq_getElem hkc] at g
            rw [List.take_succ_eq_append_getElem hkc, Option.some.inj g]
          go_roundw
          case rel => exact ⟨k + 1, by omega, by go_num, by rw [tk]; exact o1, by rw [tk, firstE_snoc, HF.out, HE.out]; rfl, k5, b5⟩
          case measure => (simp [intOf]; try omega)
      · obtain rfl : k = n := by omega
        have e : cs.take k = cs := List.take_of_length_le (by rw [LC.out]; omega)
        have hf := HF.out
        rw [e] at hf
        have EF : Hid (callE (vCall fn l) = .returned (.tuple #[aggV (rVal fn cs), .int .i64 0])) := by
          show _ = _
          rw [EV.out, rlogic_value HCS.out hf]
        have own := OWN.out
        rw [e] at own
        obtain ⟨A', cap', rfl, row, hcap, _⟩ := own.row
        rw [LC.out] at hcap ⊢
        have V := Lib.hid (RV.out A' cap' wr row hcap)
        clear hf own row e hcap
        go_wp2_with fail
        refine V.out.mono ?_
        rintro e w3 ⟨rfl, k3⟩
        have C0 := Lib.hid (BX.out.kept k3)
        have KK := Lib.hid (KW.out.trans k3)
        clear k3
        obtain ⟨i1, q0, q1, q2, g0, g1, g2⟩ := C0.out.three
        go_wp2_with fail
        refine ret_world (fun wf => Box wf w.heap.size 35 (cellsV (rVal fn cs)) ∧ Kept w wf) ⟨Box.set3 C0.out, KK.out.set3 (Nat.le_refl _)⟩ ?_
        rintro wf ⟨z0, kf⟩
        obtain ⟨e0, e1, e2⟩ := z0.cells3
        exact bodyPost_ret (v := .tuple #[aggV (rVal fn cs), .int .i64 0]) (by simp [results, Tryd.results45, go_sem, e0, e1, e2]) rfl ⟨EF.out.symm, kf⟩
end Go.Proofs.YtipkjpcedfokhaaDoor
