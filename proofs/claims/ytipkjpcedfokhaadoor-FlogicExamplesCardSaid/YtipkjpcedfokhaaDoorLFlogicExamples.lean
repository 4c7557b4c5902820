/- The law FlogicExamples, walked (printed by wip/mkex15.py). -/
import Derived.Test.YtipkjpcedfokhaaDoorLFlogicCalls
import Derived.Test.YtipkjpcedfokhaaDoorRTyped4
import Derived.Test.YtipkjpcedfokhaaDoorGValues
namespace Go.Proofs.YtipkjpcedfokhaaDoor
set_option linter.unusedVariables false
set_option linter.unusedSimpArgs false
open Go.RowKit Lv

theorem maxLen_ge : (1000 ≤ maxLen) = True := by simp [maxLen]
theorem wide_yes : Wide ⟨2, 1, []⟩ := wide_of (by simp) (by simp) (by simp)
theorem wide_five : Wide ⟨1, 50000, []⟩ := wide_of (by simp) (by simp) (by simp)
theorem wide_blank : Wide ⟨0, 0, []⟩ := wide_of (by simp) (by simp) (by simp)
theorem wides {l : List Vl} (h : ∀ v ∈ l, Wide v) : ∀ v ∈ l, Wide v := h
theorem calls15_row (fn : Nat) (hfn : fn ≤ 255) (b off cap : Nat) (l : List Vl) (w : World) (mx : Int) (hm : Mx w mx) (hr : RowV w (some ⟨b, off, none⟩) l) (hc : l.length ≤ cap) (hmx : cap ≤ maxLen) (hw : ∀ v ∈ l, Wide v) :
    Calls Tryd.prog 12 #[.int .u8 fn, .slice (some ⟨b, off, none⟩) l.length cap] w fun e w' => e = .returned (.bool true) ∧ Kept w w' :=
  FlogicCalls_walk fn (some ⟨b, off, none⟩) l.length cap l w (by unfold Lit.wf; rw [Bool.and_eq_true, decide_eq_true_eq, decide_eq_true_eq]; exact ⟨(by show (0 : Int) ≤ fn; omega), (by show (fn : Int) ≤ 255; omega)⟩) ⟨hr, rfl, hc, hmx, hw, (fun h => by cases h), (fun a h _ => by cases h; exact ⟨b, off, rfl⟩)⟩ mx hm
theorem enter_calls (args : Array Value) (w : World) : (callFunc 12 args).run Tryd.prog w = .ok (.enter 12 args) w := by go_simp
theorem frame_to {P : Program} {L : Array Oper} {Q : Exit → Act → World → Prop} {vs : Nat → Value} {l : List Oper} {a0 : Act} {rest : List Oper} {w : World} (b : Act) (er : rest = []) (e : putAll vs l 0 a0 = b) (h : wpList P L Q [] b w) : wpList P L Q rest (putAll vs l 0 a0) w := by subst er; subst e; exact h
/-- what each operation of the great test yields -/
def VX (l : List Vl) (g cap i fn : Nat) : Nat → Value → World → Prop
  | 0, v, w => v = .int .u8 fn
  | 1, v, w => v = .slice (some ⟨g, 0, none⟩) 35 cap
  | 2, v, w => v = .int .i64 i
  | 3, v, w => v = .int .i64 i
  | 4, v, w => v = .int .i64 ((i : Int) + 1)
  | 5, v, w => v = .slice (some ⟨g, 0 + i * 3, none⟩) 1 (cap - i)
  | 6, v, w => v = .bool true
  | 7, v, w => v = .bool false
  | 8, v, w => v = .bool false
  | 9, v, w => v = .int .u8 fn
  | 10, v, w => v = aggV ⟨2, 1, []⟩
  | 11, v, w => v = .slice (some ⟨g, 0, none⟩) 35 cap
  | 12, v, w => v = .int .i64 i
  | 13, v, w => v = .pointer (some ⟨g, 0 + i * 3, none⟩)
  | 14, v, w => v = aggV (l.getD i blankV)
  | 15, v, w => RowIs [⟨2, 1, []⟩, (l.getD i blankV)] v w
  | 16, v, w => v = .bool true
  | 17, v, w => v = .bool false
  | 18, v, w => v = .bool false
  | 19, v, w => v = .bool false
  | 20, v, w => v = .int .u8 fn
  | 21, v, w => v = .slice (some ⟨g, 0, none⟩) 35 cap
  | 22, v, w => v = .int .i64 i
  | 23, v, w => v = .pointer (some ⟨g, 0 + i * 3, none⟩)
  | 24, v, w => v = aggV (l.getD i blankV)
  | 25, v, w => v = aggV ⟨1, 50000, []⟩
  | 26, v, w => RowIs [(l.getD i blankV), ⟨1, 50000, []⟩] v w
  | 27, v, w => v = .bool true
  | 28, v, w => v = .bool false
  | 29, v, w => v = .bool false
  | 30, v, w => v = .bool false
  | 31, v, w => v = .int .u8 fn
  | 32, v, w => v = .slice (some ⟨g, 0, none⟩) 35 cap
  | 33, v, w => v = .int .i64 i
  | 34, v, w => v = .pointer (some ⟨g, 0 + i * 3, none⟩)
  | 35, v, w => v = aggV (l.getD i blankV)
  | 36, v, w => v = .slice (some ⟨g, 0, none⟩) 35 cap
  | 37, v, w => v = .slice (some ⟨g, 0, none⟩) 35 cap
  | 38, v, w => v = .int .i64 ((35 : Nat) : Int)
  | 39, v, w => v = .int .i64 34
  | 40, v, w => v = .int .i64 i
  | 41, v, w => v = .int .i64 ((34 - i : Nat) : Int)
  | 42, v, w => v = .pointer (some ⟨g, 0 + (34 - i) * 3, none⟩)
  | 43, v, w => v = aggV (l.getD (34 - i) blankV)
  | 44, v, w => RowIs [(l.getD i blankV), (l.getD (34 - i) blankV)] v w
  | 45, v, w => v = .bool true
  | 46, v, w => v = .bool false
  | 47, v, w => v = .bool false
  | 48, v, w => v = .bool false
  | 49, v, w => v = .int .u8 fn
  | 50, v, w => v = aggV ⟨2, 1, []⟩
  | 51, v, w => v = aggV ⟨1, 50000, []⟩
  | 52, v, w => v = .slice (some ⟨g, 0, none⟩) 35 cap
  | 53, v, w => v = .int .i64 i
  | 54, v, w => v = .pointer (some ⟨g, 0 + i * 3, none⟩)
  | 55, v, w => v = aggV (l.getD i blankV)
  | 56, v, w => RowIs [⟨2, 1, []⟩, ⟨1, 50000, []⟩, (l.getD i blankV)] v w
  | 57, v, w => v = .bool true
  | 58, v, w => v = .bool false
  | 59, v, w => v = .bool false
  | 60, v, w => v = .bool false
  | 61, v, w => v = .int .u8 fn
  | 62, v, w => v = .slice (some ⟨g, 0, none⟩) 35 cap
  | 63, v, w => v = .int .i64 i
  | 64, v, w => v = .pointer (some ⟨g, 0 + i * 3, none⟩)
  | 65, v, w => v = aggV (l.getD i blankV)
  | 66, v, w => v = aggV ⟨1, 50000, []⟩
  | 67, v, w => v = aggV ⟨2, 1, []⟩
  | 68, v, w => RowIs [(l.getD i blankV), ⟨1, 50000, []⟩, ⟨2, 1, []⟩] v w
  | 69, v, w => v = .bool true
  | 70, v, w => v = .bool false
  | 71, v, w => v = .bool false
  | 72, v, w => v = .bool false
  | 73, v, w => v = .int .u8 fn
  | 74, v, w => v = aggV ⟨0, 0, []⟩
  | 75, v, w => v = .slice (some ⟨g, 0, none⟩) 35 cap
  | 76, v, w => v = .int .i64 i
  | 77, v, w => v = .pointer (some ⟨g, 0 + i * 3, none⟩)
  | 78, v, w => v = aggV (l.getD i blankV)
  | 79, v, w => v = aggV ⟨1, 50000, []⟩
  | 80, v, w => RowIs [⟨0, 0, []⟩, (l.getD i blankV), ⟨1, 50000, []⟩] v w
  | 81, v, w => v = .bool true
  | 82, v, w => v = .bool false
  | 83, v, w => v = .bool false
  | _, _, _ => True
theorem VX_kept (l : List Vl) (g cap i fn : Nat) : ∀ (j : Nat) (v : Value) (w w' : World), VX l g cap i fn j v w → Kept w w' → VX l g cap i fn j v w' := by
  intro j v w w' h k
  match j, h with
  | 0, h => exact h
  | 1, h => exact h
  | 2, h => exact h
  | 3, h => exact h
  | 4, h => exact h
  | 5, h => exact h
  | 6, h => exact h
  | 7, h => exact h
  | 8, h => exact h
  | 9, h => exact h
  | 10, h => exact h
  | 11, h => exact h
  | 12, h => exact h
  | 13, h => exact h
  | 14, h => exact h
  | 15, h => exact RowIs.kept h k
  | 16, h => exact h
  | 17, h => exact h
  | 18, h => exact h
  | 19, h => exact h
  | 20, h => exact h
  | 21, h => exact h
  | 22, h => exact h
  | 23, h => exact h
  | 24, h => exact h
  | 25, h => exact h
  | 26, h => exact RowIs.kept h k
  | 27, h => exact h
  | 28, h => exact h
  | 29, h => exact h
  | 30, h => exact h
  | 31, h => exact h
  | 32, h => exact h
  | 33, h => exact h
  | 34, h => exact h
  | 35, h => exact h
  | 36, h => exact h
  | 37, h => exact h
  | 38, h => exact h
  | 39, h => exact h
  | 40, h => exact h
  | 41, h => exact h
  | 42, h => exact h
  | 43, h => exact h
  | 44, h => exact RowIs.kept h k
  | 45, h => exact h
  | 46, h => exact h
  | 47, h => exact h
  | 48, h => exact h
  | 49, h => exact h
  | 50, h => exact h
  | 51, h => exact h
  | 52, h => exact h
  | 53, h => exact h
  | 54, h => exact h
  | 55, h => exact h
  | 56, h => exact RowIs.kept h k
  | 57, h => exact h
  | 58, h => exact h
  | 59, h => exact h
  | 60, h => exact h
  | 61, h => exact h
  | 62, h => exact h
  | 63, h => exact h
  | 64, h => exact h
  | 65, h => exact h
  | 66, h => exact h
  | 67, h => exact h
  | 68, h => exact RowIs.kept h k
  | 69, h => exact h
  | 70, h => exact h
  | 71, h => exact h
  | 72, h => exact h
  | 73, h => exact h
  | 74, h => exact h
  | 75, h => exact h
  | 76, h => exact h
  | 77, h => exact h
  | 78, h => exact h
  | 79, h => exact h
  | 80, h => exact RowIs.kept h k
  | 81, h => exact h
  | 82, h => exact h
  | 83, h => exact h
  | j + 84, h => trivial

/-- the row of all kinds, and two values -/
structure Ex (l : List Vl) (g p : Nat) (w : World) : Prop where
  row : RowV w (some ⟨g, 0, none⟩) l
  yes : Box w p 35 #[.int .u8 2, .int .i64 1, .string ⟨#[]⟩]
  five : Box w (p + 1) 35 #[.int .u8 1, .int .i64 50000, .string ⟨#[]⟩]
theorem Ex.kept {l : List Vl} {g p : Nat} {w w' : World} (h : Ex l g p w) (k : Kept w w') : Ex l g p w' := ⟨h.row.kept k, h.yes.kept k, h.five.kept k⟩
theorem NewRow.block {w w' : World} {l : List Vl} {e : Ending} (h : NewRow w l e w') (hl : 0 < l.length) : ∃ g cap, e = .returned (.slice (some ⟨g, 0, none⟩) l.length cap) ∧ RowV w' (some ⟨g, 0, none⟩) l ∧ l.length ≤ cap ∧ cap ≤ maxLen ∧ Kept w w' := by
  obtain ⟨v, rfl, hown, hk⟩ := h
  rcases hown.2 with ⟨rfl, h0⟩ | ⟨g, cap, cur, rfl, hb, hh, h4, h5, h6, h7⟩
  · omega
  · exact ⟨g, cap, rfl, RowV.box (t := 35) (cs := cur) hh h7, h4, h5, hk⟩
set_option maxRecDepth 100000 in
theorem made_blanks (n : Nat) (hn : n < 18) (w : World) : (Instr.makeSlice 41 (.int .i64 n) (.int .i64 n)).run Tryd.prog w = .ok (.slice (some ⟨w.heap.size, 0, none⟩) n n) (w.alloc (.cells (flatV (List.replicate n blankV)).toArray 35)) := by
  obtain ⟨i, hi, hz, h1, h2⟩ := info_val
  have h := run_make (P := Tryd.prog) w 41 35 i _ Tryd.underlying41 hi hz .i64 .i64 n n (by omega) (Int.le_refl _) (by rw [h2]; omega) (by omega)
  rw [h1] at h
  simp only [Int.toNat_natCast] at h
  rw [h]
  congr 3
  rcases (show n = 0 ∨ n = 1 ∨ n = 2 ∨ n = 3 ∨ n = 4 ∨ n = 5 ∨ n = 6 ∨ n = 7 ∨ n = 8 ∨ n = 9 ∨ n = 10 ∨ n = 11 ∨ n = 12 ∨ n = 13 ∨ n = 14 ∨ n = 15 ∨ n = 16 ∨ n = 17 by omega) with rfl | rfl | rfl | rfl | rfl | rfl | rfl | rfl | rfl | rfl | rfl | rfl | rfl | rfl | rfl | rfl | rfl | rfl <;> kernel_rfl

theorem calls15_blank (fn m : Nat) (hfn : fn ≤ 255) (hm18 : m < 18) (w : World) (mx : Int) (hm : Mx w mx) :
    Calls Tryd.prog 12 #[.int .u8 fn, .slice (some ⟨w.heap.size, 0, none⟩) m m] (w.alloc (.cells (flatV (List.replicate m blankV)).toArray 35)) fun e w' => e = .returned (.bool true) ∧ Kept w w' := by
  have h := calls15_row fn hfn w.heap.size 0 m (List.replicate m blankV) (w.alloc (.cells (flatV (List.replicate m blankV)).toArray 35)) mx (hm.kept ((Kept.refl w).alloc _)) (RowV.box (Box.new w _ _) (by rw [List.take_of_length_le]; rw [flatV_length]; exact Nat.le_refl _)) (by simp) (by simp [maxLen]; omega) (fun v hv => by rw [List.eq_of_mem_replicate hv]; exact wide_blank)
  rw [List.length_replicate] at h
  exact h.mono fun _ _ ⟨he, hk⟩ => ⟨he, ((Kept.refl w).alloc _).trans hk⟩
theorem calls15_four (m : Nat) (hm7 : m < 7) (w : World) (mx : Int) (hm : Mx w mx) :
    Calls Tryd.prog 12 #[.int .u8 30, .slice (some ⟨w.heap.size, 0, none⟩) 4 4] (w.alloc (.cells #[.int .u8 1, .int .i64 (((m : Int) - 1) * 10000 + 9999), .string ⟨#[]⟩, .int .u8 2, .int .i64 1, .string ⟨#[]⟩, .int .u8 1, .int .i64 50000, .string ⟨#[]⟩, .int .u8 0, .int .i64 0, .string ⟨#[]⟩] 35)) fun e w' => e = .returned (.bool true) ∧ Kept w w' :=
  (calls15_row 30 (by omega) w.heap.size 0 4 [⟨1, ((m : Int) - 1) * 10000 + 9999, []⟩, ⟨2, 1, []⟩, ⟨1, 50000, []⟩, ⟨0, 0, []⟩] (w.alloc (.cells #[.int .u8 1, .int .i64 (((m : Int) - 1) * 10000 + 9999), .string ⟨#[]⟩, .int .u8 2, .int .i64 1, .string ⟨#[]⟩, .int .u8 1, .int .i64 50000, .string ⟨#[]⟩, .int .u8 0, .int .i64 0, .string ⟨#[]⟩] 35)) mx (hm.kept ((Kept.refl w).alloc _)) (RowV.box (Box.new w _ _) rfl) (by simp) (by simp [maxLen]) (by
    intro v hv
    simp only [List.mem_cons, List.not_mem_nil, or_false] at hv
    rcases hv with rfl | rfl | rfl | rfl
    · exact wide_of (by simp) (by simp; omega) (by simp)
    · exact wide_yes
    · exact wide_five
    · exact wide_blank)).mono fun _ _ ⟨he, hk⟩ => ⟨he, ((Kept.refl w).alloc _).trans hk⟩

set_option maxHeartbeats 8000000 in
set_option maxRecDepth 100000 in
theorem FlogicExamples_walk (w : World) (mx : Int) (hm : Mx w mx) :
    Calls Tryd.prog 13 #[] w fun e w' => e = .returned (.bool true) ∧ Below w.heap.size w w' := by
  have VA := Lib.hid (fun w => values_any w)
  have HM := Lib.hid hm
  clear hm
  go_enter Tryd.func13, Tryd.ntmps13
  go_wp2_with fail
  refine VA.out _ |>.mono ?_
  intro e w1 hsr
  obtain ⟨l, hl, hw, hnew⟩ := hsr
  obtain ⟨g, cap, rfl, hrow, hcap, hmx, k1⟩ := hnew.block (by omega)
  have E0 : Hid (Ex l g w1.heap.size ((w1.alloc (.cells #[.int .u8 2, .int .i64 1, .string ⟨#[]⟩] 35)).alloc (.cells #[.int .u8 1, .int .i64 50000, .string ⟨#[]⟩] 35))) := Lib.hid ⟨(hrow.kept ((Kept.refl w1).alloc _)).kept ((Kept.refl _).alloc _), (Box.new w1 _ _).alloc _, Box.newAt (by simp) _ _⟩
  have K0 := Lib.hid ((k1.alloc (.cells #[.int .u8 2, .int .i64 1, .string ⟨#[]⟩] 35)).alloc (.cells #[.int .u8 1, .int .i64 50000, .string ⟨#[]⟩] 35))
  rw [hl] at hcap ⊢
  have HL := Lib.hid hl
  have HW := Lib.hid hw
  have HMX := Lib.hid hmx
  clear hnew hrow k1 hl hw hmx
  go_wp2_with fail
  generalize w1.heap.size = p at E0 ⊢
  go_loopw [4] (fun v wr => ∃ f : Nat, f ≤ 52 ∧ v = .int .u8 f ∧ Kept w wr ∧ Ex l g p wr) (fun v _ => 52 - (intOf v).toNat)
  case atStart => exact ⟨0, by omega, rfl, K0.out, E0.out⟩
  case round =>
    obtain ⟨fn, hf, rfl, kw, ex⟩ := hrel
    have KW := Lib.hid kw
    have EX := Lib.hid ex
    clear kw ex
    by_cases f52 : fn < 52
    · go_wp2_with fail
      go_loopw [5] (fun v wx => ∃ i : Nat, i ≤ 35 ∧ v = .int .i64 i ∧ Kept w wx ∧ Ex l g p wx) (fun v _ => 35 - (intOf v).toNat)
      case atStart => exact ⟨0, by omega, rfl, KW.out, EX.out⟩
      case round =>
        obtain ⟨i, hi, rfl, kx, ex⟩ := hrel
        have KX := Lib.hid kx
        have EX2 := Lib.hid ex
        clear kx ex
        by_cases hlt : i < 35
        · go_wp2_with fail
          refine wp_world (fun wf => Ex l g p wf ∧ Mx wf mx ∧ Kept w wf) ⟨EX2.out, HM.out.kept KX.out, KX.out⟩ ?_
          rintro w9 ⟨ex9, hm, k9⟩
          have rw0 := ex9.row
          have by0 := ex9.yes
          have bf0 := ex9.five
          have wl : ∀ k, k < 35 → Wide (l.getD k blankV) := fun k hk => HW.out _ (by have hkl : k < l.length := by { rw [HL.out]; exact hk }; rw [show l.getD k blankV = l[k] by simp [List.getD, hkl]]; exact List.getElem_mem hkl)
          have hi := hlt
          have hc := hcap
          have hfn : fn ≤ 255 := by omega
          have hmx := HMX.out
          have hl := HL.out
          refine region_head (V := VX l g cap i fn) (fresh := fun _ => false) 84 (VX_kept l g cap i fn) (fun j v w e => by cases e) (by kernel_rfl) (by kernel_rfl) (by kernel_rfl) (fun j o hj ho a w hk same hd => ?_) (fun vs w hk hv _ => ?_)
          · have f1 : a.eval (.tmp 1) = .slice (some ⟨g, 0, none⟩) 35 cap := beside same 1 (by kernel_rfl)
            have f2 : a.eval (.tmp 2) = .pointer (some ⟨p, 0, none⟩) := beside same 2 (by kernel_rfl)
            have f3 : a.eval (.tmp 3) = .pointer (some ⟨p + 1, 0, none⟩) := beside same 3 (by kernel_rfl)
            have f4 : a.eval (.tmp 4) = .int .u8 fn := beside same 4 (by kernel_rfl)
            have f5 : a.eval (.tmp 5) = .int .i64 i := beside same 5 (by kernel_rfl)
            match j, ho with
            | 0, ho =>
              cases ho
              refine StepT.free ?_ rfl
              exact stepT_value (wants_none rfl) (run_move (by first | exact Or.inl rfl | exact Or.inr rfl)) (f4) (Kept.refl w)
            | 1, ho =>
              cases ho
              refine StepT.free ?_ rfl
              exact stepT_value (wants_none rfl) (run_move (by first | exact Or.inl rfl | exact Or.inr rfl)) (f1) (Kept.refl w)
            | 2, ho =>
              cases ho
              refine StepT.free ?_ rfl
              exact stepT_value (wants_none rfl) (run_move (by first | exact Or.inl rfl | exact Or.inr rfl)) (f5) (Kept.refl w)
            | 3, ho =>
              cases ho
              refine StepT.free ?_ rfl
              exact stepT_value (wants_none rfl) (run_move (by first | exact Or.inl rfl | exact Or.inr rfl)) (f5) (Kept.refl w)
            | 4, ho =>
              cases ho
              refine StepT.free ?_ rfl
              have d3 := dep (W := fun j => VX l g cap i fn j (At _ a j) w) hd 3 rfl
              exact stepT_value (wants_none rfl) (run_add64 (n := (i : Int)) (m := 1) rfl rfl (show a.eval (.tmp 24) = .int .i64 i from d3) rfl (by omega) (by omega)) rfl (Kept.refl w)
            | 5, ho =>
              cases ho
              refine StepT.free ?_ rfl
              have d1 := dep (W := fun j => VX l g cap i fn j (At _ a j) w) hd 1 rfl
              have d2 := dep (W := fun j => VX l g cap i fn j (At _ a j) w) hd 2 rfl
              have d4 := dep (W := fun j => VX l g cap i fn j (At _ a j) w) hd 4 rfl
              exact stepT_value (wants_none rfl) (run_piece rfl rfl (show a.eval (.tmp 22) = .slice (some ⟨g, 0, none⟩) 35 cap from d1) (show a.eval (.tmp 23) = .int .i64 i from d2) (show a.eval (.tmp 25) = .int .i64 ((i : Int) + 1) from d4) hi hc) rfl (Kept.refl w)
            | 6, ho =>
              cases ho
              refine StepT.free ?_ rfl
              have d0 := dep (W := fun j => VX l g cap i fn j (At _ a j) w) hd 0 rfl
              have d5 := dep (W := fun j => VX l g cap i fn j (At _ a j) w) hd 5 rfl
              exact stepT_enter (wants_none rfl) (run_call rfl (args := #[.int .u8 fn, .slice (some ⟨g, 0 + i * 3, none⟩) 1 (cap - i)]) (by simp only [List.map_toArray, List.map_cons, List.map_nil]; rw [(show a.eval (.tmp 21) = .int .u8 fn from d0), (show a.eval (.tmp 26) = .slice (some ⟨g, 0 + i * 3, none⟩) 1 (cap - i) from d5)]) (enter_calls _ _)) ((calls15_row fn hfn g (0 + i * 3) (cap - i) [l.getD i blankV] w mx (hm.kept hk) ((rw0.kept hk).piece (by omega)) (by simp; omega) (by omega) (wides (by intro v hv; rw [List.mem_singleton] at hv; subst hv; exact wl i hi))).mono fun _ _ ⟨he, hk⟩ => ⟨_, he, rfl, hk⟩)
            | 7, ho =>
              cases ho
              refine StepT.free ?_ rfl
              have d6 := dep (W := fun j => VX l g cap i fn j (At _ a j) w) hd 6 rfl
              exact stepT_value (wants_none rfl) (run_notT rfl (show a.eval (.tmp 27) = .bool true from d6)) rfl (Kept.refl w)
            | 8, ho =>
              cases ho
              refine StepT.free ?_ rfl
              have d7 := dep (W := fun j => VX l g cap i fn j (At _ a j) w) hd 7 rfl
              exact stepT_value (wants_none rfl) (run_move (by first | exact Or.inl rfl | exact Or.inr rfl)) ((show a.eval (.tmp 28) = .bool false from d7)) (Kept.refl w)
            | 9, ho =>
              cases ho
              refine StepT.free ?_ rfl
              have d8 := dep (W := fun j => VX l g cap i fn j (At _ a j) w) hd 8 rfl
              exact stepT_value (wants_some (j := 8) (b := false) rfl d8) (run_move (by first | exact Or.inl rfl | exact Or.inr rfl)) (f4) (Kept.refl w)
            | 10, ho =>
              cases ho
              refine StepT.free ?_ rfl
              have d8 := dep (W := fun j => VX l g cap i fn j (At _ a j) w) hd 8 rfl
              exact stepT_value (wants_some (j := 8) (b := false) rfl d8) (run_load3 (a := a) rfl rfl f2 (by0.kept hk)) rfl (Kept.refl w)
            | 11, ho =>
              cases ho
              refine StepT.free ?_ rfl
              have d8 := dep (W := fun j => VX l g cap i fn j (At _ a j) w) hd 8 rfl
              exact stepT_value (wants_some (j := 8) (b := false) rfl d8) (run_move (by first | exact Or.inl rfl | exact Or.inr rfl)) (f1) (Kept.refl w)
            | 12, ho =>
              cases ho
              refine StepT.free ?_ rfl
              have d8 := dep (W := fun j => VX l g cap i fn j (At _ a j) w) hd 8 rfl
              exact stepT_value (wants_some (j := 8) (b := false) rfl d8) (run_move (by first | exact Or.inl rfl | exact Or.inr rfl)) (f5) (Kept.refl w)
            | 13, ho =>
              cases ho
              refine StepT.free ?_ rfl
              have d8 := dep (W := fun j => VX l g cap i fn j (At _ a j) w) hd 8 rfl
              have d11 := dep (W := fun j => VX l g cap i fn j (At _ a j) w) hd 11 rfl
              have d12 := dep (W := fun j => VX l g cap i fn j (At _ a j) w) hd 12 rfl
              exact stepT_value (wants_some (j := 8) (b := false) rfl d8) (run_place (k := i) rfl rfl (show a.eval (.tmp 32) = .slice (some ⟨g, 0, none⟩) 35 cap from d11) (show a.eval (.tmp 33) = .int .i64 i from d12) (by omega)) rfl (Kept.refl w)
            | 14, ho =>
              cases ho
              refine StepT.free ?_ rfl
              have d8 := dep (W := fun j => VX l g cap i fn j (At _ a j) w) hd 8 rfl
              have d13 := dep (W := fun j => VX l g cap i fn j (At _ a j) w) hd 13 rfl
              exact stepT_value (wants_some (j := 8) (b := false) rfl d8) (run_at (k := i) rfl rfl (show a.eval (.tmp 34) = .pointer (some ⟨g, 0 + i * 3, none⟩) from d13) (rw0.kept hk) (by omega)) rfl (Kept.refl w)
            | 15, ho =>
              cases ho
              refine StepT.free ?_ rfl
              have d8 := dep (W := fun j => VX l g cap i fn j (At _ a j) w) hd 8 rfl
              have d10 := dep (W := fun j => VX l g cap i fn j (At _ a j) w) hd 10 rfl
              have d14 := dep (W := fun j => VX l g cap i fn j (At _ a j) w) hd 14 rfl
              exact stepT_value (wants_some (j := 8) (b := false) rfl d8) (run_row2 rfl rfl (show a.eval (.tmp 31) = aggV ⟨2, 1, []⟩ from d10) (show a.eval (.tmp 35) = aggV (l.getD i blankV) from d14)) (RowIs.made [⟨2, 1, []⟩, (l.getD i blankV)] w) (Kept.alloc (Kept.refl w) _)
            | 16, ho =>
              cases ho
              refine StepT.free ?_ rfl
              have d8 := dep (W := fun j => VX l g cap i fn j (At _ a j) w) hd 8 rfl
              have d9 := dep (W := fun j => VX l g cap i fn j (At _ a j) w) hd 9 rfl
              have d15 := dep (W := fun j => VX l g cap i fn j (At _ a j) w) hd 15 rfl
              obtain ⟨b, e, rr⟩ := d15
              exact stepT_enter (wants_some (j := 8) (b := false) rfl d8) (run_call rfl (args := #[.int .u8 fn, .slice (some ⟨b, 0, none⟩) 2 2]) (by simp only [List.map_toArray, List.map_cons, List.map_nil]; rw [(show a.eval (.tmp 30) = .int .u8 fn from d9), show a.eval (.tmp 36) = _ from e]; rfl) (enter_calls _ _)) ((calls15_row fn hfn b 0 2 [⟨2, 1, []⟩, (l.getD i blankV)] w mx (hm.kept hk) rr (by simp) (by simp [maxLen]) (wides (by intro v hv; simp only [List.mem_cons, List.not_mem_nil, or_false] at hv; rcases hv with rfl | rfl <;> first | exact wl i hi | exact wl (34 - i) (by omega) | exact wide_yes | exact wide_five | exact wide_blank))).mono fun _ _ ⟨he, hk⟩ => ⟨_, he, rfl, hk⟩)
            | 17, ho =>
              cases ho
              refine StepT.free ?_ rfl
              have d8 := dep (W := fun j => VX l g cap i fn j (At _ a j) w) hd 8 rfl
              have d16 := dep (W := fun j => VX l g cap i fn j (At _ a j) w) hd 16 rfl
              exact stepT_value (wants_some (j := 8) (b := false) rfl d8) (run_notT rfl (show a.eval (.tmp 37) = .bool true from d16)) rfl (Kept.refl w)
            | 18, ho =>
              cases ho
              refine StepT.free ?_ rfl
              have d8 := dep (W := fun j => VX l g cap i fn j (At _ a j) w) hd 8 rfl
              have d17 := dep (W := fun j => VX l g cap i fn j (At _ a j) w) hd 17 rfl
              exact stepT_value (wants_none rfl) (run_pickF (y := .tmp 38) rfl (show a.eval (.tmp 29) = .bool false from d8)) (show a.eval (.tmp 38) = .bool false from d17) (Kept.refl w)
            | 19, ho =>
              cases ho
              refine StepT.free ?_ rfl
              have d18 := dep (W := fun j => VX l g cap i fn j (At _ a j) w) hd 18 rfl
              exact stepT_value (wants_none rfl) (run_move (by first | exact Or.inl rfl | exact Or.inr rfl)) ((show a.eval (.tmp 39) = .bool false from d18)) (Kept.refl w)
            | 20, ho =>
              cases ho
              refine StepT.free ?_ rfl
              have d19 := dep (W := fun j => VX l g cap i fn j (At _ a j) w) hd 19 rfl
              exact stepT_value (wants_some (j := 19) (b := false) rfl d19) (run_move (by first | exact Or.inl rfl | exact Or.inr rfl)) (f4) (Kept.refl w)
            | 21, ho =>
              cases ho
              refine StepT.free ?_ rfl
              have d19 := dep (W := fun j => VX l g cap i fn j (At _ a j) w) hd 19 rfl
              exact stepT_value (wants_some (j := 19) (b := false) rfl d19) (run_move (by first | exact Or.inl rfl | exact Or.inr rfl)) (f1) (Kept.refl w)
            | 22, ho =>
              cases ho
              refine StepT.free ?_ rfl
              have d19 := dep (W := fun j => VX l g cap i fn j (At _ a j) w) hd 19 rfl
              exact stepT_value (wants_some (j := 19) (b := false) rfl d19) (run_move (by first | exact Or.inl rfl | exact Or.inr rfl)) (f5) (Kept.refl w)
            | 23, ho =>
              cases ho
              refine StepT.free ?_ rfl
              have d19 := dep (W := fun j => VX l g cap i fn j (At _ a j) w) hd 19 rfl
              have d21 := dep (W := fun j => VX l g cap i fn j (At _ a j) w) hd 21 rfl
              have d22 := dep (W := fun j => VX l g cap i fn j (At _ a j) w) hd 22 rfl
              exact stepT_value (wants_some (j := 19) (b := false) rfl d19) (run_place (k := i) rfl rfl (show a.eval (.tmp 42) = .slice (some ⟨g, 0, none⟩) 35 cap from d21) (show a.eval (.tmp 43) = .int .i64 i from d22) (by omega)) rfl (Kept.refl w)
            | 24, ho =>
              cases ho
              refine StepT.free ?_ rfl
              have d19 := dep (W := fun j => VX l g cap i fn j (At _ a j) w) hd 19 rfl
              have d23 := dep (W := fun j => VX l g cap i fn j (At _ a j) w) hd 23 rfl
              exact stepT_value (wants_some (j := 19) (b := false) rfl d19) (run_at (k := i) rfl rfl (show a.eval (.tmp 44) = .pointer (some ⟨g, 0 + i * 3, none⟩) from d23) (rw0.kept hk) (by omega)) rfl (Kept.refl w)
            | 25, ho =>
              cases ho
              refine StepT.free ?_ rfl
              have d19 := dep (W := fun j => VX l g cap i fn j (At _ a j) w) hd 19 rfl
              exact stepT_value (wants_some (j := 19) (b := false) rfl d19) (run_load3 (a := a) rfl rfl f3 (bf0.kept hk)) rfl (Kept.refl w)
            | 26, ho =>
              cases ho
              refine StepT.free ?_ rfl
              have d19 := dep (W := fun j => VX l g cap i fn j (At _ a j) w) hd 19 rfl
              have d24 := dep (W := fun j => VX l g cap i fn j (At _ a j) w) hd 24 rfl
              have d25 := dep (W := fun j => VX l g cap i fn j (At _ a j) w) hd 25 rfl
              exact stepT_value (wants_some (j := 19) (b := false) rfl d19) (run_row2 rfl rfl (show a.eval (.tmp 45) = aggV (l.getD i blankV) from d24) (show a.eval (.tmp 46) = aggV ⟨1, 50000, []⟩ from d25)) (RowIs.made [(l.getD i blankV), ⟨1, 50000, []⟩] w) (Kept.alloc (Kept.refl w) _)
            | 27, ho =>
              cases ho
              refine StepT.free ?_ rfl
              have d19 := dep (W := fun j => VX l g cap i fn j (At _ a j) w) hd 19 rfl
              have d20 := dep (W := fun j => VX l g cap i fn j (At _ a j) w) hd 20 rfl
              have d26 := dep (W := fun j => VX l g cap i fn j (At _ a j) w) hd 26 rfl
              obtain ⟨b, e, rr⟩ := d26
              exact stepT_enter (wants_some (j := 19) (b := false) rfl d19) (run_call rfl (args := #[.int .u8 fn, .slice (some ⟨b, 0, none⟩) 2 2]) (by simp only [List.map_toArray, List.map_cons, List.map_nil]; rw [(show a.eval (.tmp 41) = .int .u8 fn from d20), show a.eval (.tmp 47) = _ from e]; rfl) (enter_calls _ _)) ((calls15_row fn hfn b 0 2 [(l.getD i blankV), ⟨1, 50000, []⟩] w mx (hm.kept hk) rr (by simp) (by simp [maxLen]) (wides (by intro v hv; simp only [List.mem_cons, List.not_mem_nil, or_false] at hv; rcases hv with rfl | rfl <;> first | exact wl i hi | exact wl (34 - i) (by omega) | exact wide_yes | exact wide_five | exact wide_blank))).mono fun _ _ ⟨he, hk⟩ => ⟨_, he, rfl, hk⟩)
            | 28, ho =>
              cases ho
              refine StepT.free ?_ rfl
              have d19 := dep (W := fun j => VX l g cap i fn j (At _ a j) w) hd 19 rfl
              have d27 := dep (W := fun j => VX l g cap i fn j (At _ a j) w) hd 27 rfl
              exact stepT_value (wants_some (j := 19) (b := false) rfl d19) (run_notT rfl (show a.eval (.tmp 48) = .bool true from d27)) rfl (Kept.refl w)
            | 29, ho =>
              cases ho
              refine StepT.free ?_ rfl
              have d19 := dep (W := fun j => VX l g cap i fn j (At _ a j) w) hd 19 rfl
              have d28 := dep (W := fun j => VX l g cap i fn j (At _ a j) w) hd 28 rfl
              exact stepT_value (wants_none rfl) (run_pickF (y := .tmp 49) rfl (show a.eval (.tmp 40) = .bool false from d19)) (show a.eval (.tmp 49) = .bool false from d28) (Kept.refl w)
            | 30, ho =>
              cases ho
              refine StepT.free ?_ rfl
              have d29 := dep (W := fun j => VX l g cap i fn j (At _ a j) w) hd 29 rfl
              exact stepT_value (wants_none rfl) (run_move (by first | exact Or.inl rfl | exact Or.inr rfl)) ((show a.eval (.tmp 50) = .bool false from d29)) (Kept.refl w)
            | 31, ho =>
              cases ho
              refine StepT.free ?_ rfl
              have d30 := dep (W := fun j => VX l g cap i fn j (At _ a j) w) hd 30 rfl
              exact stepT_value (wants_some (j := 30) (b := false) rfl d30) (run_move (by first | exact Or.inl rfl | exact Or.inr rfl)) (f4) (Kept.refl w)
            | 32, ho =>
              cases ho
              refine StepT.free ?_ rfl
              have d30 := dep (W := fun j => VX l g cap i fn j (At _ a j) w) hd 30 rfl
              exact stepT_value (wants_some (j := 30) (b := false) rfl d30) (run_move (by first | exact Or.inl rfl | exact Or.inr rfl)) (f1) (Kept.refl w)
            | 33, ho =>
              cases ho
              refine StepT.free ?_ rfl
              have d30 := dep (W := fun j => VX l g cap i fn j (At _ a j) w) hd 30 rfl
              exact stepT_value (wants_some (j := 30) (b := false) rfl d30) (run_move (by first | exact Or.inl rfl | exact Or.inr rfl)) (f5) (Kept.refl w)
            | 34, ho =>
              cases ho
              refine StepT.free ?_ rfl
              have d30 := dep (W := fun j => VX l g cap i fn j (At _ a j) w) hd 30 rfl
              have d32 := dep (W := fun j => VX l g cap i fn j (At _ a j) w) hd 32 rfl
              have d33 := dep (W := fun j => VX l g cap i fn j (At _ a j) w) hd 33 rfl
              exact stepT_value (wants_some (j := 30) (b := false) rfl d30) (run_place (k := i) rfl rfl (show a.eval (.tmp 53) = .slice (some ⟨g, 0, none⟩) 35 cap from d32) (show a.eval (.tmp 54) = .int .i64 i from d33) (by omega)) rfl (Kept.refl w)
            | 35, ho =>
              cases ho
              refine StepT.free ?_ rfl
              have d30 := dep (W := fun j => VX l g cap i fn j (At _ a j) w) hd 30 rfl
              have d34 := dep (W := fun j => VX l g cap i fn j (At _ a j) w) hd 34 rfl
              exact stepT_value (wants_some (j := 30) (b := false) rfl d30) (run_at (k := i) rfl rfl (show a.eval (.tmp 55) = .pointer (some ⟨g, 0 + i * 3, none⟩) from d34) (rw0.kept hk) (by omega)) rfl (Kept.refl w)
            | 36, ho =>
              cases ho
              refine StepT.free ?_ rfl
              have d30 := dep (W := fun j => VX l g cap i fn j (At _ a j) w) hd 30 rfl
              exact stepT_value (wants_some (j := 30) (b := false) rfl d30) (run_move (by first | exact Or.inl rfl | exact Or.inr rfl)) (f1) (Kept.refl w)
            | 37, ho =>
              cases ho
              refine StepT.free ?_ rfl
              have d30 := dep (W := fun j => VX l g cap i fn j (At _ a j) w) hd 30 rfl
              exact stepT_value (wants_some (j := 30) (b := false) rfl d30) (run_move (by first | exact Or.inl rfl | exact Or.inr rfl)) (f1) (Kept.refl w)
            | 38, ho =>
              cases ho
              refine StepT.free ?_ rfl
              have d30 := dep (W := fun j => VX l g cap i fn j (At _ a j) w) hd 30 rfl
              have d37 := dep (W := fun j => VX l g cap i fn j (At _ a j) w) hd 37 rfl
              exact stepT_value (wants_some (j := 30) (b := false) rfl d30) (run_len rfl (show a.eval (.tmp 58) = .slice (some ⟨g, 0, none⟩) 35 cap from d37)) rfl (Kept.refl w)
            | 39, ho =>
              cases ho
              refine StepT.free ?_ rfl
              have d30 := dep (W := fun j => VX l g cap i fn j (At _ a j) w) hd 30 rfl
              have d38 := dep (W := fun j => VX l g cap i fn j (At _ a j) w) hd 38 rfl
              exact stepT_value (wants_some (j := 30) (b := false) rfl d30) (run_sub64 (n := ((35 : Nat) : Int)) (m := 1) rfl rfl (show a.eval (.tmp 59) = .int .i64 ((35 : Nat) : Int) from d38) rfl (by omega) (by omega)) rfl (Kept.refl w)
            | 40, ho =>
              cases ho
              refine StepT.free ?_ rfl
              have d30 := dep (W := fun j => VX l g cap i fn j (At _ a j) w) hd 30 rfl
              exact stepT_value (wants_some (j := 30) (b := false) rfl d30) (run_move (by first | exact Or.inl rfl | exact Or.inr rfl)) (f5) (Kept.refl w)
            | 41, ho =>
              cases ho
              refine StepT.free ?_ rfl
              have d30 := dep (W := fun j => VX l g cap i fn j (At _ a j) w) hd 30 rfl
              have d39 := dep (W := fun j => VX l g cap i fn j (At _ a j) w) hd 39 rfl
              have d40 := dep (W := fun j => VX l g cap i fn j (At _ a j) w) hd 40 rfl
              exact stepT_value (wants_some (j := 30) (b := false) rfl d30) (run_sub64 (n := 34) (m := (i : Int)) rfl rfl (show a.eval (.tmp 60) = .int .i64 34 from d39) (show a.eval (.tmp 61) = .int .i64 i from d40) (by omega) (by omega)) (show Value.int .i64 _ = .int .i64 _ by congr 1; omega) (Kept.refl w)
            | 42, ho =>
              cases ho
              refine StepT.free ?_ rfl
              have d30 := dep (W := fun j => VX l g cap i fn j (At _ a j) w) hd 30 rfl
              have d36 := dep (W := fun j => VX l g cap i fn j (At _ a j) w) hd 36 rfl
              have d41 := dep (W := fun j => VX l g cap i fn j (At _ a j) w) hd 41 rfl
              exact stepT_value (wants_some (j := 30) (b := false) rfl d30) (run_place (k := (34 - i)) rfl rfl (show a.eval (.tmp 57) = .slice (some ⟨g, 0, none⟩) 35 cap from d36) (show a.eval (.tmp 62) = .int .i64 ((34 - i : Nat) : Int) from d41) (by omega)) rfl (Kept.refl w)
            | 43, ho =>
              cases ho
              refine StepT.free ?_ rfl
              have d30 := dep (W := fun j => VX l g cap i fn j (At _ a j) w) hd 30 rfl
              have d42 := dep (W := fun j => VX l g cap i fn j (At _ a j) w) hd 42 rfl
              exact stepT_value (wants_some (j := 30) (b := false) rfl d30) (run_at (k := (34 - i)) rfl rfl (show a.eval (.tmp 63) = .pointer (some ⟨g, 0 + (34 - i) * 3, none⟩) from d42) (rw0.kept hk) (by omega)) rfl (Kept.refl w)
            | 44, ho =>
              cases ho
              refine StepT.free ?_ rfl
              have d30 := dep (W := fun j => VX l g cap i fn j (At _ a j) w) hd 30 rfl
              have d35 := dep (W := fun j => VX l g cap i fn j (At _ a j) w) hd 35 rfl
              have d43 := dep (W := fun j => VX l g cap i fn j (At _ a j) w) hd 43 rfl
              exact stepT_value (wants_some (j := 30) (b := false) rfl d30) (run_row2 rfl rfl (show a.eval (.tmp 56) = aggV (l.getD i blankV) from d35) (show a.eval (.tmp 64) = aggV (l.getD (34 - i) blankV) from d43)) (RowIs.made [(l.getD i blankV), (l.getD (34 - i) blankV)] w) (Kept.alloc (Kept.refl w) _)
            | 45, ho =>
              cases ho
              refine StepT.free ?_ rfl
              have d30 := dep (W := fun j => VX l g cap i fn j (At _ a j) w) hd 30 rfl
              have d31 := dep (W := fun j => VX l g cap i fn j (At _ a j) w) hd 31 rfl
              have d44 := dep (W := fun j => VX l g cap i fn j (At _ a j) w) hd 44 rfl
              obtain ⟨b, e, rr⟩ := d44
              exact stepT_enter (wants_some (j := 30) (b := false) rfl d30) (run_call rfl (args := #[.int .u8 fn, .slice (some ⟨b, 0, none⟩) 2 2]) (by simp only [List.map_toArray, List.map_cons, List.map_nil]; rw [(show a.eval (.tmp 52) = .int .u8 fn from d31), show a.eval (.tmp 65) = _ from e]; rfl) (enter_calls _ _)) ((calls15_row fn hfn b 0 2 [(l.getD i blankV), (l.getD (34 - i) blankV)] w mx (hm.kept hk) rr (by simp) (by simp [maxLen]) (wides (by intro v hv; simp only [List.mem_cons, List.not_mem_nil, or_false] at hv; rcases hv with rfl | rfl <;> first | exact wl i hi | exact wl (34 - i) (by omega) | exact wide_yes | exact wide_five | exact wide_blank))).mono fun _ _ ⟨he, hk⟩ => ⟨_, he, rfl, hk⟩)
            | 46, ho =>
              cases ho
              refine StepT.free ?_ rfl
              have d30 := dep (W := fun j => VX l g cap i fn j (At _ a j) w) hd 30 rfl
              have d45 := dep (W := fun j => VX l g cap i fn j (At _ a j) w) hd 45 rfl
              exact stepT_value (wants_some (j := 30) (b := false) rfl d30) (run_notT rfl (show a.eval (.tmp 66) = .bool true from d45)) rfl (Kept.refl w)
            | 47, ho =>
              cases ho
              refine StepT.free ?_ rfl
              have d30 := dep (W := fun j => VX l g cap i fn j (At _ a j) w) hd 30 rfl
              have d46 := dep (W := fun j => VX l g cap i fn j (At _ a j) w) hd 46 rfl
              exact stepT_value (wants_none rfl) (run_pickF (y := .tmp 67) rfl (show a.eval (.tmp 51) = .bool false from d30)) (show a.eval (.tmp 67) = .bool false from d46) (Kept.refl w)
            | 48, ho =>
              cases ho
              refine StepT.free ?_ rfl
              have d47 := dep (W := fun j => VX l g cap i fn j (At _ a j) w) hd 47 rfl
              exact stepT_value (wants_none rfl) (run_move (by first | exact Or.inl rfl | exact Or.inr rfl)) ((show a.eval (.tmp 68) = .bool false from d47)) (Kept.refl w)
            | 49, ho =>
              cases ho
              refine StepT.free ?_ rfl
              have d48 := dep (W := fun j => VX l g cap i fn j (At _ a j) w) hd 48 rfl
              exact stepT_value (wants_some (j := 48) (b := false) rfl d48) (run_move (by first | exact Or.inl rfl | exact Or.inr rfl)) (f4) (Kept.refl w)
            | 50, ho =>
              cases ho
              refine StepT.free ?_ rfl
              have d48 := dep (W := fun j => VX l g cap i fn j (At _ a j) w) hd 48 rfl
              exact stepT_value (wants_some (j := 48) (b := false) rfl d48) (run_load3 (a := a) rfl rfl f2 (by0.kept hk)) rfl (Kept.refl w)
            | 51, ho =>
              cases ho
              refine StepT.free ?_ rfl
              have d48 := dep (W := fun j => VX l g cap i fn j (At _ a j) w) hd 48 rfl
              exact stepT_value (wants_some (j := 48) (b := false) rfl d48) (run_load3 (a := a) rfl rfl f3 (bf0.kept hk)) rfl (Kept.refl w)
            | 52, ho =>
              cases ho
              refine StepT.free ?_ rfl
              have d48 := dep (W := fun j => VX l g cap i fn j (At _ a j) w) hd 48 rfl
              exact stepT_value (wants_some (j := 48) (b := false) rfl d48) (run_move (by first | exact Or.inl rfl | exact Or.inr rfl)) (f1) (Kept.refl w)
            | 53, ho =>
              cases ho
              refine StepT.free ?_ rfl
              have d48 := dep (W := fun j => VX l g cap i fn j (At _ a j) w) hd 48 rfl
              exact stepT_value (wants_some (j := 48) (b := false) rfl d48) (run_move (by first | exact Or.inl rfl | exact Or.inr rfl)) (f5) (Kept.refl w)
            | 54, ho =>
              cases ho
              refine StepT.free ?_ rfl
              have d48 := dep (W := fun j => VX l g cap i fn j (At _ a j) w) hd 48 rfl
              have d52 := dep (W := fun j => VX l g cap i fn j (At _ a j) w) hd 52 rfl
              have d53 := dep (W := fun j => VX l g cap i fn j (At _ a j) w) hd 53 rfl
              exact stepT_value (wants_some (j := 48) (b := false) rfl d48) (run_place (k := i) rfl rfl (show a.eval (.tmp 73) = .slice (some ⟨g, 0, none⟩) 35 cap from d52) (show a.eval (.tmp 74) = .int .i64 i from d53) (by omega)) rfl (Kept.refl w)
            | 55, ho =>
              cases ho
              refine StepT.free ?_ rfl
              have d48 := dep (W := fun j => VX l g cap i fn j (At _ a j) w) hd 48 rfl
              have d54 := dep (W := fun j => VX l g cap i fn j (At _ a j) w) hd 54 rfl
              exact stepT_value (wants_some (j := 48) (b := false) rfl d48) (run_at (k := i) rfl rfl (show a.eval (.tmp 75) = .pointer (some ⟨g, 0 + i * 3, none⟩) from d54) (rw0.kept hk) (by omega)) rfl (Kept.refl w)
            | 56, ho =>
              cases ho
              refine StepT.free ?_ rfl
              have d48 := dep (W := fun j => VX l g cap i fn j (At _ a j) w) hd 48 rfl
              have d50 := dep (W := fun j => VX l g cap i fn j (At _ a j) w) hd 50 rfl
              have d51 := dep (W := fun j => VX l g cap i fn j (At _ a j) w) hd 51 rfl
              have d55 := dep (W := fun j => VX l g cap i fn j (At _ a j) w) hd 55 rfl
              exact stepT_value (wants_some (j := 48) (b := false) rfl d48) (run_row3 rfl rfl (show a.eval (.tmp 71) = aggV ⟨2, 1, []⟩ from d50) (show a.eval (.tmp 72) = aggV ⟨1, 50000, []⟩ from d51) (show a.eval (.tmp 76) = aggV (l.getD i blankV) from d55)) (RowIs.made [⟨2, 1, []⟩, ⟨1, 50000, []⟩, (l.getD i blankV)] w) (Kept.alloc (Kept.refl w) _)
            | 57, ho =>
              cases ho
              refine StepT.free ?_ rfl
              have d48 := dep (W := fun j => VX l g cap i fn j (At _ a j) w) hd 48 rfl
              have d49 := dep (W := fun j => VX l g cap i fn j (At _ a j) w) hd 49 rfl
              have d56 := dep (W := fun j => VX l g cap i fn j (At _ a j) w) hd 56 rfl
              obtain ⟨b, e, rr⟩ := d56
              exact stepT_enter (wants_some (j := 48) (b := false) rfl d48) (run_call rfl (args := #[.int .u8 fn, .slice (some ⟨b, 0, none⟩) 3 3]) (by simp only [List.map_toArray, List.map_cons, List.map_nil]; rw [(show a.eval (.tmp 70) = .int .u8 fn from d49), show a.eval (.tmp 77) = _ from e]; rfl) (enter_calls _ _)) ((calls15_row fn hfn b 0 3 [⟨2, 1, []⟩, ⟨1, 50000, []⟩, (l.getD i blankV)] w mx (hm.kept hk) rr (by simp) (by simp [maxLen]) (wides (by intro v hv; simp only [List.mem_cons, List.not_mem_nil, or_false] at hv; rcases hv with rfl | rfl | rfl <;> first | exact wl i hi | exact wl (34 - i) (by omega) | exact wide_yes | exact wide_five | exact wide_blank))).mono fun _ _ ⟨he, hk⟩ => ⟨_, he, rfl, hk⟩)
            | 58, ho =>
              cases ho
              refine StepT.free ?_ rfl
              have d48 := dep (W := fun j => VX l g cap i fn j (At _ a j) w) hd 48 rfl
              have d57 := dep (W := fun j => VX l g cap i fn j (At _ a j) w) hd 57 rfl
              exact stepT_value (wants_some (j := 48) (b := false) rfl d48) (run_notT rfl (show a.eval (.tmp 78) = .bool true from d57)) rfl (Kept.refl w)
            | 59, ho =>
              cases ho
              refine StepT.free ?_ rfl
              have d48 := dep (W := fun j => VX l g cap i fn j (At _ a j) w) hd 48 rfl
              have d58 := dep (W := fun j => VX l g cap i fn j (At _ a j) w) hd 58 rfl
              exact stepT_value (wants_none rfl) (run_pickF (y := .tmp 79) rfl (show a.eval (.tmp 69) = .bool false from d48)) (show a.eval (.tmp 79) = .bool false from d58) (Kept.refl w)
            | 60, ho =>
              cases ho
              refine StepT.free ?_ rfl
              have d59 := dep (W := fun j => VX l g cap i fn j (At _ a j) w) hd 59 rfl
              exact stepT_value (wants_none rfl) (run_move (by first | exact Or.inl rfl | exact Or.inr rfl)) ((show a.eval (.tmp 80) = .bool false from d59)) (Kept.refl w)
            | 61, ho =>
              cases ho
              refine StepT.free ?_ rfl
              have d60 := dep (W := fun j => VX l g cap i fn j (At _ a j) w) hd 60 rfl
              exact stepT_value (wants_some (j := 60) (b := false) rfl d60) (run_move (by first | exact Or.inl rfl | exact Or.inr rfl)) (f4) (Kept.refl w)
            | 62, ho =>
              cases ho
              refine StepT.free ?_ rfl
              have d60 := dep (W := fun j => VX l g cap i fn j (At _ a j) w) hd 60 rfl
              exact stepT_value (wants_some (j := 60) (b := false) rfl d60) (run_move (by first | exact Or.inl rfl | exact Or.inr rfl)) (f1) (Kept.refl w)
            | 63, ho =>
              cases ho
              refine StepT.free ?_ rfl
              have d60 := dep (W := fun j => VX l g cap i fn j (At _ a j) w) hd 60 rfl
              exact stepT_value (wants_some (j := 60) (b := false) rfl d60) (run_move (by first | exact Or.inl rfl | exact Or.inr rfl)) (f5) (Kept.refl w)
            | 64, ho =>
              cases ho
              refine StepT.free ?_ rfl
              have d60 := dep (W := fun j => VX l g cap i fn j (At _ a j) w) hd 60 rfl
              have d62 := dep (W := fun j => VX l g cap i fn j (At _ a j) w) hd 62 rfl
              have d63 := dep (W := fun j => VX l g cap i fn j (At _ a j) w) hd 63 rfl
              exact stepT_value (wants_some (j := 60) (b := false) rfl d60) (run_place (k := i) rfl rfl (show a.eval (.tmp 83) = .slice (some ⟨g, 0, none⟩) 35 cap from d62) (show a.eval (.tmp 84) = .int .i64 i from d63) (by omega)) rfl (Kept.refl w)
            | 65, ho =>
              cases ho
              refine StepT.free ?_ rfl
              have d60 := dep (W := fun j => VX l g cap i fn j (At _ a j) w) hd 60 rfl
              have d64 := dep (W := fun j => VX l g cap i fn j (At _ a j) w) hd 64 rfl
              exact stepT_value (wants_some (j := 60) (b := false) rfl d60) (run_at (k := i) rfl rfl (show a.eval (.tmp 85) = .pointer (some ⟨g, 0 + i * 3, none⟩) from d64) (rw0.kept hk) (by omega)) rfl (Kept.refl w)
            | 66, ho =>
              cases ho
              refine StepT.free ?_ rfl
              have d60 := dep (W := fun j => VX l g cap i fn j (At _ a j) w) hd 60 rfl
              exact stepT_value (wants_some (j := 60) (b := false) rfl d60) (run_load3 (a := a) rfl rfl f3 (bf0.kept hk)) rfl (Kept.refl w)
            | 67, ho =>
              cases ho
              refine StepT.free ?_ rfl
              have d60 := dep (W := fun j => VX l g cap i fn j (At _ a j) w) hd 60 rfl
              exact stepT_value (wants_some (j := 60) (b := false) rfl d60) (run_load3 (a := a) rfl rfl f2 (by0.kept hk)) rfl (Kept.refl w)
            | 68, ho =>
              cases ho
              refine StepT.free ?_ rfl
              have d60 := dep (W := fun j => VX l g cap i fn j (At _ a j) w) hd 60 rfl
              have d65 := dep (W := fun j => VX l g cap i fn j (At _ a j) w) hd 65 rfl
              have d66 := dep (W := fun j => VX l g cap i fn j (At _ a j) w) hd 66 rfl
              have d67 := dep (W := fun j => VX l g cap i fn j (At _ a j) w) hd 67 rfl
              exact stepT_value (wants_some (j := 60) (b := false) rfl d60) (run_row3 rfl rfl (show a.eval (.tmp 86) = aggV (l.getD i blankV) from d65) (show a.eval (.tmp 87) = aggV ⟨1, 50000, []⟩ from d66) (show a.eval (.tmp 88) = aggV ⟨2, 1, []⟩ from d67)) (RowIs.made [(l.getD i blankV), ⟨1, 50000, []⟩, ⟨2, 1, []⟩] w) (Kept.alloc (Kept.refl w) _)
            | 69, ho =>
              cases ho
              refine StepT.free ?_ rfl
              have d60 := dep (W := fun j => VX l g cap i fn j (At _ a j) w) hd 60 rfl
              have d61 := dep (W := fun j => VX l g cap i fn j (At _ a j) w) hd 61 rfl
              have d68 := dep (W := fun j => VX l g cap i fn j (At _ a j) w) hd 68 rfl
              obtain ⟨b, e, rr⟩ := d68
              exact stepT_enter (wants_some (j := 60) (b := false) rfl d60) (run_call rfl (args := #[.int .u8 fn, .slice (some ⟨b, 0, none⟩) 3 3]) (by simp only [List.map_toArray, List.map_cons, List.map_nil]; rw [(show a.eval (.tmp 82) = .int .u8 fn from d61), show a.eval (.tmp 89) = _ from e]; rfl) (enter_calls _ _)) ((calls15_row fn hfn b 0 3 [(l.getD i blankV), ⟨1, 50000, []⟩, ⟨2, 1, []⟩] w mx (hm.kept hk) rr (by simp) (by simp [maxLen]) (wides (by intro v hv; simp only [List.mem_cons, List.not_mem_nil, or_false] at hv; rcases hv with rfl | rfl | rfl <;> first | exact wl i hi | exact wl (34 - i) (by omega) | exact wide_yes | exact wide_five | exact wide_blank))).mono fun _ _ ⟨he, hk⟩ => ⟨_, he, rfl, hk⟩)
            | 70, ho =>
              cases ho
              refine StepT.free ?_ rfl
              have d60 := dep (W := fun j => VX l g cap i fn j (At _ a j) w) hd 60 rfl
              have d69 := dep (W := fun j => VX l g cap i fn j (At _ a j) w) hd 69 rfl
              exact stepT_value (wants_some (j := 60) (b := false) rfl d60) (run_notT rfl (show a.eval (.tmp 90) = .bool true from d69)) rfl (Kept.refl w)
            | 71, ho =>
              cases ho
              refine StepT.free ?_ rfl
              have d60 := dep (W := fun j => VX l g cap i fn j (At _ a j) w) hd 60 rfl
              have d70 := dep (W := fun j => VX l g cap i fn j (At _ a j) w) hd 70 rfl
              exact stepT_value (wants_none rfl) (run_pickF (y := .tmp 91) rfl (show a.eval (.tmp 81) = .bool false from d60)) (show a.eval (.tmp 91) = .bool false from d70) (Kept.refl w)
            | 72, ho =>
              cases ho
              refine StepT.free ?_ rfl
              have d71 := dep (W := fun j => VX l g cap i fn j (At _ a j) w) hd 71 rfl
              exact stepT_value (wants_none rfl) (run_move (by first | exact Or.inl rfl | exact Or.inr rfl)) ((show a.eval (.tmp 92) = .bool false from d71)) (Kept.refl w)
            | 73, ho =>
              cases ho
              refine StepT.free ?_ rfl
              have d72 := dep (W := fun j => VX l g cap i fn j (At _ a j) w) hd 72 rfl
              exact stepT_value (wants_some (j := 72) (b := false) rfl d72) (run_move (by first | exact Or.inl rfl | exact Or.inr rfl)) (f4) (Kept.refl w)
            | 74, ho =>
              cases ho
              refine StepT.free ?_ rfl
              have d72 := dep (W := fun j => VX l g cap i fn j (At _ a j) w) hd 72 rfl
              exact stepT_value (wants_some (j := 72) (b := false) rfl d72) (v := aggV ⟨0, 0, []⟩) (by unfold execOp; go_simp) rfl (Kept.refl w)
            | 75, ho =>
              cases ho
              refine StepT.free ?_ rfl
              have d72 := dep (W := fun j => VX l g cap i fn j (At _ a j) w) hd 72 rfl
              exact stepT_value (wants_some (j := 72) (b := false) rfl d72) (run_move (by first | exact Or.inl rfl | exact Or.inr rfl)) (f1) (Kept.refl w)
            | 76, ho =>
              cases ho
              refine StepT.free ?_ rfl
              have d72 := dep (W := fun j => VX l g cap i fn j (At _ a j) w) hd 72 rfl
              exact stepT_value (wants_some (j := 72) (b := false) rfl d72) (run_move (by first | exact Or.inl rfl | exact Or.inr rfl)) (f5) (Kept.refl w)
            | 77, ho =>
              cases ho
              refine StepT.free ?_ rfl
              have d72 := dep (W := fun j => VX l g cap i fn j (At _ a j) w) hd 72 rfl
              have d75 := dep (W := fun j => VX l g cap i fn j (At _ a j) w) hd 75 rfl
              have d76 := dep (W := fun j => VX l g cap i fn j (At _ a j) w) hd 76 rfl
              exact stepT_value (wants_some (j := 72) (b := false) rfl d72) (run_place (k := i) rfl rfl (show a.eval (.tmp 96) = .slice (some ⟨g, 0, none⟩) 35 cap from d75) (show a.eval (.tmp 97) = .int .i64 i from d76) (by omega)) rfl (Kept.refl w)
            | 78, ho =>
              cases ho
              refine StepT.free ?_ rfl
              have d72 := dep (W := fun j => VX l g cap i fn j (At _ a j) w) hd 72 rfl
              have d77 := dep (W := fun j => VX l g cap i fn j (At _ a j) w) hd 77 rfl
              exact stepT_value (wants_some (j := 72) (b := false) rfl d72) (run_at (k := i) rfl rfl (show a.eval (.tmp 98) = .pointer (some ⟨g, 0 + i * 3, none⟩) from d77) (rw0.kept hk) (by omega)) rfl (Kept.refl w)
            | 79, ho =>
              cases ho
              refine StepT.free ?_ rfl
              have d72 := dep (W := fun j => VX l g cap i fn j (At _ a j) w) hd 72 rfl
              exact stepT_value (wants_some (j := 72) (b := false) rfl d72) (run_load3 (a := a) rfl rfl f3 (bf0.kept hk)) rfl (Kept.refl w)
            | 80, ho =>
              cases ho
              refine StepT.free ?_ rfl
              have d72 := dep (W := fun j => VX l g cap i fn j (At _ a j) w) hd 72 rfl
              have d74 := dep (W := fun j => VX l g cap i fn j (At _ a j) w) hd 74 rfl
              have d78 := dep (W := fun j => VX l g cap i fn j (At _ a j) w) hd 78 rfl
              have d79 := dep (W := fun j => VX l g cap i fn j (At _ a j) w) hd 79 rfl
              exact stepT_value (wants_some (j := 72) (b := false) rfl d72) (run_row3 rfl rfl (show a.eval (.tmp 95) = aggV ⟨0, 0, []⟩ from d74) (show a.eval (.tmp 99) = aggV (l.getD i blankV) from d78) (show a.eval (.tmp 100) = aggV ⟨1, 50000, []⟩ from d79)) (RowIs.made [⟨0, 0, []⟩, (l.getD i blankV), ⟨1, 50000, []⟩] w) (Kept.alloc (Kept.refl w) _)
            | 81, ho =>
              cases ho
              refine StepT.free ?_ rfl
              have d72 := dep (W := fun j => VX l g cap i fn j (At _ a j) w) hd 72 rfl
              have d73 := dep (W := fun j => VX l g cap i fn j (At _ a j) w) hd 73 rfl
              have d80 := dep (W := fun j => VX l g cap i fn j (At _ a j) w) hd 80 rfl
              obtain ⟨b, e, rr⟩ := d80
              exact stepT_enter (wants_some (j := 72) (b := false) rfl d72) (run_call rfl (args := #[.int .u8 fn, .slice (some ⟨b, 0, none⟩) 3 3]) (by simp only [List.map_toArray, List.map_cons, List.map_nil]; rw [(show a.eval (.tmp 94) = .int .u8 fn from d73), show a.eval (.tmp 101) = _ from e]; rfl) (enter_calls _ _)) ((calls15_row fn hfn b 0 3 [⟨0, 0, []⟩, (l.getD i blankV), ⟨1, 50000, []⟩] w mx (hm.kept hk) rr (by simp) (by simp [maxLen]) (wides (by intro v hv; simp only [List.mem_cons, List.not_mem_nil, or_false] at hv; rcases hv with rfl | rfl | rfl <;> first | exact wl i hi | exact wl (34 - i) (by omega) | exact wide_yes | exact wide_five | exact wide_blank))).mono fun _ _ ⟨he, hk⟩ => ⟨_, he, rfl, hk⟩)
            | 82, ho =>
              cases ho
              refine StepT.free ?_ rfl
              have d72 := dep (W := fun j => VX l g cap i fn j (At _ a j) w) hd 72 rfl
              have d81 := dep (W := fun j => VX l g cap i fn j (At _ a j) w) hd 81 rfl
              exact stepT_value (wants_some (j := 72) (b := false) rfl d72) (run_notT rfl (show a.eval (.tmp 102) = .bool true from d81)) rfl (Kept.refl w)
            | 83, ho =>
              cases ho
              refine StepT.free ?_ rfl
              have d72 := dep (W := fun j => VX l g cap i fn j (At _ a j) w) hd 72 rfl
              have d82 := dep (W := fun j => VX l g cap i fn j (At _ a j) w) hd 82 rfl
              exact stepT_value (wants_none rfl) (run_pickF (y := .tmp 103) rfl (show a.eval (.tmp 93) = .bool false from d72)) (show a.eval (.tmp 103) = .bool false from d82) (Kept.refl w)
            | j + 84, ho => exact absurd hj (by omega)
          · have e83 : vs 83 = .bool false := hv 83 (by omega)
            refine frame_to ⟨#[u0, .slice (some ⟨g, 0, none⟩) 35 cap, .pointer (some ⟨p, 0, none⟩), .pointer (some ⟨p + 1, 0, none⟩), .int .u8 fn, .int .i64 i, u6, undef, .slice (some ⟨g, 0, none⟩) 35 cap, .agg #[.int .u8 2, .int .i64 1, .string ⟨#[]⟩], .agg #[.int .u8 1, .int .i64 50000, .string ⟨#[]⟩], .int .u8 fn, .bool (decide ((fn : Int) ≤ 51)), u13, u14, .int .i64 i, .slice (some ⟨g, 0, none⟩) 35 cap, .int .i64 35, .bool (decide ((i : Int) < 35)), u19, u20, vs 0, vs 1, vs 2, vs 3, vs 4, vs 5, vs 6, vs 7, vs 8, vs 9, vs 10, vs 11, vs 12, vs 13, vs 14, vs 15, vs 16, vs 17, vs 18, vs 19, vs 20, vs 21, vs 22, vs 23, vs 24, vs 25, vs 26, vs 27, vs 28, vs 29, vs 30, vs 31, vs 32, vs 33, vs 34, vs 35, vs 36, vs 37, vs 38, vs 39, vs 40, vs 41, vs 42, vs 43, vs 44, vs 45, vs 46, vs 47, vs 48, vs 49, vs 50, vs 51, vs 52, vs 53, vs 54, vs 55, vs 56, vs 57, vs 58, vs 59, vs 60, vs 61, vs 62, vs 63, vs 64, vs 65, vs 66, vs 67, vs 68, vs 69, vs 70, vs 71, vs 72, vs 73, vs 74, vs 75, vs 76, vs 77, vs 78, vs 79, vs 80, vs 81, vs 82, vs 83, u105, u106, u107, u108, u109, u110, u111, u112, u113, undef, undef, undef, undef, undef, undef, undef, undef, undef, undef, undef, undef, undef, undef, undef, undef, undef], []⟩ (by kernel_rfl) (by kernel_rfl) ?_
            rw [e83]
            have KW9 := Lib.hid (k9.trans hk)
            have EX9 := Lib.hid (ex9.kept hk)
            clear hv hk ex9 hm k9 rw0 by0 bf0 wl hi hc hfn hmx hl e83
            go_wp2_with fail
            go_roundw
            case rel => exact ⟨i + 1, by omega, by go_num, KW9.out, EX9.out⟩
            case measure => (simp [intOf]; try omega)
        · go_wp2_with fail
          have f51 : ((fn : Int) ≤ 51) = True := eq_true (by omega)
          simp only [f51, decide_true]
          clear f51
          go_loopw [6] (fun v wx => ∃ m : Nat, m ≤ 18 ∧ v = .int .i64 m ∧ Kept w wx ∧ Ex l g p wx) (fun v _ => 18 - (intOf v).toNat)
          case atStart => exact ⟨0, by omega, rfl, KX.out, EX2.out⟩
          case round =>
            obtain ⟨m, hm18, rfl, kz, ex⟩ := hrel
            have KZ := Lib.hid kz
            have EX3 := Lib.hid ex
            have F52 := Lib.hid f52
            clear kz ex f52
            by_cases hmz : m < 18
            · have CB := Lib.hid (fun wz h => calls15_blank fn m (by have := F52.out; omega) hmz wz mx h)
              have MB := made_blanks m hmz
              go_wp2_with fail
              refine (CB.out _ (HM.out.kept KZ.out)).mono ?_
              rintro e w3 ⟨rfl, k3⟩
              have K3 := Lib.hid (KZ.out.trans k3)
              have E3 := Lib.hid (EX3.out.kept k3)
              clear k3 MB
              go_wp2_with fail
              go_roundw
              case rel => exact ⟨m + 1, by omega, by go_num, K3.out, E3.out⟩
              case measure => (simp [intOf]; try omega)
            · have f52 := F52.out
              go_wp2_with fail
              go_roundw
              case rel => exact ⟨fn + 1, by omega, by go_num, KZ.out, EX3.out⟩
              case measure => (simp [intOf]; try omega)
    · go_wp2_with fail
      go_loopw [7] (fun v wx => ∃ m : Nat, m ≤ 7 ∧ v = .int .i64 ((m : Int) - 1) ∧ Kept w wx ∧ Ex l g p wx) (fun v _ => 7 - (intOf v + 1).toNat)
      case atStart => exact ⟨0, by omega, rfl, KW.out, EX.out⟩
      case round =>
        obtain ⟨m, hm7, rfl, kz, ex⟩ := hrel
        have KZ := Lib.hid kz
        have EX3 := Lib.hid ex
        obtain ⟨y0, y1, y2⟩ := ex.yes.cells3
        obtain ⟨z0, z1, z2⟩ := ex.five.cells3
        have py := ex.yes.inside
        have pf := ex.five.inside
        clear kz ex
        by_cases hmz : m < 7
        · go_wp2_with fail
          refine (calls15_four m hmz _ mx (HM.out.kept KZ.out)).mono ?_
          rintro e w3 ⟨rfl, k3⟩
          have K3 := Lib.hid (KZ.out.trans k3)
          have E3 := Lib.hid (EX3.out.kept k3)
          clear k3 y0 y1 y2 z0 z1 z2 py pf
          go_wp2_with fail
          go_roundw
          case rel => exact ⟨m + 1, by omega, by go_num, K3.out, E3.out⟩
          case measure => (simp [intOf]; try omega)
        · go_wp2_with fail
          refine (awake15_any _ mx (HM.out.kept KZ.out)).mono ?_
          rintro e w8 ⟨rfl, k8⟩
          go_wp2_with fail
          go_ret
          exact ⟨rfl, KZ.out.trans k8⟩
end Go.Proofs.YtipkjpcedfokhaaDoor
