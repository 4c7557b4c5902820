/- Layer 4: Quote. -/
import Derived.Test.YtipkjpcedfokhaaDoorGRef1
import Derived.Test.YtipkjpcedfokhaaDoorMQuote
import Derived.Lib.ReplaceLaws
namespace Go.Proofs.YtipkjpcedfokhaaDoor
set_option linter.unusedVariables false
set_option linter.unusedSimpArgs false
open Go.RowKit Lv

/-- the library's variable (the longest text that it searches in one step) holds some number -/
abbrev Mx (w : World) (m : Int) : Prop := w.cell? ⟨1, 0, none⟩ = some (.int .i64 m)
theorem Mx.kept {w w' : World} {m : Int} (h : Mx w m) (k : Kept w w') : Mx w' m := (k.cell (p := ⟨1, 0, none⟩) (World.block_lt_of_cell? w _ h)).trans h

theorem conv_two (w : World) : (convert 70 9 (.slice (some ⟨w.heap.size, 0, none⟩) 2 2)).run Tryd.prog (w.alloc (.cells #[.int .u8 34, .int .u8 34] 5)) = .ok (.string ⟨#[34, 34]⟩) (w.alloc (.cells #[.int .u8 34, .int .u8 34] 5)) := by
  have := run_convert_bytes_arg (P := Tryd.prog) (w.alloc (.cells #[.int .u8 34, .int .u8 34] 5)) 70 5 Tryd.underlying70 Tryd.underlying5 w.heap.size 0 2 2 (([34, 34] : List UInt8).map (fun b => (b.toNat : Int))) rfl
    (fun i hi => by
      rw [(Box.new w 5 #[.int .u8 34, .int .u8 34]).cell]
      match i, hi with
      | 0, _ => rfl
      | 1, _ => rfl) 9 Tryd.underlying9
  rw [strOfNums_list] at this
  exact this

def dQuote (l : List UInt8) : List UInt8 × Int := if dCheck l = 0 then (34 :: (qq l ++ [34]), 0) else ([], dCheck l)
theorem ret_si {l m : List UInt8} {a b : Int} (h : l = m) (g : a = b) : Ending.returned (.tuple #[.string ⟨l.toArray⟩, .int .i64 a]) = .returned (.tuple #[.string ⟨m.toArray⟩, .int .i64 b]) := by rw [h, g]

theorem repl_any (l : List UInt8) (w : World) (m : Int) (hl : l.length ≤ 1000000) (hm : Mx w m) : Calls Tryd.prog 77 #[.string ⟨l.toArray⟩, .string ⟨#[34]⟩, .string ⟨#[34, 34]⟩] w fun e w' => e = .returned (.string ⟨(qq l).toArray⟩) ∧ Kept w w' := by
  have hmul := Lib.countB_mul_le ⟨#[34]⟩ (by decide) l.length ⟨l.toArray⟩ (by rw [ba_size]; omega)
  have h := Tryd.strings_ReplaceAll ⟨l.toArray⟩ ⟨#[34]⟩ ⟨#[34, 34]⟩ m w (by rw [ba_size]; omega) hm (by decide) (by
    rw [ba_size]
    have e1 : (ByteArray.mk #[34]).size = 1 := rfl
    have e2 : (ByteArray.mk #[34, 34]).size = 2 := rfl
    rw [e1] at hmul; rw [ba_size] at hmul; rw [e2]; omega)
  have e : Lib.replaceAll (ByteArray.mk l.toArray).data.toList (ByteArray.mk #[34]).data.toList (ByteArray.mk #[34, 34]).data.toList = qq l := replaceAll_qq l
  rw [e] at h
  exact h

set_option maxHeartbeats 400000 in
theorem quote_any (l : List UInt8) (w : World) (m : Int) (hl : l.length ≤ 1000000) (hm : Mx w m) : Calls Tryd.prog 29 #[.string ⟨l.toArray⟩] w fun e w' => e = .returned (.tuple #[.string ⟨(dQuote l).1.toArray⟩, .int .i64 (dQuote l).2]) ∧ Kept w w' := by
  have C := Lib.hid (fun w => check_any l w hl)
  by_cases c : dCheck l = 0
  · have E : Hid (dQuote l = (34 :: (qq l ++ [34]), 0)) := if_pos c
    have R := Lib.hid (fun w (h : Mx w m) => repl_any l w m hl h)
    have ql : (qq l).length ≤ 2000000 := by have := qq_len l; omega
    generalize qq l = q at *
    have X := ba_append
    have CV := conv_two
    rw [c] at C
    clear c
    go_enter Tryd.func29, Tryd.ntmps29
    go_wp2_with fail
    refine (C.out _).mono ?_
    rintro e w' ⟨rfl, k1⟩
    have hm1 := Lib.hid (hm.kept k1)
    go_wp2_with fail
    refine (R.out _ (hm1.out.kept ((Kept.refl _).alloc _))).mono ?_
    rintro e w2 ⟨rfl, k2⟩
    have kk : Kept w w2 := (k1.alloc _).trans k2
    go_wp2_with fail
    go_ret2
    exact ⟨ret_si (by rw [E.out]) (by rw [E.out]), kk⟩
  · have E : Hid (dQuote l = ([], dCheck l)) := if_neg c
    have c1 : (dCheck l != 0) = true := by simpa using c
    generalize dCheck l = d at *
    generalize dQuote l = r at *
    clear c
    go_enter Tryd.func29, Tryd.ntmps29
    go_wp2_with fail
    refine (C.out _).mono ?_
    rintro e w' ⟨rfl, k1⟩
    go_wp2_with fail
    go_ret2
    exact ⟨ret_si (by rw [E.out]) (by rw [E.out]), (by repeat (first | with_reducible exact Kept.refl _ | with_reducible apply Kept.drew | with_reducible apply Kept.drewN | with_reducible apply Kept.alloc | (with_reducible refine Kept.setCellX ?_ ?_ _; focus (first | (simp; done) | (simp; omega))) | (with_reducible refine Kept.trans ?_ (by assumption))))⟩
end Go.Proofs.YtipkjpcedfokhaaDoor
