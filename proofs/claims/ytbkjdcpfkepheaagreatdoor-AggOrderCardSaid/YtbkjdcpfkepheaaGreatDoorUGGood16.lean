/- Layer 16: Good (printed by wip/mkagg14.py). -/
import Derived.Test.YtbkjdcpfkepheaaGreatDoorUMixAV
namespace Go.Proofs.YtbkjdcpfkepheaaGreatDoor
set_option linter.unusedVariables false
set_option linter.unusedSimpArgs false
open Go.RowKit Lv
set_option maxRecDepth 100000
theorem few16_len (l : List Ar) : (few16 l).length ≤ 20 := by unfold few16; rw [List.length_map, List.length_take]; omega
theorem few16_cells (l : List Ar) : ∀ a ∈ few16 l, a.l.length ≤ 60 := fun a ha => by
  obtain ⟨b, _, rfl⟩ := List.mem_map.1 ha; show ((b.l.take 60).map cutCl).length ≤ 60; rw [List.length_map, List.length_take]
  omega
theorem cut_wide {v : Vl} (h : Wide v) : Wide (cut300 v) := ⟨h.1, h.2.1, Nat.le_trans (by show (v.t.take 300).length ≤ 300; rw [List.length_take]; omega) (by decide)⟩
theorem few16_wide {l : List Ar} (h : ∀ a ∈ l, Wide a.v ∧ ∀ c ∈ a.l, Wide c.v) : ∀ a ∈ few16 l, Wide a.v ∧ ∀ c ∈ a.l, Wide c.v := fun a ha => by
  obtain ⟨b, hb, rfl⟩ := List.mem_map.1 ha; obtain ⟨h1, h2⟩ := h b (List.mem_of_mem_take hb); refine ⟨cut_wide h1, fun c hc => ?_⟩; obtain ⟨d, hd, rfl⟩ := List.mem_map.1 hc; exact cut_wide (h2 d (List.mem_of_mem_take hd))
theorem few16_new {m l : List Ar} (hm : m = few16 l) (A : Option Addr) (cap : Nat) (w : World) (hr : ArgsIn w A l) (hc : l.length ≤ cap) (hw : ∀ a ∈ l, a.l.length ≤ 2932031007402) : Calls Tryz.prog 10 #[.slice A l.length cap] w fun e w' => NewArgs w m e w' := by
  subst hm; exact (few16_own A cap l w hr hc hw).mono fun _ _ h => h.new
theorem own_nil0 {w0 w : World} {H : List Th} (h : Own w0 H w) : Own w0 (Th.row 0 46 5 (.slice none 0 0) 0 [] :: H) w := own_weak (h.nil 46 5) row_base rfl
theorem xpred {a : Act} {w : World} {o : Oper} {T2 : TypeId} {x y : Operand} (ho : o.op = .binOp .sub 3 x y T2) {n : Nat} (hx : a.eval x = .int .i64 (n : Int)) (h0 : ¬ n = 0) (h1 : n ≤ 900000) (hy : a.eval y = .int .i64 1 := by rfl) : (execOp a.eval o).run Tryz.prog w = .ok (.value (.int .i64 ((n - 1 : Nat) : Int))) w := by
  have e : ((n - 1 : Nat) : Int) = (n : Int) - 1 := by omega
  rw [e]; exact xsub (Or.inl rfl) ho (n := n) (m := 1) hx hy (by omega) (by omega)
theorem last_cell {w : World} {b n c : Nat} {A : Option Addr} {acc : List Cl} (h : w.ownsRow b 46 5 (.slice A n c) acc.length (acc.map clV).flatten) : ∃ (gc : Nat) (pl : Cl), ¬ (((acc.length : Nat) : Int) = (0 : Int)) → A = some ⟨gc, 0, none⟩ ∧ ElemK w gc (0 + (acc.length - 1) * 5) (clV pl) ∧ acc.getLast? = some pl := by
  rcases Nat.eq_zero_or_pos acc.length with h0 | h0
  · exact ⟨0, ⟨0, 0, blankV⟩, fun c => absurd (by omega) c⟩
  · obtain ⟨g, hA, _⟩ := own_at h h0
    obtain ⟨pl, hp⟩ := at_some (l := acc) (i := acc.length - 1) (by omega); exact ⟨g, pl, fun _ => ⟨hA, own_elem clV_len hA h hp, by rw [List.getLast?_eq_getElem?]; exact hp⟩⟩
theorem fitsC_iff {x : Rc} {acc : List Cl} {c pl : Cl} (h : ¬ (((acc.length : Nat) : Int) = (0 : Int)) → acc.getLast? = some pl) : fitsC x acc c = true ↔ ((vGood c.v).k ≠ 0 ∧ hasR x c.c c.r = true) ∧ (((acc.length : Nat) : Int) = (0 : Int) ∨ less16 pl c = true) := by
  unfold fitsC; rw [Bool.and_eq_true, Bool.and_eq_true, decide_eq_true_eq]; refine and_congr_right fun _ => ?_
  by_cases h0 : ((acc.length : Nat) : Int) = (0 : Int)
  · have : acc = [] := List.eq_nil_of_length_eq_zero (by omega)
    subst this
    simp
  · rw [h h0]
    exact ⟨fun z => Or.inr z, fun z => z.resolve_left h0⟩
theorem step_yes {x : Rc} {acc : List Cl} {c pl : Cl} {gc : Nat} {A : Option Addr} {w : World} {p : Nat} (h : ¬ (((acc.length : Nat) : Int) = (0 : Int)) → A = some ⟨gc, 0, none⟩ ∧ ElemK w gc p (clV pl) ∧ acc.getLast? = some pl) (g : ((((vGood c.v).k : Int) ≠ (0 : Int)) ∧ (hasR x c.c c.r = true)) ∧ ((((acc.length : Nat) : Int) = (0 : Int)) ∨ (less16 pl c = true))) : goodStep x acc c = acc ++ [goodCl c] := by
  unfold goodStep; rw [if_pos ((fitsC_iff fun z => (h z).2.2).2 ⟨⟨by have := g.1.1; omega, g.1.2⟩, g.2⟩)]
theorem step_no {x : Rc} {acc : List Cl} {c pl : Cl} {gc : Nat} {A : Option Addr} {w : World} {p : Nat} (h : ¬ (((acc.length : Nat) : Int) = (0 : Int)) → A = some ⟨gc, 0, none⟩ ∧ ElemK w gc p (clV pl) ∧ acc.getLast? = some pl) (g : ¬ (((((vGood c.v).k : Int) ≠ (0 : Int)) ∧ (hasR x c.c c.r = true)) ∧ ((((acc.length : Nat) : Int) = (0 : Int)) ∨ (less16 pl c = true)))) : goodStep x acc c = acc := by
  unfold goodStep; rw [if_neg]; intro z; obtain ⟨⟨z1, z2⟩, z3⟩ := (fitsC_iff fun z => (h z).2.2).1 z; exact g ⟨⟨by omega, z2⟩, z3⟩
theorem good_next {x : Rc} {l acc z : List Cl} {i : Nat} {c : Cl} (h : acc = (l.take i).foldl (goodStep x) []) (hc : l[i]? = some c) (hz : goodStep x acc c = z) : z = (l.take (i + 1)).foldl (goodStep x) [] := by
  rw [take_at hc, List.foldl_append, ← h, List.foldl_cons, List.foldl_nil, hz]
theorem goodTake_len (x : Rc) (l : List Cl) (i : Nat) : ((l.take i).foldl (goodStep x) []).length ≤ l.length := by
  have h := (goodCells_ok x (l.take i)).2; unfold goodCells at h; rw [List.length_take] at h
  omega
theorem good_push {L : List (Ar × Value)} {m : List Ar} {k : Nat} {a y : Ar} {s : Value} (hL : L.map Prod.fst = (m.take k).map goodAr) (ha : m[k]? = some a) (hy : goodAr a = y) : (L ++ [(y, s)]).map Prod.fst = (m.take (k + 1)).map goodAr := by
  rw [List.map_append, hL, take_at ha, List.map_append, List.map_singleton, List.map_singleton, hy]
theorem good_no {a : Ar} (h : (¬ (a.w = true)) ∨ ((chkR a.x : Int) ≠ (0 : Int))) : goodAr a = ⟨false, vGood a.v, noRc, []⟩ := by
  unfold goodAr; rw [if_neg]; rintro ⟨h1, h2⟩; rcases h with h | h
  · exact h h1
  · exact h (chkR_0 h2)
theorem good_okR {a : Ar} (h : ¬ ((¬ (a.w = true)) ∨ ((chkR a.x : Int) ≠ (0 : Int)))) : okR a.x = true := chkR_yes (fun c => h (Or.inr c))
theorem good_yes {a : Ar} (h : ¬ ((¬ (a.w = true)) ∨ ((chkR a.x : Int) ≠ (0 : Int)))) : goodAr a = ⟨true, blankV, a.x, goodCells a.x a.l⟩ := by
  unfold goodAr; rw [if_pos ⟨Classical.byContradiction fun c => h (Or.inl c), good_okR h⟩]
section
variable {w : World} {a : Act} {o : Oper} {ops : Array Oper} {rest : List Oper} {Q : Exit → Act → World → Prop}
theorem wl_appendCell (hw : Region.wanted o (yielded ops a.tmps) = true) {s x : Operand} (ho : o.op = .call { callee := .builtin .append, args := #[s, x], argTypes := #[35, 35] }) {v : Value} {l : List Cl} {y : Cl} {g c : Nat} (hs : a.eval s = v) (hx : a.eval x = .slice (some ⟨g, 0, none⟩) 1 c) (hown : (cellRow v l).p w) (hg : w.heap[g]? = some (.cells #[.int .i64 y.c, .int .i64 y.r, .int .u8 y.v.k, .int .i64 y.v.n, .string ⟨y.v.t.toArray⟩] 46 (0, 0))) (hl : l.length ≤ 900000)
    (h : ∀ v' w', (cellRow v' (l ++ [y])).p w' → w.grownBy w' v.ownBlock → (v'.ownBlock = v.ownBlock ∨ v'.ownBlock = some w.heap.size) → wpList Tryz.prog ops Q rest (a.put o.dst v') w') : wpList Tryz.prog ops Q (o :: rest) a w := by
  refine wl_appendK hw ho Tryz.underlying35 (k := 5) (by_ := 48) (info_k _ _ _ _ (by kernel_rfl) rfl) (by decide) (news := clV y) hs hx hown rfl (fun j u hj => ?_) (clV_one y) (by omega) (by simp only [maxLen]; omega) (Nat.zero_le _) (fun v' w' ho' hg' hb => h v' w' ?_ hg' hb)
  · rw [Go.WideShapes.add_plain, Nat.zero_add, cell_of_row w g j _ 46 (0, 0) hg, ← hj]
    simp [clV]
  · show w'.ownsRow 0 46 5 v' (l ++ [y]).length ((l ++ [y]).map clV).flatten
    rw [List.length_append, List.length_singleton, List.map_append, List.flatten_append]; exact (by simpa using ho')
end
theorem en_louvrelaw13_Good : En 18 := by intro args w; go_simp
theorem en_louvrelaw16_Few : En 10 := by intro args w; go_simp
theorem en_louvreref02_Less : En 42 := by intro args w; go_simp
theorem en_louvreref03_Has : En 41 := by intro args w; go_simp
set_option maxHeartbeats 4000000 in
theorem good16_own (A : Option Addr) (cap : Nat) (l : List Ar) (w : World) (hr : ArgsIn w A l) (hc : l.length ≤ cap) (hw : ∀ a ∈ l, a.l.length ≤ 2932031007402) (hwd : ∀ a ∈ l, Wide a.v ∧ ∀ c ∈ a.l, Wide c.v) :
    Calls Tryz.prog 13 #[.slice A l.length cap] w fun e w' => OwnArgs w (goodF (few16 l)) e w' := by
  obtain ⟨m, hmdef⟩ : ∃ m, m = few16 l := ⟨_, rfl⟩; have hml : m.length ≤ 20 := by rw [hmdef]; exact few16_len l
  have hmc : ∀ a ∈ m, a.l.length ≤ 60 := by rw [hmdef]; exact few16_cells l
  have hmw : ∀ a ∈ m, Wide a.v ∧ ∀ c ∈ a.l, Wide c.v := by rw [hmdef]; exact few16_wide hwd
  go_enter Tryz.func13, Tryz.ntmps13; refine sq fun hK1 => ?_
  refine ro [yV _] 1 113 rfl rfl (Own.start w) (
    aS (fun hk bs hd => xassign rfl rfl) rfl <|
    arm0) fun fa fw bs hv ap z q ow => ?_
  have s0 := bs.get 0 rfl rfl; have s2 := gv hv 0 rfl rfl; refine wt hK1 ?_; refine sq fun hK2 => ?_
  refine ro [yV _] 1 113 z q ow (
    aS (fun hk bs hd => xassign rfl rfl) rfl <|
    arm0) fun fa fw bs hv ap z q ow => ?_
  obtain ⟨s0, s2⟩ := b2 bs s0 s2; have s3 := gv hv 0 rfl rfl; refine wt hK2 ?_; refine sq fun hK3 => ?_
  refine ro [yV _] 1 113 z q ow (
    mvS s0 rfl rfl rfl rfl <|
    arm0) fun fa fw bs hv ap z q ow => ?_
  obtain ⟨s2, s3⟩ := b2 bs s2 s3; have s11 := gv hv 0 rfl rfl; refine wl_enter (want0 rfl) (xcall1 (u := .slice A l.length cap) rfl s11 (en_louvrelaw16_Few _ _)) ((few16_new hmdef A cap _ (hr.kept ow.kept) hc hw).mono ?_); rintro _ fw ⟨A1, p1, rfl, hr1, hp1, hn1, hk⟩; refine ⟨_, rfl, ?_⟩; rcases (rfl : (0 : Nat) = 0) with _
  obtain ⟨w1, rfl⟩ : ∃ z, z = fw := ⟨_, rfl⟩; have o0 := ow.keep hk; clear hk; have ow := Own.start w1; refine wl_value (v := .slice A1 m.length p1) (want0 rfl) (xassign rfl (put_in (t := 12) z rfl)) ?_; refine gt3 (put_size (put_size z)) (put_def (put_def q)) ow 2 (pb 4 (pb 12 s2 rfl) rfl) 3 (pb 4 (pb 12 s3 rfl) rfl) 4 (put_in (t := 4) (put_size z) rfl) fun fa fw z q ow s2 s3 s4 => ?_; refine wt hK3 ?_; refine sq fun hK4 => ?_; refine sq fun hK5 => ?_
  refine ro [yV _] 1 113 z q ow (
    aS (fun hk bs hd => xassign rfl rfl) rfl <|
    arm0) fun fa fw bs hv ap z q ow => ?_
  obtain ⟨s2, s3, s4⟩ := b3 bs s2 s3 s4; have s5 := gv hv 0 rfl rfl; refine wt hK5 ?_; refine wp_block ?_; refine wp_loop_g (fun (k : Nat) fr u => ∃ (v : Value), ∃ (L : List (Ar × Value)), (k ≤ m.length) ∧ (L.map Prod.fst = (m.take k).map goodAr) ∧ fr.tmps.size = 113 ∧ fr.defers = [] ∧ Own w1 ((argTh v L) :: (L.map cellTh)) u ∧ fr.eval (.tmp 2) = .slice none 0 0 ∧ fr.eval (.tmp 3) = v ∧ fr.eval (.tmp 4) = .slice A1 m.length p1 ∧ fr.eval (.tmp 5) = .int .i64 (k : Int)) (fun k => m.length - k) 0 ⟨(.slice none 0 0), [], (Nat.zero_le _), (by simp), z, q, (own_args_nil ow), s2, s3, s4, s5⟩ (fun k b_ u_ hI => ?_)
  revert b_ u_; intro fa fw hI
  obtain ⟨v, L, hk0, hL, z, q, ow, s2, s3, s4, s5⟩ := hI; refine sq fun hK6 => ?_; refine sq fun hK7 => ?_
  refine ro [yV _, yV _, yV _, yV _] 4 113 z q ow (
    mvS s5 rfl rfl rfl rfl <|
    mvS s4 rfl rfl rfl rfl <|
    aS (fun hk bs hd => xlen Tryz.underlying22 rfl (dp hd 1 rfl)) rfl <|
    aS (fun hk bs hd => xlss rfl (dp hd 0 rfl) (dp hd 2 rfl)) rfl <|
    arm0) fun fa fw bs hv ap z q ow => ?_
  obtain ⟨s2, s3, s4, s5⟩ := b4 bs s2 s3 s4 s5; have s16 := gv hv 3 rfl rfl; refine wt hK7 ?_
  by_cases hc1 : (k : Int) < ((m.length : Nat) : Int)
  ·refine ct s16 ((decide_eq_true_iff).2 hc1) ?_
   refine wp_skip ?_; refine tn hK6 ?_; refine sq fun hK8 => ?_; refine wp_block ?_; refine sq fun hK9 => ?_; have hltk : k < m.length := by omega
   obtain ⟨a, ha⟩ := at_some hltk; obtain ⟨ba, oa, A3, c3, Aa, ea, r1, l1⟩ := hr1.elem ha; have hac := hmc a (List.mem_of_getElem? ha); have hwa := hmw a (List.mem_of_getElem? ha)
   refine ro [yV _, yV _, yV _, yV (.pointer (some ⟨ba, oa + k * 9 + 4, none⟩)), yV (.pointer (some ⟨ba, oa + k * 9 + 4, none⟩)), yV (.agg #[.int .i64 a.x.c1, .int .i64 a.x.r1, .int .i64 a.x.c2, .int .i64 a.x.r2]), yNew fw.heap.size (.cells #[.int .i64 0, .int .i64 0, .int .i64 0, .int .i64 0] 34 (0, 0))] 7 113 z q ow (
     mvS s4 rfl rfl rfl rfl <|
     mvS s5 rfl rfl rfl rfl <|
     aS (fun hk bs hd => xplaceK 9 Tryz.underlying22 (by kernel_rfl) rfl Aa (dp hd 0 rfl) (dp hd 1 rfl) hltk) rfl <|
     aS (fun hk bs hd => xfieldAddr rfl (dp hd 2 rfl) (by kernel_rfl)) rfl <|
     aS (fun hk bs hd => xfieldAddr rfl (dp hd 3 rfl) (by kernel_rfl)) rfl <|
     aS (fun hk bs hd => xpartK (n := 4) 4 rfl (by kernel_rfl) (by kernel_rfl) (dp hd 4 rfl) rfl (ea.kept (ow.keep hk).kept)) rfl <|
     aP (fun hk bs hd => xalloc rfl (by kernel_rfl)) rfl <|
     arm0) fun fa fw bs hv ap z q ov => ?_
   obtain ⟨s2, s3, s4, s5⟩ := b4 bs s2 s3 s4 s5; have s24 := gv hv 5 rfl rfl; obtain ⟨gb1, s6, bgb1, hgb1⟩ := gotP hv 6 rfl rfl rfl; have ov := ov.cons hgb1 (Nat.le_trans ow.kept.size bgb1) (ow.below bgb1); have ow := ov; refine ws ow 0 0 s6 s24 fun fw ow => ?_; refine wt hK9 ?_; refine sq fun hK10 => ?_; refine sq fun hK11 => ?_
   refine ro [yV _, yV _, yV _, yV (.pointer (some ⟨ba, oa + k * 9, none⟩)), yV _, yV _, yV _, yIf _ (yV (.agg #[.int .i64 a.x.c1, .int .i64 a.x.r1, .int .i64 a.x.c2, .int .i64 a.x.r2])), yIf _ (yV (.int .i64 (chkR a.x))), yIf _ (yV _), yV _] 11 113 z q ow (
     mvS s4 rfl rfl rfl rfl <|
     mvS s5 rfl rfl rfl rfl <|
     aS (fun hk bs hd => xplaceK 9 Tryz.underlying22 (by kernel_rfl) rfl Aa (dp hd 0 rfl) (dp hd 1 rfl) hltk) rfl <|
     aS (fun hk bs hd => xfieldAddr rfl (dp hd 2 rfl) (by kernel_rfl)) rfl <|
     aS (fun hk bs hd => xcellK 0 rfl (by kernel_rfl) (dp hd 3 rfl) rfl (ea.kept (ow.keep hk).kept) rfl) rfl <|
     aS (fun hk bs hd => xnot rfl (dp hd 4 rfl)) rfl <|
     mvD 5 rfl rfl rfl rfl rfl rfl <|
     ai (g1 6 rfl rfl) (fun hk bs hd hz => xloadN 4 rfl (by kernel_rfl) (by kernel_rfl) (bg bs s6) ((ow.keep hk).box 0 rfl) (Nat.le_of_ble_eq_true rfl) rfl) rfl <|
     aiC (g1 6 rfl rfl) (fun hk bs hd hz => xcall1 rfl (di hd 7 rfl hz) (en_louvreref03_Check _ _)) (fun hk bs hd hz => rrect_any a.x _) rfl <|
     ai (g1 6 rfl rfl) (fun hk bs hd hz => xnei rfl (di hd 8 rfl hz) rfl) rfl <|
     aS (fun hk bs hd => xor_ rfl (dp hd 6 rfl) rfl (fun hb => di hd 9 rfl hb)) rfl <|
     arm0) fun fa fw bs hv ap z q ow => ?_
   obtain ⟨s2, s3, s4, s5, s6⟩ := b5 bs s2 s3 s4 s5 s6; have s35 := gv hv 10 rfl rfl; refine wt hK11 ?_
   by_cases hc2 : (¬ (a.w = true)) ∨ ((chkR a.x : Int) ≠ (0 : Int))
   ·refine ct s35 ((bor (bnot (Iff.rfl)) (decide_eq_true_iff)).2 hc2) ?_
    have hg2 : goodAr a = (⟨false, vGood a.v, noRc, []⟩ : Ar) := good_no hc2; refine sq fun hK12 => ?_
    refine ro [yV _, yV _, yV _, yV _, yV (.pointer (some ⟨ba, oa + k * 9 + 1, none⟩)), yV (aggV a.v), yV (aggV (vGood a.v)), yV (.agg #[.bool false, .int .u8 ((vGood a.v).k), .int .i64 ((vGood a.v).n), .string ⟨((vGood a.v).t).toArray⟩, .int .i64 0, .int .i64 0, .int .i64 0, .int .i64 0, .slice none 0 0]), ySlice fw.heap.size 1 (.cells #[.bool false, .int .u8 ((vGood a.v).k), .int .i64 ((vGood a.v).n), .string ⟨((vGood a.v).t).toArray⟩, .int .i64 0, .int .i64 0, .int .i64 0, .int .i64 0, .slice none 0 0] 39 (0, 0))] 9 113 z q ow (
      mvS s3 rfl rfl rfl rfl <|
      mvS s4 rfl rfl rfl rfl <|
      mvS s5 rfl rfl rfl rfl <|
      aS (fun hk bs hd => xplaceK 9 Tryz.underlying22 (by kernel_rfl) rfl Aa (dp hd 1 rfl) (dp hd 2 rfl) hltk) rfl <|
      aS (fun hk bs hd => xfieldAddr rfl (dp hd 3 rfl) (by kernel_rfl)) rfl <|
      aS (fun hk bs hd => xpartK (n := 3) 1 rfl (by kernel_rfl) (by kernel_rfl) (dp hd 4 rfl) rfl (ea.kept (ow.keep hk).kept)) rfl <|
      aC (fun hk bs hd => xcall1 rfl (dp hd 5 rfl) (en_louvrelaw13_Good _ _)) (fun hk bs hd => good_any a.v _ hwa.1) rfl <|
      arm (fun aa ww hk bs hd => by
        have d6 : aa.eval (.tmp 42) = aggV (vGood a.v) := depX hd 6 rfl; exact stepX_same (v := .agg #[.bool false, .int .u8 ((vGood a.v).k), .int .i64 ((vGood a.v).n), .string ⟨((vGood a.v).t).toArray⟩, .int .i64 0, .int .i64 0, .int .i64 0, .int .i64 0, .slice none 0 0]) (want0 rfl) (xbuild (us := #[(1, aggV (vGood a.v))]) rfl (by simp only [List.map_toArray, List.map_cons, List.map_nil, d6]) (by kernel_rfl)) rfl rfl
        ) <|
      arm (fun aa ww hk bs hd => by
        have d7 : aa.eval (.tmp 43) = .agg #[.bool false, .int .u8 ((vGood a.v).k), .int .i64 ((vGood a.v).n), .string ⟨((vGood a.v).t).toArray⟩, .int .i64 0, .int .i64 0, .int .i64 0, .int .i64 0, .slice none 0 0] := depX hd 7 rfl; exact stepX_new _ (want0 rfl) (xbuildSlice (us := #[(0, .agg #[.bool false, .int .u8 ((vGood a.v).k), .int .i64 ((vGood a.v).n), .string ⟨((vGood a.v).t).toArray⟩, .int .i64 0, .int .i64 0, .int .i64 0, .int .i64 0, .slice none 0 0])]) (b := .cells #[.bool false, .int .u8 ((vGood a.v).k), .int .i64 ((vGood a.v).n), .string ⟨((vGood a.v).t).toArray⟩, .int .i64 0, .int .i64 0, .int .i64 0, .int .i64 0, .slice none 0 0] 39 (0, 0)) rfl (by simp only [List.map_toArray, List.map_cons, List.map_nil, d7]) (by kernel_rfl)) ⟨_, rfl, hk.size, Go.heap_alloc_new _ _⟩ ((Kept.refl _).alloc _) rfl (Nat.le_refl _)
        ) <|
      arm0) fun fa fw bs hv ap z q ov => ?_
    obtain ⟨s2, s3, s4, s5, s6⟩ := b5 bs s2 s3 s4 s5 s6; have s36 := gv hv 0 rfl rfl; obtain ⟨gb2, s44, bgb2, hgb2⟩ := gotL hv 8 rfl rfl rfl; have ov := ov.cons hgb2 (Nat.le_trans ow.kept.size bgb2) (ow.below bgb2); have ow := ov; refine wl_appendArg (want0 rfl) rfl (y := (⟨false, vGood a.v, noRc, []⟩ : Ar)) (sy := (.slice none 0 0)) s36 s44 (ow.thing 2 rfl) (ow.get 0 rfl) rfl (by have := congrArg List.length hL; simp only [List.length_map, List.length_take] at this; omega) (fun vr1 fw1 ho hg hb => ?_); have ow := ow.turn 2 rfl (t' := argTh vr1 (L ++ [((⟨false, vGood a.v, noRc, []⟩ : Ar), (.slice none 0 0))])) ho hg (turn_new hb); clear ho hg hb; refine wl_value (v := vr1) (want0 rfl) (xassign rfl (put_in (t := 45) z rfl)) ?_; refine gt5 (put_size (put_size z)) (put_def (put_def q)) ow 2 (pb 3 (pb 45 s2 rfl) rfl) 4 (pb 3 (pb 45 s4 rfl) rfl) 5 (pb 3 (pb 45 s5 rfl) rfl) 6 (pb 3 (pb 45 s6 rfl) rfl) 3 (put_in (t := 3) (put_size z) rfl) fun fa fw z q ow s2 s4 s5 s6 s3 => ?_; refine wt hK12 ?_; refine wp_exit ?_; refine then_e ?_; refine block_hit ?_; refine tn hK8 ?_
    refine ro [yV _, yV (.int .i64 ((k + 1 : Nat) : Int))] 2 113 z q ow (
      mvS s5 rfl rfl rfl rfl <|
      aS (fun hk bs hd => xadd (Or.inl rfl) rfl (dp hd 0 rfl) rfl (by omega) (by omega)) rfl <|
      arm0) fun fa fw bs hv ap z q ow => ?_
    obtain ⟨s2, s4, s5, s3⟩ := b4 bs s2 s4 s5 s3; have s18 := gv hv 1 rfl rfl; refine wl_value (v := .int .i64 ((k + 1 : Nat) : Int)) (want0 rfl) (xassign rfl s18) ?_; refine gp3 z q ow s2 s4 s3 fun fa fw z q ow s2 s4 s3 s5 => ?_; refine wl_end ?_; exact then_n ⟨(k + 1), ⟨vr1, (L ++ [((⟨false, vGood a.v, noRc, []⟩ : Ar), (.slice none 0 0))]), hltk, (good_push hL ha hg2), z, q, (own_snoc (s := (.slice none 0 0)) (y := (⟨false, vGood a.v, noRc, []⟩ : Ar)) (own_nil0 (ow.sub (List.Sublist.cons _ (List.Sublist.cons _ (List.Sublist.cons_cons _ (List.Sublist.refl _))))))), s2, s3, s4, s5⟩, (show m.length - (k + 1) < m.length - k by omega)⟩
   refine cf s35 (bor (bnot (Iff.rfl)) (decide_eq_true_iff)) hc2 ?_; have hg := good_yes hc2; have hok := good_okR hc2; refine wp_skip ?_; refine tn hK10 ?_; refine sq fun hK13 => ?_
   refine ro [yV (.agg #[.int .i64 a.x.c1, .int .i64 a.x.r1, .int .i64 a.x.c2, .int .i64 a.x.r2]), yV (.agg #[.int .i64 a.x.c1, .int .i64 a.x.r1, .int .i64 a.x.c2, .int .i64 a.x.r2, .slice none 0 0]), yNew fw.heap.size (.cells #[.int .i64 0, .int .i64 0, .int .i64 0, .int .i64 0, .slice none 0 0] 37 (0, 0))] 3 113 z q ow (
     aS (fun hk bs hd => xloadN 4 rfl (by kernel_rfl) (by kernel_rfl) (bg bs s6) ((ow.keep hk).box 0 rfl) (Nat.le_of_ble_eq_true rfl) rfl) rfl <|
     arm (fun aa ww hk bs hd => by
       have d0 : aa.eval (.tmp 46) = .agg #[.int .i64 a.x.c1, .int .i64 a.x.r1, .int .i64 a.x.c2, .int .i64 a.x.r2] := depX hd 0 rfl; exact stepX_same (v := .agg #[.int .i64 a.x.c1, .int .i64 a.x.r1, .int .i64 a.x.c2, .int .i64 a.x.r2, .slice none 0 0]) (want0 rfl) (xbuild (us := #[(0, .agg #[.int .i64 a.x.c1, .int .i64 a.x.r1, .int .i64 a.x.c2, .int .i64 a.x.r2])]) rfl (by simp only [List.map_toArray, List.map_cons, List.map_nil, d0]) (by kernel_rfl)) rfl rfl
       ) <|
     aP (fun hk bs hd => xalloc rfl (by kernel_rfl)) rfl <|
     arm0) fun fa fw bs hv ap z q ov => ?_
   obtain ⟨s2, s3, s4, s5, s6⟩ := b5 bs s2 s3 s4 s5 s6; have s47 := gv hv 1 rfl rfl; obtain ⟨gb3, s7, bgb3, hgb3⟩ := gotP hv 2 rfl rfl rfl; have ov := ov.cons hgb3 (Nat.le_trans ow.kept.size bgb3) (ow.below bgb3); have ow := ov; refine ws ow 0 0 s7 s47 fun fw ow => ?_; refine wt hK13 ?_; refine sq fun hK14 => ?_; refine sq fun hK15 => ?_
   refine ro [yV _] 1 113 z q ow (
     aS (fun hk bs hd => xassign rfl rfl) rfl <|
     arm0) fun fa fw bs hv ap z q ow => ?_
   obtain ⟨s2, s3, s4, s5, s6, s7⟩ := b6 bs s2 s3 s4 s5 s6 s7; have s8 := gv hv 0 rfl rfl; refine wt hK15 ?_; refine wp_block ?_; refine wp_loop_g (fun (i : Nat) fr u => ∃ (A2 : Option Addr), ∃ (c2 : Nat), ∃ (acc : List Cl), (i ≤ a.l.length) ∧ (acc = (a.l.take i).foldl (goodStep a.x) []) ∧ fr.tmps.size = 113 ∧ fr.defers = [] ∧ Own w1 ((cellRow (.slice A2 acc.length c2) acc) :: (Th.obj gb3 (.cells #[.int .i64 a.x.c1, .int .i64 a.x.r1, .int .i64 a.x.c2, .int .i64 a.x.r2, .slice A2 acc.length c2] 37 (0, 0))) :: (Th.obj gb1 (.cells #[.int .i64 a.x.c1, .int .i64 a.x.r1, .int .i64 a.x.c2, .int .i64 a.x.r2] 34 (0, 0))) :: (argTh v L) :: (L.map cellTh)) u ∧ fr.eval (.tmp 2) = .slice none 0 0 ∧ fr.eval (.tmp 3) = v ∧ fr.eval (.tmp 4) = .slice A1 m.length p1 ∧ fr.eval (.tmp 5) = .int .i64 (k : Int) ∧ fr.eval (.tmp 6) = .pointer (some ⟨gb1, 0, none⟩) ∧ fr.eval (.tmp 7) = .pointer (some ⟨gb3, 0, none⟩) ∧ fr.eval (.tmp 8) = .int .i64 (i : Int)) (fun i => a.l.length - i) 0 ⟨none, 0, [], (Nat.zero_le _), (by simp), z, q, (own_nil0 ow), s2, s3, s4, s5, s6, s7, s8⟩ (fun i b_ u_ hI => ?_)
   revert b_ u_; intro fa fw hI
   obtain ⟨A2, c2, acc, hi0, hacc, z, q, ow, s2, s3, s4, s5, s6, s7, s8⟩ := hI; refine sq fun hK16 => ?_; refine sq fun hK17 => ?_
   refine ro [yV _, yV _, yV _, yV _, yV (.pointer (some ⟨ba, oa + k * 9 + 4, none⟩)), yV (.pointer (some ⟨ba, oa + k * 9 + 4 + 4, none⟩)), yV _, yV _, yV _] 9 113 z q ow (
     mvS s8 rfl rfl rfl rfl <|
     mvS s4 rfl rfl rfl rfl <|
     mvS s5 rfl rfl rfl rfl <|
     aS (fun hk bs hd => xplaceK 9 Tryz.underlying22 (by kernel_rfl) rfl Aa (dp hd 1 rfl) (dp hd 2 rfl) hltk) rfl <|
     aS (fun hk bs hd => xfieldAddr rfl (dp hd 3 rfl) (by kernel_rfl)) rfl <|
     aS (fun hk bs hd => xfieldAddr rfl (dp hd 4 rfl) (by kernel_rfl)) rfl <|
     aS (fun hk bs hd => xcellK 8 rfl (by kernel_rfl) (dp hd 5 rfl) rfl (ea.kept (ow.keep hk).kept) rfl) rfl <|
     aS (fun hk bs hd => xlen Tryz.underlying35 rfl (dp hd 6 rfl)) rfl <|
     aS (fun hk bs hd => xlss rfl (dp hd 0 rfl) (dp hd 7 rfl)) rfl <|
     arm0) fun fa fw bs hv ap z q ow => ?_
   obtain ⟨s2, s3, s4, s5, s6, s7, s8⟩ := b7 bs s2 s3 s4 s5 s6 s7 s8; have s56 := gv hv 8 rfl rfl; refine wt hK17 ?_
   by_cases hc3 : (i : Int) < ((a.l.length : Nat) : Int)
   ·refine ct s56 ((decide_eq_true_iff).2 hc3) ?_
    refine wp_skip ?_; refine tn hK16 ?_; refine sq fun hK18 => ?_; refine wp_block ?_; refine sq fun hK19 => ?_; have hlti : i < a.l.length := by omega
    obtain ⟨cl, hcl⟩ := at_some hlti; obtain ⟨bcl, ocl, Acl, ecl⟩ := r1.elem hcl
    refine ro [yV _, yV _, yV _, yV (.pointer (some ⟨ba, oa + k * 9 + 4, none⟩)), yV (.pointer (some ⟨ba, oa + k * 9 + 4 + 4, none⟩)), yV _, yV _, yV _, yV (.agg #[.int .i64 cl.c, .int .i64 cl.r, .int .u8 cl.v.k, .int .i64 cl.v.n, .string ⟨cl.v.t.toArray⟩]), yNew fw.heap.size (.cells #[.int .i64 0, .int .i64 0, .int .u8 0, .int .i64 0, .string ⟨[].toArray⟩] 46 (0, 0))] 10 113 z q ow (
      mvS s4 rfl rfl rfl rfl <|
      mvS s5 rfl rfl rfl rfl <|
      aS (fun hk bs hd => xplaceK 9 Tryz.underlying22 (by kernel_rfl) rfl Aa (dp hd 0 rfl) (dp hd 1 rfl) hltk) rfl <|
      aS (fun hk bs hd => xfieldAddr rfl (dp hd 2 rfl) (by kernel_rfl)) rfl <|
      aS (fun hk bs hd => xfieldAddr rfl (dp hd 3 rfl) (by kernel_rfl)) rfl <|
      aS (fun hk bs hd => xcellK 8 rfl (by kernel_rfl) (dp hd 4 rfl) rfl (ea.kept (ow.keep hk).kept) rfl) rfl <|
      mvS s8 rfl rfl rfl rfl <|
      aS (fun hk bs hd => xplaceK 5 Tryz.underlying35 (by kernel_rfl) rfl Acl (dp hd 5 rfl) (dp hd 6 rfl) hlti) rfl <|
      aS (fun hk bs hd => xpartK (n := 5) 0 rfl (by kernel_rfl) (by kernel_rfl) (dp hd 7 rfl) rfl (ecl.kept (ow.keep hk).kept)) rfl <|
      aP (fun hk bs hd => xalloc rfl (by kernel_rfl)) rfl <|
      arm0) fun fa fw bs hv ap z q ov => ?_
    obtain ⟨s2, s3, s4, s5, s6, s7, s8⟩ := b7 bs s2 s3 s4 s5 s6 s7 s8; have s67 := gv hv 8 rfl rfl; obtain ⟨gb4, s9, bgb4, hgb4⟩ := gotP hv 9 rfl rfl rfl; have ov := ov.cons hgb4 (Nat.le_trans ow.kept.size bgb4) (ow.below bgb4); have ow := ov; refine ws ow 0 0 s9 s67 fun fw ow => ?_; refine wt hK19 ?_; refine sq fun hK20 => ?_
    refine ro [yV (.pointer (some ⟨gb4, 2, none⟩)), yV (aggV cl.v), yV (aggV (vGood cl.v)), yV (.pointer (some ⟨gb4, 2, none⟩))] 4 113 z q ow (
      aS (fun hk bs hd => xfieldAddr rfl (bg bs s9) (by kernel_rfl)) rfl <|
      aS (fun hk bs hd => xloadN 3 rfl (by kernel_rfl) (by kernel_rfl) (dp hd 0 rfl) ((ow.keep hk).box 0 rfl) (Nat.le_of_ble_eq_true rfl) rfl) rfl <|
      aC (fun hk bs hd => xcall1 rfl (dp hd 1 rfl) (en_louvrelaw13_Good _ _)) (fun hk bs hd => good_any cl.v _ (hwa.2 _ (List.mem_of_getElem? hcl))) rfl <|
      aS (fun hk bs hd => xfieldAddr rfl (bg bs s9) (by kernel_rfl)) rfl <|
      arm0) fun fa fw bs hv ap z q ow => ?_
    obtain ⟨s2, s3, s4, s5, s6, s7, s8, s9⟩ := b8 bs s2 s3 s4 s5 s6 s7 s8 s9; have s70 := gv hv 2 rfl rfl; have s71 := gv hv 3 rfl rfl; refine ws ow 0 2 s71 s70 fun fw ow => ?_; refine wt hK20 ?_; refine sq fun hK21 => ?_
    refine ro [yV (.pointer (some ⟨gb3, 4, none⟩)), yV _, yV _, yV _] 4 113 z q ow (
      aS (fun hk bs hd => xfieldAddr rfl (bg bs s7) (by kernel_rfl)) rfl <|
      aS (fun hk bs hd => xloadB rfl (by kernel_rfl) (dp hd 0 rfl) ((ow.keep hk).box 2 rfl) rfl) rfl <|
      aS (fun hk bs hd => xlen Tryz.underlying35 rfl (dp hd 1 rfl)) rfl <|
      asD 2 rfl rfl rfl rfl rfl rfl <|
      arm0) fun fa fw bs hv ap z q ow => ?_
    obtain ⟨s2, s3, s4, s5, s6, s7, s8, s9⟩ := b8 bs s2 s3 s4 s5 s6 s7 s8 s9; have s10 := gv hv 3 rfl rfl; refine wt hK21 ?_; refine sq fun hK22 => ?_; obtain ⟨gc, pl, hpl⟩ := last_cell (ow.row 1 rfl); have hal : acc.length ≤ 60 := by have := (goodTake_len a.x a.l i); rw [← hacc] at this; omega
    refine ro [yV (.pointer (some ⟨gb4, 2, none⟩)), yV (.pointer (some ⟨gb4, 2, none⟩)), yV _, yV _, yV _, yIf _ (yV (.agg #[.int .i64 a.x.c1, .int .i64 a.x.r1, .int .i64 a.x.c2, .int .i64 a.x.r2])), yIf _ (yV (.pointer (some ⟨gb4, 0, none⟩))), yIf _ (yV (.agg #[.int .i64 cl.c, .int .i64 cl.r])), yIf _ (yV (.bool (hasR a.x cl.c cl.r))), yV _, yV _, yIf _ (yV _), yIf _ (yV _), yIf _ (yV _), yIf _ (yV (.pointer (some ⟨gb3, 4, none⟩))), yIf _ (yV _), yIf _ (yV _), yIf _ (yV (.int .i64 ((acc.length - 1 : Nat) : Int))), yIf _ (yV _), yIf _ (yV (.pointer (some ⟨gc, 0 + (acc.length - 1) * 5, none⟩))), yIf _ (yV (.agg #[.int .i64 pl.c, .int .i64 pl.r])), yIf _ (yV (.pointer (some ⟨gb4, 0, none⟩))), yIf _ (yV (.agg #[.int .i64 cl.c, .int .i64 cl.r])), yIf _ (yV (.bool (less16 pl cl))), yIf _ (yV _), yV _] 26 113 z q ow (
      aS (fun hk bs hd => xfieldAddr rfl (bg bs s9) (by kernel_rfl)) rfl <|
      aS (fun hk bs hd => xfieldAddr rfl (dp hd 0 rfl) (by kernel_rfl)) rfl <|
      aS (fun hk bs hd => xloadB rfl (by kernel_rfl) (dp hd 1 rfl) ((ow.keep hk).box 0 rfl) rfl) rfl <|
      aS (fun hk bs hd => xnei rfl (dp hd 2 rfl) rfl) rfl <|
      mvD 3 rfl rfl rfl rfl rfl rfl <|
      ai (g1 4 rfl rfl) (fun hk bs hd hz => xloadN 4 rfl (by kernel_rfl) (by kernel_rfl) (bg bs s6) ((ow.keep hk).box 3 rfl) (Nat.le_of_ble_eq_true rfl) rfl) rfl <|
      ai (g1 4 rfl rfl) (fun hk bs hd hz => xfieldAddr rfl (bg bs s9) (by kernel_rfl)) rfl <|
      ai (g1 4 rfl rfl) (fun hk bs hd hz => xloadN 2 rfl (by kernel_rfl) (by kernel_rfl) (di hd 6 rfl hz) ((ow.keep hk).box 0 rfl) (Nat.le_of_ble_eq_true rfl) rfl) rfl <|
      aiC (g1 4 rfl rfl) (fun hk bs hd hz => xcall2 rfl (di hd 5 rfl hz) (di hd 7 rfl hz) (en_louvreref03_Has _ _)) (fun hk bs hd hz => rrhas_any a.x cl.c cl.r _) rfl <|
      aS (fun hk bs hd => xand rfl (dp hd 4 rfl) (fun hb => di hd 8 rfl hb) rfl) rfl <|
      mvD 9 rfl rfl rfl rfl rfl rfl <|
      ai (g1 10 rfl rfl) (fun hk bs hd hz => xmove rfl (bg bs s10)) rfl <|
      ai (g1 10 rfl rfl) (fun hk bs hd hz => xeqi rfl (di hd 11 rfl hz) rfl) rfl <|
      ai (g1 10 rfl rfl) (fun hk bs hd hz => xmove rfl (di hd 12 rfl hz)) rfl <|
      ai (g2 13 rfl rfl) (fun hk bs hd hz => xfieldAddr rfl (bg bs s7) (by kernel_rfl)) rfl <|
      ai (g2 13 rfl rfl) (fun hk bs hd hz => xloadB rfl (by kernel_rfl) (di hd 14 rfl hz) ((ow.keep hk).box 2 rfl) rfl) rfl <|
      ai (g2 13 rfl rfl) (fun hk bs hd hz => xmove rfl (bg bs s10)) rfl <|
      ai (g2 13 rfl rfl) (fun hk bs hd hz => xpred rfl (di hd 16 rfl hz) (by have := of_decide_eq_false hz.2; omega) (by omega)) rfl <|
      ai (g2 13 rfl rfl) (fun hk bs hd hz => xplaceK 5 Tryz.underlying35 (by kernel_rfl) rfl (hpl (of_decide_eq_false hz.2)).1 (di hd 15 rfl hz) (di hd 17 rfl hz) (by have := of_decide_eq_false hz.2; omega)) rfl <|
      ai (g2 13 rfl rfl) (fun hk bs hd hz => xfieldAddr rfl (di hd 18 rfl hz) (by kernel_rfl)) rfl <|
      ai (g2 13 rfl rfl) (fun hk bs hd hz => xpartK (n := 2) 0 rfl (by kernel_rfl) (by kernel_rfl) (di hd 19 rfl hz) rfl ((hpl (of_decide_eq_false hz.2)).2.1.kept hk)) rfl <|
      ai (g2 13 rfl rfl) (fun hk bs hd hz => xfieldAddr rfl (bg bs s9) (by kernel_rfl)) rfl <|
      ai (g2 13 rfl rfl) (fun hk bs hd hz => xloadN 2 rfl (by kernel_rfl) (by kernel_rfl) (di hd 21 rfl hz) ((ow.keep hk).box 0 rfl) (Nat.le_of_ble_eq_true rfl) rfl) rfl <|
      aiC (g2 13 rfl rfl) (fun hk bs hd hz => xcall2 rfl (di hd 20 rfl hz) (di hd 22 rfl hz) (en_louvreref02_Less _ _)) (fun hk bs hd hz => rless_any pl cl _) rfl <|
      ai (g1 10 rfl rfl) (fun hk bs hd hz => xor_ rfl (di hd 13 rfl hz) rfl (fun hb => di hd 23 rfl ⟨hz, hb⟩)) rfl <|
      aS (fun hk bs hd => xand rfl (dp hd 10 rfl) (fun hb => di hd 24 rfl hb) rfl) rfl <|
      arm0) fun fa fw bs hv ap z q ow => ?_
    obtain ⟨s2, s3, s4, s5, s6, s7, s8, s9⟩ := b8 bs s2 s3 s4 s5 s6 s7 s8 s9; have s100 := gv hv 25 rfl rfl; refine wt hK22 ?_
    by_cases hc4 : ((((vGood cl.v).k : Int) ≠ (0 : Int)) ∧ ((hasR a.x cl.c cl.r) = true)) ∧ ((((acc.length : Nat) : Int) = (0 : Int)) ∨ ((less16 pl cl) = true))
    ·refine ct s100 ((band (band (decide_eq_true_iff) (Iff.rfl)) (bor (decide_eq_true_iff) (Iff.rfl))).2 hc4) ?_
     have hstep := step_yes hpl hc4
     refine ro [yV (.pointer (some ⟨gb3, 4, none⟩)), yV _, yV (.agg #[.int .i64 cl.c, .int .i64 cl.r, .int .u8 ((vGood cl.v).k), .int .i64 ((vGood cl.v).n), .string ⟨((vGood cl.v).t).toArray⟩]), ySlice fw.heap.size 1 (.cells #[.int .i64 cl.c, .int .i64 cl.r, .int .u8 ((vGood cl.v).k), .int .i64 ((vGood cl.v).n), .string ⟨((vGood cl.v).t).toArray⟩] 46 (0, 0))] 4 113 z q ow (
       aS (fun hk bs hd => xfieldAddr rfl (bg bs s7) (by kernel_rfl)) rfl <|
       aS (fun hk bs hd => xloadB rfl (by kernel_rfl) (dp hd 0 rfl) ((ow.keep hk).box 2 rfl) rfl) rfl <|
       aS (fun hk bs hd => xloadN 5 rfl (by kernel_rfl) (by kernel_rfl) (bg bs s9) ((ow.keep hk).box 0 rfl) (Nat.le_of_ble_eq_true rfl) rfl) rfl <|
       arm (fun aa ww hk bs hd => by
         have d2 : aa.eval (.tmp 103) = .agg #[.int .i64 cl.c, .int .i64 cl.r, .int .u8 ((vGood cl.v).k), .int .i64 ((vGood cl.v).n), .string ⟨((vGood cl.v).t).toArray⟩] := depX hd 2 rfl; exact stepX_new _ (want0 rfl) (xbuildSlice (us := #[(0, .agg #[.int .i64 cl.c, .int .i64 cl.r, .int .u8 ((vGood cl.v).k), .int .i64 ((vGood cl.v).n), .string ⟨((vGood cl.v).t).toArray⟩])]) (b := .cells #[.int .i64 cl.c, .int .i64 cl.r, .int .u8 ((vGood cl.v).k), .int .i64 ((vGood cl.v).n), .string ⟨((vGood cl.v).t).toArray⟩] 46 (0, 0)) rfl (by simp only [List.map_toArray, List.map_cons, List.map_nil, d2]) (by kernel_rfl)) ⟨_, rfl, hk.size, Go.heap_alloc_new _ _⟩ ((Kept.refl _).alloc _) rfl (Nat.le_refl _)
         ) <|
       arm0) fun fa fw bs hv ap z q ov => ?_
     obtain ⟨s2, s3, s4, s5, s6, s7, s8⟩ := b7 bs s2 s3 s4 s5 s6 s7 s8; have s102 := gv hv 1 rfl rfl; obtain ⟨gb5, s104, bgb5, hgb5⟩ := gotL hv 3 rfl rfl rfl; have ov := ov.cons hgb5 (Nat.le_trans ow.kept.size bgb5) (ow.below bgb5); have ow := ov; refine wl_appendCell (want0 rfl) rfl (y := goodCl cl) s102 s104 (ow.thing 2 rfl) (ow.get 0 rfl) (by omega) (fun vr2 fw2 ho hg hb => ?_); have ow := ow.turn 2 rfl (t' := cellRow vr2 (acc ++ [goodCl cl])) ho hg (turn_new hb); clear ho hg hb; refine wl_value (v := .pointer (some ⟨gb3, 4, none⟩)) (want0 rfl) (xfieldAddr rfl (pb 105 s7 rfl) (by kernel_rfl)) ?_; refine wl_skip (want0 rfl) rfl (xstoreR (off := 4) rfl (put_in (t := 106) (put_size z) rfl) (pb 106 (put_in (t := 105) z rfl) rfl) (by kernel_rfl) (ow.box 3 rfl) (row_one (ow.row 2 rfl)) (Nat.le_of_ble_eq_true rfl)) ?_; have ow : Own w1 ((Th.obj gb5 (.cells #[.int .i64 cl.c, .int .i64 cl.r, .int .u8 ((vGood cl.v).k), .int .i64 ((vGood cl.v).n), .string ⟨((vGood cl.v).t).toArray⟩] 46 (0, 0))) :: (Th.obj gb4 (.cells #[.int .i64 cl.c, .int .i64 cl.r, .int .u8 ((vGood cl.v).k), .int .i64 ((vGood cl.v).n), .string ⟨((vGood cl.v).t).toArray⟩] 46 (0, 0))) :: (cellRow vr2 (acc ++ [goodCl cl])) :: (Th.obj gb3 (.cells #[.int .i64 a.x.c1, .int .i64 a.x.r1, .int .i64 a.x.c2, .int .i64 a.x.r2, vr2] 37 (0, 0))) :: (Th.obj gb1 (.cells #[.int .i64 a.x.c1, .int .i64 a.x.r1, .int .i64 a.x.c2, .int .i64 a.x.r2] 34 (0, 0))) :: (argTh v L) :: (L.map cellTh)) _ := ow.put 3 rfl 4 [vr2]
     refine gt7 (put_size (put_size z)) (put_def (put_def q)) ow 2 (pb 106 (pb 105 s2 rfl) rfl) 3 (pb 106 (pb 105 s3 rfl) rfl) 4 (pb 106 (pb 105 s4 rfl) rfl) 5 (pb 106 (pb 105 s5 rfl) rfl) 6 (pb 106 (pb 105 s6 rfl) rfl) 7 (pb 106 (pb 105 s7 rfl) rfl) 8 (pb 106 (pb 105 s8 rfl) rfl) fun fa fw z q ow s2 s3 s4 s5 s6 s7 s8 => ?_; refine wl_end ?_; refine block_n ?_; refine tn hK18 ?_
     refine ro [yV _, yV (.int .i64 ((i + 1 : Nat) : Int))] 2 113 z q ow (
       mvS s8 rfl rfl rfl rfl <|
       aS (fun hk bs hd => xadd (Or.inl rfl) rfl (dp hd 0 rfl) rfl (by omega) (by omega)) rfl <|
       arm0) fun fa fw bs hv ap z q ow => ?_
     obtain ⟨s2, s3, s4, s5, s6, s7, s8⟩ := b7 bs s2 s3 s4 s5 s6 s7 s8; have s58 := gv hv 1 rfl rfl; refine wl_value (v := .int .i64 ((i + 1 : Nat) : Int)) (want0 rfl) (xassign rfl s58) ?_; refine gp6 z q ow s2 s3 s4 s5 s6 s7 fun fa fw z q ow s2 s3 s4 s5 s6 s7 s8 => ?_; refine wl_end ?_; obtain ⟨A3, c3, rfl⟩ := row_slice (ow.row 2 rfl); exact then_n ⟨(i + 1), ⟨A3, c3, (acc ++ [goodCl cl]), hlti, (good_next hacc hcl hstep), z, q, ow.tail.tail, s2, s3, s4, s5, s6, s7, s8⟩, (show a.l.length - (i + 1) < a.l.length - i by omega)⟩
    refine cf s100 (band (band (decide_eq_true_iff) (Iff.rfl)) (bor (decide_eq_true_iff) (Iff.rfl))) hc4 ?_; have hstep := step_no hpl hc4; refine wp_skip ?_; refine block_n ?_; refine tn hK18 ?_
    refine ro [yV _, yV (.int .i64 ((i + 1 : Nat) : Int))] 2 113 z q ow (
      mvS s8 rfl rfl rfl rfl <|
      aS (fun hk bs hd => xadd (Or.inl rfl) rfl (dp hd 0 rfl) rfl (by omega) (by omega)) rfl <|
      arm0) fun fa fw bs hv ap z q ow => ?_
    obtain ⟨s2, s3, s4, s5, s6, s7, s8⟩ := b7 bs s2 s3 s4 s5 s6 s7 s8; have s58 := gv hv 1 rfl rfl; refine wl_value (v := .int .i64 ((i + 1 : Nat) : Int)) (want0 rfl) (xassign rfl s58) ?_; refine gp6 z q ow s2 s3 s4 s5 s6 s7 fun fa fw z q ow s2 s3 s4 s5 s6 s7 s8 => ?_; refine wl_end ?_; exact then_n ⟨(i + 1), ⟨A2, c2, acc, hlti, (good_next hacc hcl hstep), z, q, ow.tail, s2, s3, s4, s5, s6, s7, s8⟩, (show a.l.length - (i + 1) < a.l.length - i by omega)⟩
   refine cf s56 (decide_eq_true_iff) hc3 ?_; refine wp_exit ?_; refine then_e ?_; refine then_e ?_; refine block_hit ?_; refine tn hK14 ?_; have hg2 : goodAr a = (⟨true, blankV, a.x, acc⟩ : Ar) := by rw [hg, hacc, List.take_of_length_le (by omega)]; rfl
   refine ro [yV _, yV (.agg #[.int .i64 a.x.c1, .int .i64 a.x.r1, .int .i64 a.x.c2, .int .i64 a.x.r2, .slice A2 acc.length c2]), yV (.agg #[.bool true, .int .u8 0, .int .i64 0, .string ⟨[].toArray⟩, .int .i64 a.x.c1, .int .i64 a.x.r1, .int .i64 a.x.c2, .int .i64 a.x.r2, .slice A2 acc.length c2]), ySlice fw.heap.size 1 (.cells #[.bool true, .int .u8 0, .int .i64 0, .string ⟨[].toArray⟩, .int .i64 a.x.c1, .int .i64 a.x.r1, .int .i64 a.x.c2, .int .i64 a.x.r2, .slice A2 acc.length c2] 39 (0, 0))] 4 113 z q ow (
     mvS s3 rfl rfl rfl rfl <|
     aS (fun hk bs hd => xloadN 5 rfl (by kernel_rfl) (by kernel_rfl) (bg bs s7) ((ow.keep hk).box 1 rfl) (Nat.le_of_ble_eq_true rfl) rfl) rfl <|
     arm (fun aa ww hk bs hd => by
       have d1 : aa.eval (.tmp 108) = .agg #[.int .i64 a.x.c1, .int .i64 a.x.r1, .int .i64 a.x.c2, .int .i64 a.x.r2, .slice A2 acc.length c2] := depX hd 1 rfl; exact stepX_same (v := .agg #[.bool true, .int .u8 0, .int .i64 0, .string ⟨[].toArray⟩, .int .i64 a.x.c1, .int .i64 a.x.r1, .int .i64 a.x.c2, .int .i64 a.x.r2, .slice A2 acc.length c2]) (want0 rfl) (xbuild (us := #[(0, .bool true), (2, .agg #[.int .i64 a.x.c1, .int .i64 a.x.r1, .int .i64 a.x.c2, .int .i64 a.x.r2, .slice A2 acc.length c2])]) rfl (by simp only [List.map_toArray, List.map_cons, List.map_nil, d1]; rfl) (by kernel_rfl)) rfl rfl
       ) <|
     arm (fun aa ww hk bs hd => by
       have d2 : aa.eval (.tmp 109) = .agg #[.bool true, .int .u8 0, .int .i64 0, .string ⟨[].toArray⟩, .int .i64 a.x.c1, .int .i64 a.x.r1, .int .i64 a.x.c2, .int .i64 a.x.r2, .slice A2 acc.length c2] := depX hd 2 rfl; exact stepX_new _ (want0 rfl) (xbuildSlice (us := #[(0, .agg #[.bool true, .int .u8 0, .int .i64 0, .string ⟨[].toArray⟩, .int .i64 a.x.c1, .int .i64 a.x.r1, .int .i64 a.x.c2, .int .i64 a.x.r2, .slice A2 acc.length c2])]) (b := .cells #[.bool true, .int .u8 0, .int .i64 0, .string ⟨[].toArray⟩, .int .i64 a.x.c1, .int .i64 a.x.r1, .int .i64 a.x.c2, .int .i64 a.x.r2, .slice A2 acc.length c2] 39 (0, 0)) rfl (by simp only [List.map_toArray, List.map_cons, List.map_nil, d2]) (by kernel_rfl)) ⟨_, rfl, hk.size, Go.heap_alloc_new _ _⟩ ((Kept.refl _).alloc _) rfl (Nat.le_refl _)
       ) <|
     arm0) fun fa fw bs hv ap z q ov => ?_
   obtain ⟨s2, s3, s4, s5⟩ := b4 bs s2 s3 s4 s5; have s107 := gv hv 0 rfl rfl; obtain ⟨gb6, s110, bgb6, hgb6⟩ := gotL hv 3 rfl rfl rfl; have ov := ov.cons hgb6 (Nat.le_trans ow.kept.size bgb6) (ow.below bgb6); have ow := ov; refine wl_appendArg (want0 rfl) rfl (y := (⟨true, blankV, a.x, acc⟩ : Ar)) (sy := (.slice A2 acc.length c2)) s107 s110 (ow.thing 4 rfl) (ow.get 0 rfl) rfl (by have := congrArg List.length hL; simp only [List.length_map, List.length_take] at this; omega) (fun vr3 fw3 ho hg hb => ?_); have ow := ow.turn 4 rfl (t' := argTh vr3 (L ++ [((⟨true, blankV, a.x, acc⟩ : Ar), (.slice A2 acc.length c2))])) ho hg (turn_new hb); clear ho hg hb; refine wl_value (v := vr3) (want0 rfl) (xassign rfl (put_in (t := 111) z rfl)) ?_; refine gt4 (put_size (put_size z)) (put_def (put_def q)) ow 2 (pb 3 (pb 111 s2 rfl) rfl) 4 (pb 3 (pb 111 s4 rfl) rfl) 5 (pb 3 (pb 111 s5 rfl) rfl) 3 (put_in (t := 3) (put_size z) rfl) fun fa fw z q ow s2 s4 s5 s3 => ?_; refine wl_end ?_; refine block_n ?_; refine tn hK8 ?_
   refine ro [yV _, yV (.int .i64 ((k + 1 : Nat) : Int))] 2 113 z q ow (
     mvS s5 rfl rfl rfl rfl <|
     aS (fun hk bs hd => xadd (Or.inl rfl) rfl (dp hd 0 rfl) rfl (by omega) (by omega)) rfl <|
     arm0) fun fa fw bs hv ap z q ow => ?_
   obtain ⟨s2, s4, s5, s3⟩ := b4 bs s2 s4 s5 s3; have s18 := gv hv 1 rfl rfl; refine wl_value (v := .int .i64 ((k + 1 : Nat) : Int)) (want0 rfl) (xassign rfl s18) ?_; refine gp3 z q ow s2 s4 s3 fun fa fw z q ow s2 s4 s3 s5 => ?_; refine wl_end ?_; exact then_n ⟨(k + 1), ⟨vr3, (L ++ [((⟨true, blankV, a.x, acc⟩ : Ar), (.slice A2 acc.length c2))]), hltk, (good_push hL ha hg2), z, q, (own_snoc (s := (.slice A2 acc.length c2)) (y := (⟨true, blankV, a.x, acc⟩ : Ar)) (ow.sub (List.Sublist.cons _ (List.Sublist.cons_cons _ (List.Sublist.cons _ (List.Sublist.cons _ (List.Sublist.cons_cons _ (List.Sublist.refl _)))))))), s2, s3, s4, s5⟩, (show m.length - (k + 1) < m.length - k by omega)⟩
  refine cf s16 (decide_eq_true_iff) hc1 ?_; refine wp_exit ?_; refine then_e ?_; refine then_e ?_; refine block_hit ?_; refine tn hK4 ?_; refine sq fun hK23 => ?_
  refine ro [yV _, yV _] 2 113 z q ow (
    mvS s3 rfl rfl rfl rfl <|
    asD 0 rfl rfl rfl rfl rfl rfl <|
    arm0) fun fa fw bs hv ap z q ow => ?_
  have s2 := gv hv 1 rfl rfl; refine wt hK23 ?_; refine wp_ret ?_; refine results_one rfl (res_tmp s2) q ?_; exact ⟨v, L, rfl, by rw [hL, List.take_of_length_le (by omega), hmdef]; rfl, own_join0 o0 ow⟩
end Go.Proofs.YtbkjdcpfkepheaaGreatDoor
