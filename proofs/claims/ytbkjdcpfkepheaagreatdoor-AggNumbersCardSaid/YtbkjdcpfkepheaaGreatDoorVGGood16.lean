/- Layer 16: Good (printed by wip/mkagg14.py). -/
import Derived.Test.YtbkjdcpfkepheaaGreatDoorVMixAW
set_option maxHeartbeats 4000000
namespace Go.Proofs.YtbkjdcpfkepheaaGreatDoor
section
set_option linter.unusedVariables false
set_option linter.unusedSimpArgs false
open Go.RowKit Lv
set_option maxRecDepth 100000
theorem lg (l : List Ar) : (jb l).length ≤ 20 := by unfold jb; rw [List.length_map, List.length_take]; omega
theorem iy (l : List Ar) : ∀ a ∈ jb l, a.l.length ≤ 60 := fun a ha => by
  obtain ⟨b, _, rfl⟩ := List.mem_map.1 ha; show ((b.l.take 60).map fT).length ≤ 60; rw [List.length_map, List.length_take]
  omega
theorem rU {v : Vl} (h : mI v) : mI (jP v) := ⟨h.1, h.2.1, Nat.le_trans (by show (v.t.take 300).length ≤ 300; rw [List.length_take]; omega) (by decide)⟩
theorem tp {l : List Ar} (h : ∀ a ∈ l, mI a.v ∧ ∀ c ∈ a.l, mI c.v) : ∀ a ∈ jb l, mI a.v ∧ ∀ c ∈ a.l, mI c.v := fun a ha => by
  obtain ⟨b, hb, rfl⟩ := List.mem_map.1 ha; obtain ⟨h1, h2⟩ := h b (List.mem_of_mem_take hb); refine ⟨rU h1, fun c hc => ?_⟩; obtain ⟨d, hd, rfl⟩ := List.mem_map.1 hc; exact rU (h2 d (List.mem_of_mem_take hd))
theorem jd {m l : List Ar} (hm : m = jb l) (A : Option Addr) (cap : Nat) (w : World) (hr : ArgsIn w A l) (hc : l.length ≤ cap) (hw : ∀ a ∈ l, a.l.length ≤ 2932031007402) : Calls Tryz.prog 10 #[.slice A l.length cap] w fun e w' => qq w m e w' := by
  subst hm; exact (vZ A cap l w hr hc hw).mono fun _ _ h => h.new
theorem rV {w0 w : World} {H : List Th} (h : Own w0 H w) : Own w0 (Th.row 0 46 5 (.slice none 0 0) 0 [] :: H) w := rO (h.nil 46 5) kg rfl
theorem Cv {a : Act} {w : World} {o : Oper} {T2 : TypeId} {x y : Operand} (ho : o.op = .binOp .sub 3 x y T2) {n : Nat} (hx : a.eval x = .int .i64 (n : Int)) (h0 : ¬ n = 0) (h1 : n ≤ 900000) (hy : a.eval y = .int .i64 1 := by rfl) : (execOp a.eval o).run Tryz.prog w = .ok (.value (.int .i64 ((n - 1 : Nat) : Int))) w := by
  have e : ((n - 1 : Nat) : Int) = (n : Int) - 1 := by omega
  rw [e]; exact DG (Or.inl rfl) ho (n := n) (m := 1) hx hy (by omega) (by omega)
theorem wk {w : World} {b n c : Nat} {A : Option Addr} {acc : List Cl} (h : w.ownsRow b 46 5 (.slice A n c) acc.length (acc.map clV).flatten) : ∃ (gc : Nat) (pl : Cl), ¬ (((acc.length : Nat) : Int) = (0 : Int)) → A = some ⟨gc, 0, none⟩ ∧ ElemK w gc (0 + (acc.length - 1) * 5) (clV pl) ∧ acc.getLast? = some pl := by
  rcases Nat.eq_zero_or_pos acc.length with h0 | h0
  · exact ⟨0, ⟨0, 0, aG⟩, fun c => absurd (by omega) c⟩
  · obtain ⟨g, hA, _⟩ := rP h h0
    obtain ⟨pl, hp⟩ := bQ (l := acc) (i := acc.length - 1) (by omega); exact ⟨g, pl, fun _ => ⟨hA, kj dW hA h hp, by rw [List.getLast?_eq_getElem?]; exact hp⟩⟩
theorem oZ {x : Rc} {acc : List Cl} {c pl : Cl} (h : ¬ (((acc.length : Nat) : Int) = (0 : Int)) → acc.getLast? = some pl) : tm x acc c = true ↔ ((be c.v).k ≠ 0 ∧ gU x c.c c.r = true) ∧ (((acc.length : Nat) : Int) = (0 : Int) ∨ cO pl c = true) := by
  unfold tm; rw [Bool.and_eq_true, Bool.and_eq_true, decide_eq_true_eq]; refine and_congr_right fun _ => ?_
  by_cases h0 : ((acc.length : Nat) : Int) = (0 : Int)
  · have : acc = [] := List.eq_nil_of_length_eq_zero (by omega)
    subst this
    simp
  · rw [h h0]
    exact ⟨fun z => Or.inr z, fun z => z.resolve_left h0⟩
theorem yI {x : Rc} {acc : List Cl} {c pl : Cl} {gc : Nat} {A : Option Addr} {w : World} {p : Nat} (h : ¬ (((acc.length : Nat) : Int) = (0 : Int)) → A = some ⟨gc, 0, none⟩ ∧ ElemK w gc p (clV pl) ∧ acc.getLast? = some pl) (g : ((((be c.v).k : Int) ≠ (0 : Int)) ∧ (gU x c.c c.r = true)) ∧ ((((acc.length : Nat) : Int) = (0 : Int)) ∨ (cO pl c = true))) : cn x acc c = acc ++ [ms c] := by
  unfold cn; rw [if_pos ((oZ fun z => (h z).2.2).2 ⟨⟨by have := g.1.1; omega, g.1.2⟩, g.2⟩)]
theorem AO {x : Rc} {acc : List Cl} {c pl : Cl} {gc : Nat} {A : Option Addr} {w : World} {p : Nat} (h : ¬ (((acc.length : Nat) : Int) = (0 : Int)) → A = some ⟨gc, 0, none⟩ ∧ ElemK w gc p (clV pl) ∧ acc.getLast? = some pl) (g : ¬ (((((be c.v).k : Int) ≠ (0 : Int)) ∧ (gU x c.c c.r = true)) ∧ ((((acc.length : Nat) : Int) = (0 : Int)) ∨ (cO pl c = true)))) : cn x acc c = acc := by
  unfold cn; rw [if_neg]; intro z; obtain ⟨⟨z1, z2⟩, z3⟩ := (oZ fun z => (h z).2.2).1 z; exact g ⟨⟨by omega, z2⟩, z3⟩
theorem pa {x : Rc} {l acc z : List Cl} {i : Nat} {c : Cl} (h : acc = (l.take i).foldl (cn x) []) (hc : l[i]? = some c) (hz : cn x acc c = z) : z = (l.take (i + 1)).foldl (cn x) [] := by
  rw [eT hc, List.foldl_append, ← h, List.foldl_cons, List.foldl_nil, hz]
theorem pd (x : Rc) (l : List Cl) (i : Nat) : ((l.take i).foldl (cn x) []).length ≤ l.length := by
  have h := (jR x (l.take i)).2; unfold fg at h; rw [List.length_take] at h
  omega
theorem pf {L : List (Ar × Value)} {m : List Ar} {k : Nat} {a y : Ar} {s : Value} (hL : L.map Prod.fst = (m.take k).map ed) (ha : m[k]? = some a) (hy : ed a = y) : (L ++ [(y, s)]).map Prod.fst = (m.take (k + 1)).map ed := by
  rw [List.map_append, hL, eT ha, List.map_append, List.map_singleton, List.map_singleton, hy]
theorem AP {a : Ar} (h : (¬ (a.w = true)) ∨ ((fX a.x : Int) ≠ (0 : Int))) : ed a = ⟨false, be a.v, qf, []⟩ := by
  unfold ed; rw [if_neg]; rintro ⟨h1, h2⟩; rcases h with h | h
  · exact h h1
  · exact h (vv h2)
theorem rX {a : Ar} (h : ¬ ((¬ (a.w = true)) ∨ ((fX a.x : Int) ≠ (0 : Int)))) : okR a.x = true := mN (fun c => h (Or.inr c))
theorem yJ {a : Ar} (h : ¬ ((¬ (a.w = true)) ∨ ((fX a.x : Int) ≠ (0 : Int)))) : ed a = ⟨true, aG, a.x, fg a.x a.l⟩ := by
  unfold ed; rw [if_pos ⟨Classical.byContradiction fun c => h (Or.inl c), rX h⟩]
section
variable {w : World} {a : Act} {o : Oper} {ops : Array Oper} {rest : List Oper} {Q : Exit → Act → World → Prop}
theorem nc (hw : Region.wanted o (yielded ops a.tmps) = true) {s x : Operand} (ho : o.op = .call { callee := .builtin .append, args := #[s, x], argTypes := #[35, 35] }) {v : Value} {l : List Cl} {y : Cl} {g c : Nat} (hs : a.eval s = v) (hx : a.eval x = .slice (some ⟨g, 0, none⟩) 1 c) (hown : (cT v l).p w) (hg : w.heap[g]? = some (.cells #[.int .i64 y.c, .int .i64 y.r, .int .u8 y.v.k, .int .i64 y.v.n, .string ⟨y.v.t.toArray⟩] 46 (0, 0))) (hl : l.length ≤ 900000)
    (h : ∀ v' w', (cT v' (l ++ [y])).p w' → w.grownBy w' v.ownBlock → (v'.ownBlock = v.ownBlock ∨ v'.ownBlock = some w.heap.size) → wpList Tryz.prog ops Q rest (a.put o.dst v') w') : wpList Tryz.prog ops Q (o :: rest) a w := by
  refine jA hw ho Tryz.underlying35 (k := 5) (by_ := 48) (rM _ _ _ _ (by kernel_rfl) rfl) (by decide) (news := clV y) hs hx hown rfl (fun j u hj => ?_) (vT y) (by omega) (by simp only [maxLen]; omega) (Nat.zero_le _) (fun v' w' ho' hg' hb => h v' w' ?_ hg' hb)
  · rw [Go.WideShapes.add_plain, Nat.zero_add, cell_of_row w g j _ 46 (0, 0) hg, ← hj]
    simp [clV]
  · show w'.ownsRow 0 46 5 v' (l ++ [y]).length ((l ++ [y]).map clV).flatten
    rw [List.length_append, List.length_singleton, List.map_append, List.flatten_append]; exact (by simpa using ho')
end
theorem ew : En 18 := by intro args w; go_simp
theorem cK : En 10 := by intro args w; go_simp
theorem ey : En 42 := by intro args w; go_simp
theorem eN : En 41 := by intro args w; go_simp
theorem tq (A : Option Addr) (cap : Nat) (l : List Ar) (w : World) (hr : ArgsIn w A l) (hc : l.length ≤ cap) (hw : ∀ a ∈ l, a.l.length ≤ 2932031007402) (hwd : ∀ a ∈ l, mI a.v ∧ ∀ c ∈ a.l, mI c.v) :
    Calls Tryz.prog 13 #[.slice A l.length cap] w fun e w' => OwnArgs w (oX (jb l)) e w' := by
  obtain ⟨m, hmdef⟩ : ∃ m, m = jb l := ⟨_, rfl⟩; have hml : m.length ≤ 20 := by rw [hmdef]; exact lg l
  have hmc : ∀ a ∈ m, a.l.length ≤ 60 := by rw [hmdef]; exact iy l
  have hmw : ∀ a ∈ m, mI a.v ∧ ∀ c ∈ a.l, mI c.v := by rw [hmdef]; exact tp hwd
  go_enter Tryz.func13, Tryz.ntmps13
  refine rgx [yV _] 1 113 rfl rfl (Own.start w) (
    uq1 rfl rfl rfl <|
    ah) fun fa fw bs hv ap z q ow => ?_
  have s0 := bs.get 0 rfl rfl; have s2 := zh hv 0
  refine rgx [yV _] 1 113 z q ow (
    uq1 rfl rfl rfl <|
    ah) fun fa fw bs hv ap z q ow => ?_
  obtain ⟨s0, s2⟩ := b2 bs s0 s2; have s3 := zh hv 0; refine sq fun hK3 => ?_
  refine ro [yV _] 1 113 z q ow (
    um s0 rfl <|
    ah) fun fa fw bs hv ap z q ow => ?_
  obtain ⟨s2, s3⟩ := b2 bs s2 s3; have s11 := zh hv 0; refine aO (ag rfl) (cz (u := .slice A l.length cap) rfl s11 (cK _ _)) ((jd hmdef A cap _ (hr.kept ow.kept) hc hw).mono ?_); rintro _ fw ⟨A1, p1, rfl, hr1, hp1, hn1, hk⟩; refine ⟨_, rfl, ?_⟩; rcases (rfl : (0 : Nat) = 0) with _
  obtain ⟨w1, rfl⟩ : ∃ z, z = fw := ⟨_, rfl⟩; have o0 := ow.keep hk; clear hk; have ow := Own.start w1; refine ae (v := .slice A1 m.length p1) (ag rfl) (aq rfl (af (t := 12) z rfl)) ?_; refine gt3 (ab (ab z)) (ac (ac q)) ow 2 (pb 4 (pb 12 s2 rfl) rfl) 3 (pb 4 (pb 12 s3 rfl) rfl) 4 (af (t := 4) (ab z) rfl) fun fa fw z q ow s2 s3 s4 => ?_; refine wt hK3 ?_; refine sq fun hK4 => ?_
  refine rgx [yV _] 1 113 z q ow (
    uq1 rfl rfl rfl <|
    ah) fun fa fw bs hv ap z q ow => ?_
  obtain ⟨s2, s3, s4⟩ := b3 bs s2 s3 s4; have s5 := zh hv 0; refine wp_block ?_; refine bc (fun (k : Nat) fr u => ∃ (v : Value), ∃ (L : List (Ar × Value)), (k ≤ m.length) ∧ (L.map Prod.fst = (m.take k).map ed) ∧ fr.tmps.size = 113 ∧ fr.defers = [] ∧ Own w1 ((dB v L) :: (L.map bW)) u ∧ fr.eval (.tmp 2) = .slice none 0 0 ∧ fr.eval (.tmp 3) = v ∧ fr.eval (.tmp 4) = .slice A1 m.length p1 ∧ fr.eval (.tmp 5) = .int .i64 (k : Int)) (fun k => m.length - k) 0 ⟨(.slice none 0 0), [], (Nat.zero_le _), (by simp), z, q, (jQ ow), s2, s3, s4, s5⟩ (fun k b_ u_ hI => ?_)
  revert b_ u_; intro fa fw hI
  obtain ⟨v, L, hk0, hL, z, q, ow, s2, s3, s4, s5⟩ := hI; refine sq fun hK6 => ?_
  refine rgx [yV _, yV _, yV _, yV _] 4 113 z q ow (
    um s5 rfl <|
    um s4 rfl <|
    ua (rle Tryz.underlying22 (zd 1)) rfl <|
    ua (rlt (zd 0) (zd 2)) rfl <|
    ah) fun fa fw bs hv ap z q ow => ?_
  obtain ⟨s2, s3, s4, s5⟩ := b4 bs s2 s3 s4 s5; have s16 := zh hv 3
  by_cases hc1 : (k : Int) < ((m.length : Nat) : Int)
  ·refine ct s16 ((decide_eq_true_iff).2 hc1) ?_
   refine wp_skip ?_; refine tn hK6 ?_; refine sq fun hK8 => ?_; refine wp_block ?_; refine sq fun hK9 => ?_; have hltk : k < m.length := by omega
   obtain ⟨a, ha⟩ := bQ hltk; obtain ⟨ba, oa, A3, c3, Aa, ea, r1, l1⟩ := hr1.elem ha; have hac := hmc a (List.mem_of_getElem? ha); have hwa := hmw a (List.mem_of_getElem? ha)
   refine ro [yV _, yV _, yV _, yV (.pointer (some ⟨ba, oa + k * 9 + 4, none⟩)), yV (.pointer (some ⟨ba, oa + k * 9 + 4, none⟩)), yV (.agg #[.int .i64 a.x.c1, .int .i64 a.x.r1, .int .i64 a.x.c2, .int .i64 a.x.r2]), bJ fw.heap.size (.cells #[.int .i64 0, .int .i64 0, .int .i64 0, .int .i64 0] 34 (0, 0))] 7 113 z q ow (
     um s4 rfl <|
     um s5 rfl <|
     ua (rpl 9 Tryz.underlying22 Aa (zd 0) (zd 1) hltk) rfl <|
     ua (rfa (zd 2)) rfl <|
     ua (rfa (zd 3)) rfl <|
     ua (rpk 4 4 ea ow (zd 4)) rfl <|
     uq4 <|
     ah) fun fa fw bs hv ap z q ov => ?_
   obtain ⟨s2, s3, s4, s5⟩ := b4 bs s2 s3 s4 s5; have s24 := zh hv 5; obtain ⟨gb1, s6, bgb1, hgb1⟩ := zn hv 6; have ov := ov.hc ow bgb1 hgb1; have ow := ov; refine ws ow 0 0 s6 s24 fun fw ow => ?_; refine wt hK9 ?_; refine sq fun hK10 => ?_
   refine rgx [yV _, yV _, yV _, yV (.pointer (some ⟨ba, oa + k * 9, none⟩)), yV _, yV _, yV _, yIf _ (yV (.agg #[.int .i64 a.x.c1, .int .i64 a.x.r1, .int .i64 a.x.c2, .int .i64 a.x.r2])), yIf _ (yV (.int .i64 (fX a.x))), yIf _ (yV _), yV _] 11 113 z q ow (
     um s4 rfl <|
     um s5 rfl <|
     ua (rpl 9 Tryz.underlying22 Aa (zd 0) (zd 1) hltk) rfl <|
     ua (rfa (zd 2)) rfl <|
     ua (rck 0 ea ow (zd 3)) rfl <|
     ua (rno (zd 4)) rfl <|
     uq2 5 rfl rfl <|
     ui (gd1 6) (rln 4 ow 0 (zt s6)) rfl <|
     uq6 (gd1 6) (rc1 (zi 7) dZ) (fun hk hz => oA a.x _) rfl <|
     ui (gd1 6) (rne (zi 8) zc) rfl <|
     ua (ron (zd 6) (zi 9)) rfl <|
     ah) fun fa fw bs hv ap z q ow => ?_
   obtain ⟨s2, s3, s4, s5, s6⟩ := b5 bs s2 s3 s4 s5 s6; have s35 := zh hv 10
   by_cases hc2 : (¬ (a.w = true)) ∨ ((fX a.x : Int) ≠ (0 : Int))
   ·refine ct s35 ((bor (dX (Iff.rfl)) (decide_eq_true_iff)).2 hc2) ?_
    have hg2 : ed a = (⟨false, be a.v, qf, []⟩ : Ar) := AP hc2; refine sq fun hK12 => ?_
    refine ro [yV _, yV _, yV _, yV _, yV (.pointer (some ⟨ba, oa + k * 9 + 1, none⟩)), yV (al a.v), yV (al (be a.v)), yV (.agg #[.bool false, .int .u8 ((be a.v).k), .int .i64 ((be a.v).n), .string ⟨((be a.v).t).toArray⟩, .int .i64 0, .int .i64 0, .int .i64 0, .int .i64 0, .slice none 0 0]), bT fw.heap.size 1 (.cells #[.bool false, .int .u8 ((be a.v).k), .int .i64 ((be a.v).n), .string ⟨((be a.v).t).toArray⟩, .int .i64 0, .int .i64 0, .int .i64 0, .int .i64 0, .slice none 0 0] 39 (0, 0))] 9 113 z q ow (
      um s3 rfl <|
      um s4 rfl <|
      um s5 rfl <|
      ua (rpl 9 Tryz.underlying22 Aa (zd 1) (zd 2) hltk) rfl <|
      ua (rfa (zd 3)) rfl <|
      ua (rpk 3 1 ea ow (zd 4)) rfl <|
      uc (rc1 (zd 5) ew) (fun hk => rQ a.v _ hwa.1) rfl <|
      arm (fun aa ww hk bs hd => by
        have d6 : aa.eval (.tmp 42) = al (be a.v) := fy hd 6 rfl; exact bS (v := .agg #[.bool false, .int .u8 ((be a.v).k), .int .i64 ((be a.v).n), .string ⟨((be a.v).t).toArray⟩, .int .i64 0, .int .i64 0, .int .i64 0, .int .i64 0, .slice none 0 0]) (ag rfl) (bP (us := #[(1, al (be a.v))]) rfl (by simp only [List.map_toArray, List.map_cons, List.map_nil, d6]) (by kernel_rfl)) rfl rfl
        ) <|
      arm (fun aa ww hk bs hd => by
        have d7 : aa.eval (.tmp 43) = .agg #[.bool false, .int .u8 ((be a.v).k), .int .i64 ((be a.v).n), .string ⟨((be a.v).t).toArray⟩, .int .i64 0, .int .i64 0, .int .i64 0, .int .i64 0, .slice none 0 0] := fy hd 7 rfl; exact cZ _ (ag rfl) (bU (us := #[(0, .agg #[.bool false, .int .u8 ((be a.v).k), .int .i64 ((be a.v).n), .string ⟨((be a.v).t).toArray⟩, .int .i64 0, .int .i64 0, .int .i64 0, .int .i64 0, .slice none 0 0])]) (b := .cells #[.bool false, .int .u8 ((be a.v).k), .int .i64 ((be a.v).n), .string ⟨((be a.v).t).toArray⟩, .int .i64 0, .int .i64 0, .int .i64 0, .int .i64 0, .slice none 0 0] 39 (0, 0)) rfl (by simp only [List.map_toArray, List.map_cons, List.map_nil, d7]) (by kernel_rfl)) ⟨_, rfl, hk.size, Go.heap_alloc_new _ _⟩ ((Kept.refl _).alloc _) rfl (Nat.le_refl _)
        ) <|
      ah) fun fa fw bs hv ap z q ov => ?_
    obtain ⟨s2, s3, s4, s5, s6⟩ := b5 bs s2 s3 s4 s5 s6; have s36 := zh hv 0; obtain ⟨gb2, s44, bgb2, hgb2⟩ := Ac hv 8 rfl rfl rfl; have ov := ov.hc ow bgb2 hgb2; have ow := ov; refine gt (ag rfl) rfl (y := (⟨false, be a.v, qf, []⟩ : Ar)) (sy := (.slice none 0 0)) s36 s44 (ow.thing 2 rfl) (ow.get 0 rfl) rfl (by have := congrArg List.length hL; simp only [List.length_map, List.length_take] at this; omega) (fun vr1 fw1 ho hg hb => ?_); have ow := ow.turn 2 rfl (t' := dB vr1 (L ++ [((⟨false, be a.v, qf, []⟩ : Ar), (.slice none 0 0))])) ho hg (fF hb); clear ho hg hb; refine ae (v := vr1) (ag rfl) (aq rfl (af (t := 45) z rfl)) ?_; refine gt5 (ab (ab z)) (ac (ac q)) ow 2 (pb 3 (pb 45 s2 rfl) rfl) 4 (pb 3 (pb 45 s4 rfl) rfl) 5 (pb 3 (pb 45 s5 rfl) rfl) 6 (pb 3 (pb 45 s6 rfl) rfl) 3 (af (t := 3) (ab z) rfl) fun fa fw z q ow s2 s4 s5 s6 s3 => ?_; refine wt hK12 ?_; refine wp_exit ?_; refine aX ?_; refine aP ?_; refine tn hK8 ?_
    refine ro [yV _, yV (.int .i64 ((k + 1 : Nat) : Int))] 2 113 z q ow (
      um s5 rfl <|
      ua (rad (zd 0) zc) rfl <|
      ah) fun fa fw bs hv ap z q ow => ?_
    obtain ⟨s2, s4, s5, s3⟩ := b4 bs s2 s4 s5 s3; have s18 := zh hv 1; refine ae (v := .int .i64 ((k + 1 : Nat) : Int)) (ag rfl) (aq rfl s18) ?_; refine gp3 z q ow s2 s4 s3 fun fa fw z q ow s2 s4 s3 s5 => ?_; refine bp ?_; exact bK ⟨(k + 1), ⟨vr1, (L ++ [((⟨false, be a.v, qf, []⟩ : Ar), (.slice none 0 0))]), hltk, (pf hL ha hg2), z, q, (mX (s := (.slice none 0 0)) (y := (⟨false, be a.v, qf, []⟩ : Ar)) (rV (ow.sub (List.Sublist.cons _ (List.Sublist.cons _ (List.Sublist.cons_cons _ (List.Sublist.refl _))))))), s2, s3, s4, s5⟩, (show m.length - (k + 1) < m.length - k by omega)⟩
   refine cf s35 (bor (dX (Iff.rfl)) (decide_eq_true_iff)) hc2 ?_; have hg := yJ hc2; have hok := rX hc2; refine wp_skip ?_; refine tn hK10 ?_; refine sq fun hK13 => ?_
   refine ro [yV (.agg #[.int .i64 a.x.c1, .int .i64 a.x.r1, .int .i64 a.x.c2, .int .i64 a.x.r2]), yV (.agg #[.int .i64 a.x.c1, .int .i64 a.x.r1, .int .i64 a.x.c2, .int .i64 a.x.r2, .slice none 0 0]), bJ fw.heap.size (.cells #[.int .i64 0, .int .i64 0, .int .i64 0, .int .i64 0, .slice none 0 0] 37 (0, 0))] 3 113 z q ow (
     ua (rln 4 ow 0 (zt s6)) rfl <|
     arm (fun aa ww hk bs hd => by
       have d0 : aa.eval (.tmp 46) = .agg #[.int .i64 a.x.c1, .int .i64 a.x.r1, .int .i64 a.x.c2, .int .i64 a.x.r2] := fy hd 0 rfl; exact bS (v := .agg #[.int .i64 a.x.c1, .int .i64 a.x.r1, .int .i64 a.x.c2, .int .i64 a.x.r2, .slice none 0 0]) (ag rfl) (bP (us := #[(0, .agg #[.int .i64 a.x.c1, .int .i64 a.x.r1, .int .i64 a.x.c2, .int .i64 a.x.r2])]) rfl (by simp only [List.map_toArray, List.map_cons, List.map_nil, d0]) (by kernel_rfl)) rfl rfl
       ) <|
     uq4 <|
     ah) fun fa fw bs hv ap z q ov => ?_
   obtain ⟨s2, s3, s4, s5, s6⟩ := b5 bs s2 s3 s4 s5 s6; have s47 := zh hv 1; obtain ⟨gb3, s7, bgb3, hgb3⟩ := zn hv 2; have ov := ov.hc ow bgb3 hgb3; have ow := ov; refine ws ow 0 0 s7 s47 fun fw ow => ?_; refine wt hK13 ?_; refine sq fun hK14 => ?_
   refine rgx [yV _] 1 113 z q ow (
     uq1 rfl rfl rfl <|
     ah) fun fa fw bs hv ap z q ow => ?_
   obtain ⟨s2, s3, s4, s5, s6, s7⟩ := b6 bs s2 s3 s4 s5 s6 s7; have s8 := zh hv 0; refine wp_block ?_; refine bc (fun (i : Nat) fr u => ∃ (A2 : Option Addr), ∃ (c2 : Nat), ∃ (acc : List Cl), (i ≤ a.l.length) ∧ (acc = (a.l.take i).foldl (cn a.x) []) ∧ fr.tmps.size = 113 ∧ fr.defers = [] ∧ Own w1 ((cT (.slice A2 acc.length c2) acc) :: (Th.obj gb3 (.cells #[.int .i64 a.x.c1, .int .i64 a.x.r1, .int .i64 a.x.c2, .int .i64 a.x.r2, .slice A2 acc.length c2] 37 (0, 0))) :: (Th.obj gb1 (.cells #[.int .i64 a.x.c1, .int .i64 a.x.r1, .int .i64 a.x.c2, .int .i64 a.x.r2] 34 (0, 0))) :: (dB v L) :: (L.map bW)) u ∧ fr.eval (.tmp 2) = .slice none 0 0 ∧ fr.eval (.tmp 3) = v ∧ fr.eval (.tmp 4) = .slice A1 m.length p1 ∧ fr.eval (.tmp 5) = .int .i64 (k : Int) ∧ fr.eval (.tmp 6) = .pointer (some ⟨gb1, 0, none⟩) ∧ fr.eval (.tmp 7) = .pointer (some ⟨gb3, 0, none⟩) ∧ fr.eval (.tmp 8) = .int .i64 (i : Int)) (fun i => a.l.length - i) 0 ⟨none, 0, [], (Nat.zero_le _), (by simp), z, q, (rV ow), s2, s3, s4, s5, s6, s7, s8⟩ (fun i b_ u_ hI => ?_)
   revert b_ u_; intro fa fw hI
   obtain ⟨A2, c2, acc, hi0, hacc, z, q, ow, s2, s3, s4, s5, s6, s7, s8⟩ := hI; refine sq fun hK16 => ?_
   refine rgx [yV _, yV _, yV _, yV _, yV (.pointer (some ⟨ba, oa + k * 9 + 4, none⟩)), yV (.pointer (some ⟨ba, oa + k * 9 + 4 + 4, none⟩)), yV _, yV _, yV _] 9 113 z q ow (
     um s8 rfl <|
     um s4 rfl <|
     um s5 rfl <|
     ua (rpl 9 Tryz.underlying22 Aa (zd 1) (zd 2) hltk) rfl <|
     ua (rfa (zd 3)) rfl <|
     ua (rfa (zd 4)) rfl <|
     ua (rck 8 ea ow (zd 5)) rfl <|
     ua (rle Tryz.underlying35 (zd 6)) rfl <|
     ua (rlt (zd 0) (zd 7)) rfl <|
     ah) fun fa fw bs hv ap z q ow => ?_
   obtain ⟨s2, s3, s4, s5, s6, s7, s8⟩ := b7 bs s2 s3 s4 s5 s6 s7 s8; have s56 := zh hv 8
   by_cases hc3 : (i : Int) < ((a.l.length : Nat) : Int)
   ·refine ct s56 ((decide_eq_true_iff).2 hc3) ?_
    refine wp_skip ?_; refine tn hK16 ?_; refine sq fun hK18 => ?_; refine wp_block ?_; refine sq fun hK19 => ?_; have hlti : i < a.l.length := by omega
    obtain ⟨cl, hcl⟩ := bQ hlti; obtain ⟨bcl, ocl, Acl, ecl⟩ := r1.elem hcl
    refine ro [yV _, yV _, yV _, yV (.pointer (some ⟨ba, oa + k * 9 + 4, none⟩)), yV (.pointer (some ⟨ba, oa + k * 9 + 4 + 4, none⟩)), yV _, yV _, yV _, yV (.agg #[.int .i64 cl.c, .int .i64 cl.r, .int .u8 cl.v.k, .int .i64 cl.v.n, .string ⟨cl.v.t.toArray⟩]), bJ fw.heap.size (.cells #[.int .i64 0, .int .i64 0, .int .u8 0, .int .i64 0, .string ⟨[].toArray⟩] 46 (0, 0))] 10 113 z q ow (
      um s4 rfl <|
      um s5 rfl <|
      ua (rpl 9 Tryz.underlying22 Aa (zd 0) (zd 1) hltk) rfl <|
      ua (rfa (zd 2)) rfl <|
      ua (rfa (zd 3)) rfl <|
      ua (rck 8 ea ow (zd 4)) rfl <|
      um s8 rfl <|
      ua (rpl 5 Tryz.underlying35 Acl (zd 5) (zd 6) hlti) rfl <|
      ua (rpk 5 0 ecl ow (zd 7)) rfl <|
      uq4 <|
      ah) fun fa fw bs hv ap z q ov => ?_
    obtain ⟨s2, s3, s4, s5, s6, s7, s8⟩ := b7 bs s2 s3 s4 s5 s6 s7 s8; have s67 := zh hv 8; obtain ⟨gb4, s9, bgb4, hgb4⟩ := zn hv 9; have ov := ov.hc ow bgb4 hgb4; have ow := ov; refine ws ow 0 0 s9 s67 fun fw ow => ?_; refine wt hK19 ?_; refine sq fun hK20 => ?_
    refine ro [yV (.pointer (some ⟨gb4, 2, none⟩)), yV (al cl.v), yV (al (be cl.v)), yV (.pointer (some ⟨gb4, 2, none⟩))] 4 113 z q ow (
      ua (rfa (zt s9)) rfl <|
      ua (rln 3 ow 0 (zd 0)) rfl <|
      uc (rc1 (zd 1) ew) (fun hk => rQ cl.v _ (hwa.2 _ (List.mem_of_getElem? hcl))) rfl <|
      ua (rfa (zt s9)) rfl <|
      ah) fun fa fw bs hv ap z q ow => ?_
    obtain ⟨s2, s3, s4, s5, s6, s7, s8, s9⟩ := b8 bs s2 s3 s4 s5 s6 s7 s8 s9; have s70 := zh hv 2; have s71 := zh hv 3; refine ws ow 0 2 s71 s70 fun fw ow => ?_; refine wt hK20 ?_
    refine rgx [yV (.pointer (some ⟨gb3, 4, none⟩)), yV _, yV _, yV _] 4 113 z q ow (
      ua (rfa (zt s7)) rfl <|
      ua (rlb ow 2 (zd 0)) rfl <|
      ua (rle Tryz.underlying35 (zd 1)) rfl <|
      uq3 2 rfl rfl <|
      ah) fun fa fw bs hv ap z q ow => ?_
    obtain ⟨s2, s3, s4, s5, s6, s7, s8, s9⟩ := b8 bs s2 s3 s4 s5 s6 s7 s8 s9; have s10 := zh hv 3; refine sq fun hK22 => ?_; obtain ⟨gc, pl, hpl⟩ := wk (ow.row 1 rfl); have hal : acc.length ≤ 60 := by have := (pd a.x a.l i); rw [← hacc] at this; omega
    refine ro [yV (.pointer (some ⟨gb4, 2, none⟩)), yV (.pointer (some ⟨gb4, 2, none⟩)), yV _, yV _, yV _, yIf _ (yV (.agg #[.int .i64 a.x.c1, .int .i64 a.x.r1, .int .i64 a.x.c2, .int .i64 a.x.r2])), yIf _ (yV (.pointer (some ⟨gb4, 0, none⟩))), yIf _ (yV (.agg #[.int .i64 cl.c, .int .i64 cl.r])), yIf _ (yV (.bool (gU a.x cl.c cl.r))), yV _, yV _, yIf _ (yV _), yIf _ (yV _), yIf _ (yV _), yIf _ (yV (.pointer (some ⟨gb3, 4, none⟩))), yIf _ (yV _), yIf _ (yV _), yIf _ (yV (.int .i64 ((acc.length - 1 : Nat) : Int))), yIf _ (yV _), yIf _ (yV (.pointer (some ⟨gc, 0 + (acc.length - 1) * 5, none⟩))), yIf _ (yV (.agg #[.int .i64 pl.c, .int .i64 pl.r])), yIf _ (yV (.pointer (some ⟨gb4, 0, none⟩))), yIf _ (yV (.agg #[.int .i64 cl.c, .int .i64 cl.r])), yIf _ (yV (.bool (cO pl cl))), yIf _ (yV _), yV _] 26 113 z q ow (
      ua (rfa (zt s9)) rfl <|
      ua (rfa (zd 0)) rfl <|
      ua (rlb ow 0 (zd 1)) rfl <|
      ua (rne (zd 2) zc) rfl <|
      uq2 3 rfl rfl <|
      ui (gd1 4) (rln 4 ow 3 (zt s6)) rfl <|
      ui (gd1 4) (rfa (zt s9)) rfl <|
      ui (gd1 4) (rln 2 ow 0 (zi 6)) rfl <|
      uq6 (gd1 4) (rc2 (zi 5) (zi 7) eN) (fun hk hz => oB a.x cl.c cl.r _) rfl <|
      ua (ran (zd 4) (zi 8)) rfl <|
      uq2 9 rfl rfl <|
      ui (gd1 10) (rmo (zt s10)) rfl <|
      ui (gd1 10) (req (zi 11) zc) rfl <|
      ui (gd1 10) (rmo (zi 12)) rfl <|
      ui (gd2 13) (rfa (zt s7)) rfl <|
      ui (gd2 13) (rlb ow 2 (zi 14)) rfl <|
      ui (gd2 13) (rmo (zt s10)) rfl <|
      ai (gd2 13) (fun hk bs hd hz => Cv rfl (di hd 16 rfl hz) (by have := of_decide_eq_false hz.2; omega) (by omega)) rfl <|
      ai (gd2 13) (fun hk bs hd hz => jw 5 Tryz.underlying35 (by kernel_rfl) rfl (hpl (of_decide_eq_false hz.2)).1 (di hd 15 rfl hz) (di hd 17 rfl hz) (by have := of_decide_eq_false hz.2; omega)) rfl <|
      ui (gd2 13) (rfa (zi 18)) rfl <|
      ai (gd2 13) (fun hk bs hd hz => mi (n := 2) 0 rfl (by kernel_rfl) (by kernel_rfl) (di hd 19 rfl hz) rfl ((hpl (of_decide_eq_false hz.2)).2.1.kept hk)) rfl <|
      ui (gd2 13) (rfa (zt s9)) rfl <|
      ui (gd2 13) (rln 2 ow 0 (zi 21)) rfl <|
      uq6 (gd2 13) (rc2 (zi 20) (zi 22) ey) (fun hk hz => oC pl cl _) rfl <|
      ui (gd1 10) (roi (zi 13) (zi 23)) rfl <|
      ua (ran (zd 10) (zi 24)) rfl <|
      ah) fun fa fw bs hv ap z q ow => ?_
    obtain ⟨s2, s3, s4, s5, s6, s7, s8, s9⟩ := b8 bs s2 s3 s4 s5 s6 s7 s8 s9; have s100 := zh hv 25; refine wt hK22 ?_
    by_cases hc4 : ((((be cl.v).k : Int) ≠ (0 : Int)) ∧ ((gU a.x cl.c cl.r) = true)) ∧ ((((acc.length : Nat) : Int) = (0 : Int)) ∨ ((cO pl cl) = true))
    ·refine ct s100 ((lV (lV (decide_eq_true_iff) (Iff.rfl)) (bor (decide_eq_true_iff) (Iff.rfl))).2 hc4) ?_
     have hstep := yI hpl hc4
     refine ro [yV (.pointer (some ⟨gb3, 4, none⟩)), yV _, yV (.agg #[.int .i64 cl.c, .int .i64 cl.r, .int .u8 ((be cl.v).k), .int .i64 ((be cl.v).n), .string ⟨((be cl.v).t).toArray⟩]), bT fw.heap.size 1 (.cells #[.int .i64 cl.c, .int .i64 cl.r, .int .u8 ((be cl.v).k), .int .i64 ((be cl.v).n), .string ⟨((be cl.v).t).toArray⟩] 46 (0, 0))] 4 113 z q ow (
       ua (rfa (zt s7)) rfl <|
       ua (rlb ow 2 (zd 0)) rfl <|
       ua (rln 5 ow 0 (zt s9)) rfl <|
       arm (fun aa ww hk bs hd => by
         have d2 : aa.eval (.tmp 103) = .agg #[.int .i64 cl.c, .int .i64 cl.r, .int .u8 ((be cl.v).k), .int .i64 ((be cl.v).n), .string ⟨((be cl.v).t).toArray⟩] := fy hd 2 rfl; exact cZ _ (ag rfl) (bU (us := #[(0, .agg #[.int .i64 cl.c, .int .i64 cl.r, .int .u8 ((be cl.v).k), .int .i64 ((be cl.v).n), .string ⟨((be cl.v).t).toArray⟩])]) (b := .cells #[.int .i64 cl.c, .int .i64 cl.r, .int .u8 ((be cl.v).k), .int .i64 ((be cl.v).n), .string ⟨((be cl.v).t).toArray⟩] 46 (0, 0)) rfl (by simp only [List.map_toArray, List.map_cons, List.map_nil, d2]) (by kernel_rfl)) ⟨_, rfl, hk.size, Go.heap_alloc_new _ _⟩ ((Kept.refl _).alloc _) rfl (Nat.le_refl _)
         ) <|
       ah) fun fa fw bs hv ap z q ov => ?_
     obtain ⟨s2, s3, s4, s5, s6, s7, s8⟩ := b7 bs s2 s3 s4 s5 s6 s7 s8; have s102 := zh hv 1; obtain ⟨gb5, s104, bgb5, hgb5⟩ := Ac hv 3 rfl rfl rfl; have ov := ov.hc ow bgb5 hgb5; have ow := ov; refine nc (ag rfl) rfl (y := ms cl) s102 s104 (ow.thing 2 rfl) (ow.get 0 rfl) (by omega) (fun vr2 fw2 ho hg hb => ?_); have ow := ow.turn 2 rfl (t' := cT vr2 (acc ++ [ms cl])) ho hg (fF hb); clear ho hg hb; refine ae (v := .pointer (some ⟨gb3, 4, none⟩)) (ag rfl) (bH rfl (pb 105 s7 rfl) (by kernel_rfl)) ?_; refine kD (ag rfl) rfl (qb (off := 4) rfl (af (t := 106) (ab z) rfl) (pb 106 (af (t := 105) z rfl) rfl) (by kernel_rfl) (ow.box 3 rfl) (ve (ow.row 2 rfl)) (Nat.le_of_ble_eq_true rfl)) ?_; have ow : Own w1 ((Th.obj gb5 (.cells #[.int .i64 cl.c, .int .i64 cl.r, .int .u8 ((be cl.v).k), .int .i64 ((be cl.v).n), .string ⟨((be cl.v).t).toArray⟩] 46 (0, 0))) :: (Th.obj gb4 (.cells #[.int .i64 cl.c, .int .i64 cl.r, .int .u8 ((be cl.v).k), .int .i64 ((be cl.v).n), .string ⟨((be cl.v).t).toArray⟩] 46 (0, 0))) :: (cT vr2 (acc ++ [ms cl])) :: (Th.obj gb3 (.cells #[.int .i64 a.x.c1, .int .i64 a.x.r1, .int .i64 a.x.c2, .int .i64 a.x.r2, vr2] 37 (0, 0))) :: (Th.obj gb1 (.cells #[.int .i64 a.x.c1, .int .i64 a.x.r1, .int .i64 a.x.c2, .int .i64 a.x.r2] 34 (0, 0))) :: (dB v L) :: (L.map bW)) _ := ow.put 3 rfl 4 [vr2]
     refine gt7 (ab (ab z)) (ac (ac q)) ow 2 (pb 106 (pb 105 s2 rfl) rfl) 3 (pb 106 (pb 105 s3 rfl) rfl) 4 (pb 106 (pb 105 s4 rfl) rfl) 5 (pb 106 (pb 105 s5 rfl) rfl) 6 (pb 106 (pb 105 s6 rfl) rfl) 7 (pb 106 (pb 105 s7 rfl) rfl) 8 (pb 106 (pb 105 s8 rfl) rfl) fun fa fw z q ow s2 s3 s4 s5 s6 s7 s8 => ?_; refine bp ?_; refine bn ?_; refine tn hK18 ?_
     refine ro [yV _, yV (.int .i64 ((i + 1 : Nat) : Int))] 2 113 z q ow (
       um s8 rfl <|
       ua (rad (zd 0) zc) rfl <|
       ah) fun fa fw bs hv ap z q ow => ?_
     obtain ⟨s2, s3, s4, s5, s6, s7, s8⟩ := b7 bs s2 s3 s4 s5 s6 s7 s8; have s58 := zh hv 1; refine ae (v := .int .i64 ((i + 1 : Nat) : Int)) (ag rfl) (aq rfl s58) ?_; refine gp6 z q ow s2 s3 s4 s5 s6 s7 fun fa fw z q ow s2 s3 s4 s5 s6 s7 s8 => ?_; refine bp ?_; obtain ⟨A3, c3, rfl⟩ := bV (ow.row 2 rfl); exact bK ⟨(i + 1), ⟨A3, c3, (acc ++ [ms cl]), hlti, (pa hacc hcl hstep), z, q, ow.tail.tail, s2, s3, s4, s5, s6, s7, s8⟩, (show a.l.length - (i + 1) < a.l.length - i by omega)⟩
    refine cf s100 (lV (lV (decide_eq_true_iff) (Iff.rfl)) (bor (decide_eq_true_iff) (Iff.rfl))) hc4 ?_; have hstep := AO hpl hc4; refine wp_skip ?_; refine bn ?_; refine tn hK18 ?_
    refine ro [yV _, yV (.int .i64 ((i + 1 : Nat) : Int))] 2 113 z q ow (
      um s8 rfl <|
      ua (rad (zd 0) zc) rfl <|
      ah) fun fa fw bs hv ap z q ow => ?_
    obtain ⟨s2, s3, s4, s5, s6, s7, s8⟩ := b7 bs s2 s3 s4 s5 s6 s7 s8; have s58 := zh hv 1; refine ae (v := .int .i64 ((i + 1 : Nat) : Int)) (ag rfl) (aq rfl s58) ?_; refine gp6 z q ow s2 s3 s4 s5 s6 s7 fun fa fw z q ow s2 s3 s4 s5 s6 s7 s8 => ?_; refine bp ?_; exact bK ⟨(i + 1), ⟨A2, c2, acc, hlti, (pa hacc hcl hstep), z, q, ow.tail, s2, s3, s4, s5, s6, s7, s8⟩, (show a.l.length - (i + 1) < a.l.length - i by omega)⟩
   refine cf s56 (decide_eq_true_iff) hc3 ?_; refine wp_exit ?_; refine aX ?_; refine aX ?_; refine aP ?_; refine tn hK14 ?_; have hg2 : ed a = (⟨true, aG, a.x, acc⟩ : Ar) := by rw [hg, hacc, List.take_of_length_le (by omega)]; rfl
   refine ro [yV _, yV (.agg #[.int .i64 a.x.c1, .int .i64 a.x.r1, .int .i64 a.x.c2, .int .i64 a.x.r2, .slice A2 acc.length c2]), yV (.agg #[.bool true, .int .u8 0, .int .i64 0, .string ⟨[].toArray⟩, .int .i64 a.x.c1, .int .i64 a.x.r1, .int .i64 a.x.c2, .int .i64 a.x.r2, .slice A2 acc.length c2]), bT fw.heap.size 1 (.cells #[.bool true, .int .u8 0, .int .i64 0, .string ⟨[].toArray⟩, .int .i64 a.x.c1, .int .i64 a.x.r1, .int .i64 a.x.c2, .int .i64 a.x.r2, .slice A2 acc.length c2] 39 (0, 0))] 4 113 z q ow (
     um s3 rfl <|
     ua (rln 5 ow 1 (zt s7)) rfl <|
     arm (fun aa ww hk bs hd => by
       have d1 : aa.eval (.tmp 108) = .agg #[.int .i64 a.x.c1, .int .i64 a.x.r1, .int .i64 a.x.c2, .int .i64 a.x.r2, .slice A2 acc.length c2] := fy hd 1 rfl; exact bS (v := .agg #[.bool true, .int .u8 0, .int .i64 0, .string ⟨[].toArray⟩, .int .i64 a.x.c1, .int .i64 a.x.r1, .int .i64 a.x.c2, .int .i64 a.x.r2, .slice A2 acc.length c2]) (ag rfl) (bP (us := #[(0, .bool true), (2, .agg #[.int .i64 a.x.c1, .int .i64 a.x.r1, .int .i64 a.x.c2, .int .i64 a.x.r2, .slice A2 acc.length c2])]) rfl (by simp only [List.map_toArray, List.map_cons, List.map_nil, d1]; rfl) (by kernel_rfl)) rfl rfl
       ) <|
     arm (fun aa ww hk bs hd => by
       have d2 : aa.eval (.tmp 109) = .agg #[.bool true, .int .u8 0, .int .i64 0, .string ⟨[].toArray⟩, .int .i64 a.x.c1, .int .i64 a.x.r1, .int .i64 a.x.c2, .int .i64 a.x.r2, .slice A2 acc.length c2] := fy hd 2 rfl; exact cZ _ (ag rfl) (bU (us := #[(0, .agg #[.bool true, .int .u8 0, .int .i64 0, .string ⟨[].toArray⟩, .int .i64 a.x.c1, .int .i64 a.x.r1, .int .i64 a.x.c2, .int .i64 a.x.r2, .slice A2 acc.length c2])]) (b := .cells #[.bool true, .int .u8 0, .int .i64 0, .string ⟨[].toArray⟩, .int .i64 a.x.c1, .int .i64 a.x.r1, .int .i64 a.x.c2, .int .i64 a.x.r2, .slice A2 acc.length c2] 39 (0, 0)) rfl (by simp only [List.map_toArray, List.map_cons, List.map_nil, d2]) (by kernel_rfl)) ⟨_, rfl, hk.size, Go.heap_alloc_new _ _⟩ ((Kept.refl _).alloc _) rfl (Nat.le_refl _)
       ) <|
     ah) fun fa fw bs hv ap z q ov => ?_
   obtain ⟨s2, s3, s4, s5⟩ := b4 bs s2 s3 s4 s5; have s107 := zh hv 0; obtain ⟨gb6, s110, bgb6, hgb6⟩ := Ac hv 3 rfl rfl rfl; have ov := ov.hc ow bgb6 hgb6; have ow := ov; refine gt (ag rfl) rfl (y := (⟨true, aG, a.x, acc⟩ : Ar)) (sy := (.slice A2 acc.length c2)) s107 s110 (ow.thing 4 rfl) (ow.get 0 rfl) rfl (by have := congrArg List.length hL; simp only [List.length_map, List.length_take] at this; omega) (fun vr3 fw3 ho hg hb => ?_); have ow := ow.turn 4 rfl (t' := dB vr3 (L ++ [((⟨true, aG, a.x, acc⟩ : Ar), (.slice A2 acc.length c2))])) ho hg (fF hb); clear ho hg hb; refine ae (v := vr3) (ag rfl) (aq rfl (af (t := 111) z rfl)) ?_; refine gt4 (ab (ab z)) (ac (ac q)) ow 2 (pb 3 (pb 111 s2 rfl) rfl) 4 (pb 3 (pb 111 s4 rfl) rfl) 5 (pb 3 (pb 111 s5 rfl) rfl) 3 (af (t := 3) (ab z) rfl) fun fa fw z q ow s2 s4 s5 s3 => ?_; refine bp ?_; refine bn ?_; refine tn hK8 ?_
   refine ro [yV _, yV (.int .i64 ((k + 1 : Nat) : Int))] 2 113 z q ow (
     um s5 rfl <|
     ua (rad (zd 0) zc) rfl <|
     ah) fun fa fw bs hv ap z q ow => ?_
   obtain ⟨s2, s4, s5, s3⟩ := b4 bs s2 s4 s5 s3; have s18 := zh hv 1; refine ae (v := .int .i64 ((k + 1 : Nat) : Int)) (ag rfl) (aq rfl s18) ?_; refine gp3 z q ow s2 s4 s3 fun fa fw z q ow s2 s4 s3 s5 => ?_; refine bp ?_; exact bK ⟨(k + 1), ⟨vr3, (L ++ [((⟨true, aG, a.x, acc⟩ : Ar), (.slice A2 acc.length c2))]), hltk, (pf hL ha hg2), z, q, (mX (s := (.slice A2 acc.length c2)) (y := (⟨true, aG, a.x, acc⟩ : Ar)) (ow.sub (List.Sublist.cons _ (List.Sublist.cons_cons _ (List.Sublist.cons _ (List.Sublist.cons _ (List.Sublist.cons_cons _ (List.Sublist.refl _)))))))), s2, s3, s4, s5⟩, (show m.length - (k + 1) < m.length - k by omega)⟩
  refine cf s16 (decide_eq_true_iff) hc1 ?_; refine wp_exit ?_; refine aX ?_; refine aX ?_; refine aP ?_; refine tn hK4 ?_
  refine rgx [yV _, yV _] 2 113 z q ow (
    um s3 rfl <|
    uq3 0 rfl rfl <|
    ah) fun fa fw bs hv ap z q ow => ?_
  have s2 := zh hv 1; refine wp_ret ?_; refine am rfl (ak s2) q ?_; exact ⟨v, L, rfl, by rw [hL, List.take_of_length_le (by omega), hmdef]; rfl, oT o0 ow⟩
