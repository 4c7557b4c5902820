/- The law AggOrder, walked (printed by wip/mklaw13.py). -/
import Derived.Test.YtbkjdcpfkepheaaGreatDoorUMixBF
namespace Go.Proofs.YtbkjdcpfkepheaaGreatDoor
set_option linter.unusedVariables false
set_option linter.unusedSimpArgs false
open Go.RowKit Lv
set_option maxRecDepth 100000
theorem order_facts {m gl : List Ar} (h : gl = goodF (few16 m)) (hm : m.length ≤ 16) (hw : ∀ a ∈ m, WideA a) : (∀ a ∈ gl, okArg a = true) ∧ (∀ a ∈ gl, In16 a) ∧ gl.length ≤ 16 ∧ (∀ a ∈ gl, a.l.length ≤ 60) ∧ Fit16 gl := by
  subst h; have h1 : ∀ a ∈ goodF (few16 m), okArg a = true := goodF_ok
  have h2 : ∀ a ∈ goodF (few16 m), In16 a := goodF_in (fun a ha => by
    obtain ⟨b, hb, rfl⟩ := List.mem_map.1 ha; have w := hw b (List.mem_of_mem_take hb); refine ⟨w.1.2.1, fun c hc => ?_⟩; obtain ⟨d, hd, rfl⟩ := List.mem_map.1 hc; exact (w.2.2 d (List.mem_of_mem_take hd)).2.2.2.1)
  have h3 : (goodF (few16 m)).length ≤ 16 := by
    rw [goodF_len]; unfold few16; rw [List.length_map, List.length_take]
    omega
  have h4 : ∀ a ∈ goodF (few16 m), a.l.length ≤ 60 := goodF_cells (few16_cells m); exact ⟨h1, h2, h3, h4, ok_fit (by omega) h1 h2 (fun a ha => Nat.le_trans (h4 a ha) (by decide))⟩
theorem good_newl {gl m : List Ar} (h : gl = goodF (few16 m)) (A : Option Addr) (cap : Nat) (w : World) (hr : ArgsIn w A m) (hc : m.length ≤ cap) (hw : ∀ a ∈ m, a.l.length ≤ 2932031007402) (hwd : ∀ a ∈ m, Wide a.v ∧ ∀ c ∈ a.l, Wide c.v) : Calls Tryz.prog 13 #[.slice A m.length cap] w fun e w' => NewArgs w gl e w' := by
  subst h; exact (good16_own A cap m w hr hc hw hwd).mono fun _ _ h => h.new
theorem turn_at (a : Int) {n : Nat} (h : 0 < n) : ∃ t : Nat, Int.tmod ((Int.tmod a ((n : Nat) : Int)) + ((n : Nat) : Int)) ((n : Nat) : Int) = (t : Int) ∧ t < n := by
  have h1 := tmod_rng a ((n : Nat) : Int) (by omega); have h3 : 0 ≤ Int.tmod a ((n : Nat) : Int) + ((n : Nat) : Int) := by omega
  have h4 := tmod_rng (Int.tmod a ((n : Nat) : Int) + ((n : Nat) : Int)) ((n : Nat) : Int) (by omega); have h5 := h4.2.2 h3; exact ⟨(Int.tmod (Int.tmod a ((n : Nat) : Int) + ((n : Nat) : Int)) ((n : Nat) : Int)).toNat, by omega, by omega⟩
theorem xsliceFromK {a : Act} {w : World} {o : Oper} {T e : TypeId} {s : Nat} (hu : Tryz.prog.underlying T = some (.slice e)) (hz : (sizeOf e).run Tryz.prog w = .ok s w) {x y : Operand} (ho : o.op = .slice T x (some y) none none) {A : Option Addr} {b off n cap l : Nat} (hA : A = some ⟨b, off, none⟩) (hx : a.eval x = .slice A n cap) (hy : a.eval y = .int .i64 l) (h1 : l ≤ n) (h2 : n ≤ cap) (h3 : l < cap) : (execOp a.eval o).run Tryz.prog w = .ok (.value (.slice (some ⟨b, off + l * s, none⟩) (n - l) (cap - l))) w := by
  subst hA; have hr := run_underlying (w := w) hu; have c0 : (0 : Int) ≤ (l : Int) := by omega
  have c1 : (l : Int) ≤ (n : Int) := by omega
  have c2 : (n : Int) ≤ (cap : Int) := by omega
  have c3 : ¬ cap - l = 0 := by omega
  have c4 : ¬ cap ≤ l := by omega
  unfold execOp; rw [ho]
  simp only [hx, hy, Option.map_some, Option.map_none]
  go_simp
  try (intro c; omega)
theorem own_emptyArgs {w0 w : World} (h : Own w0 [] w) : Own w0 [argTh (.slice (some ⟨w.heap.size, 0, none⟩) 0 0) []] (w.alloc (.cells #[] 39 (0, 0))) :=
  h.add (t := argTh (.slice (some ⟨w.heap.size, 0, none⟩) 0 0) []) ⟨rfl, Or.inr ⟨w.heap.size, 0, #[], rfl, Nat.zero_le _, Go.heap_alloc_new _ _, Nat.le_refl _, Nat.zero_le _, rfl, rfl⟩⟩ ((Kept.refl _).alloc _) (fun g e => by cases e; exact Nat.le_refl _)
theorem RowK.drop9 {w : World} {A : Option Addr} {L : List (Ar × Value)} (h : RowK 9 (fun p : Ar × Value => arV p.1 p.2) w A L) {b off : Nat} (hA : A = some ⟨b, off, none⟩) (t : Nat) : RowK 9 argE w (some ⟨b, off + t * 9, none⟩) (L.drop t) := fun i x hx => by
  rw [List.getElem?_drop] at hx; obtain ⟨b', off', e, hb, hc⟩ := h _ _ hx; rw [hA] at e
  cases e
  refine ⟨b, off + t * 9, rfl, hb, fun j v hj => ?_⟩; rw [show off + t * 9 + i * 9 + j = off + (t + i) * 9 + j by omega]; exact hc j v hj
theorem argE_one {L : List (Ar × Value)} {w : World} (hc : ∀ p ∈ L, CellsAt w p.2 p.1.l) : ∀ u ∈ (L.map argE).flatten, u.oneCell' = true := fun u hu => by
  obtain ⟨x, hx, hu⟩ := List.mem_flatten.1 hu; obtain ⟨p, hp, rfl⟩ := List.mem_map.1 hx; obtain ⟨A, c, e, _⟩ := hc p hp
  simp only [argE, arV, List.mem_cons, List.not_mem_nil, or_false] at hu
  rcases hu with rfl | rfl | rfl | rfl | rfl | rfl | rfl | rfl | rfl <;> first | (rw [e]; rfl) | rfl
theorem stepC_appendArgs {w : World} {a : Act} {o : Oper} {S : Value → World → Prop} {p : Value → Prop} {s x : Operand} (ho : o.op = .call { callee := .builtin .append, args := #[s, x], argTypes := #[22, 22] }) {v : Value} {L M : List (Ar × Value)} {A : Option Addr} {n c : Nat} (hs : a.eval s = v) (hx : a.eval x = .slice A n c) (hown : (argTh v L).p w) (hn : M.length = n) (hr : RowK 9 argE w A M) (hA : ∃ ad, A = some ad) (h1 : ∀ u ∈ (M.map argE).flatten, u.oneCell' = true) (hl : L.length + n ≤ 1000)
    (h : ∀ v' w', (argTh v' (L ++ M)).p w' → w.grownBy w' v.ownBlock → (v'.ownBlock = v.ownBlock ∨ v'.ownBlock = some w.heap.size) → p v' ∧ S v' w') (hd : o.dst ≠ none) : StepC Tryz.prog S p o a w := by
  obtain ⟨ad, rfl⟩ := hA; obtain ⟨i, z, hi, hz, h2, h3, h4⟩ := info_k 39 9 9 96 (by kernel_rfl) rfl; subst hn; obtain ⟨v', w', hrun, ho', hg', _, hb⟩ := run_append_own_at (P := Tryz.prog) (w := w) 0 22 o.type 39 i z 9 96 Tryz.underlying22 hi hz h2 h3 h4 (by decide) v L.length _ hown ad M.length c (M.map argE).flatten (flat_len argE_len M) (rowK_flat argE_len hr) h1 (by simp only [maxLen]; omega) (by omega) (Nat.zero_le _); obtain ⟨hp, hS⟩ := h v' w' (by show w'.ownsRow 0 _ 9 v' (L ++ M).length ((L ++ M).map argE).flatten; rw [List.length_append, List.map_append, List.flatten_append]; exact ho') hg' hb; refine stepC_value ?_ hp hS hd; unfold execOp
  simp only [ho, resolve, invoke, builtin, Sem.run_bind, Sem.run_pure, Result.andThen_ok, List.map_toArray, List.map_cons, List.map_nil, hs, hx, hrun]
theorem mem_turn {α : Type} {L : List α} {t : Nat} {p : α} (h : p ∈ L.drop t ++ L.take t) : p ∈ L := by
  rcases List.mem_append.1 h with h | h
  · exact List.mem_of_mem_drop h
  · exact List.mem_of_mem_take h
theorem fit_turn {l : List Ar} (h : Fit16 l) (t : Nat) : Fit16 (l.drop t ++ l.take t) := ⟨by rw [List.length_append, List.length_drop, List.length_take]; have := h.1; omega, fun a ha => h.2 a (mem_turn ha)⟩
theorem acall_turned (x : Vl) (fn : Nat) {A2 : Option Addr} {c2 n : Nat} {TL : List (Ar × Value)} {m2 : List Ar} (hm : TL.map Prod.fst = m2) (hn : TL.length = n) (w : World) (mx : Int) (HM : Mx w mx) (hrow : (argTh (.slice A2 TL.length c2) TL).p w) (hc : ∀ p ∈ TL, CellsAt w p.2 p.1.l) (hf : Fit16 m2) (hx : vCall16 fn m2 = (x, 0)) :
    Calls Tryz.prog 11 #[.int .u8 fn, .slice A2 n c2] w fun e w' => e = .returned (.tuple #[aggV x, .int .i64 0]) ∧ Kept w w' := by
  subst hm; obtain ⟨A, cap, e, r, hcap, _⟩ := RowK.own argE_len hrow
  cases e
  have h := acall_eq x 0 fn A2 c2 (TL.map Prod.fst) w mx HM ⟨TL, rfl, r, hc⟩ hf (by rw [List.length_map]; exact hcap) hx; rw [List.length_map, hn] at h; exact h
theorem nums_flag {w w' : World} {l : List Ar} {v : Value} {x : Vl} {b : Bool} (h : ∀ a ∈ l, okArg a = true) (hn : (b = false ∧ v = .slice none 0 0 ∧ vNums16 l = ([], x, false)) ∨ (b = true ∧ ∃ L, vNums16 l = (L, x, true) ∧ w'.ownsRow w.heap.size 2 1 v L.length (L.map (Value.int .i64)))) : b = (nums16 l).2.2 := by
  have e : vNums16 l = nums16 l := by
    unfold vNums16; rw [if_pos (List.all_eq_true.2 h)]
  rw [e] at hn; rcases hn with ⟨rfl, _, hn⟩ | ⟨rfl, L, hn, _⟩ <;> rw [hn]
theorem fn7 (k : Nat) (h : k < 7) : ∃ fn : Nat, Ord16 fn ∧ ∀ w : World, (Instr.index 64 (.agg #[.int .u8 9, .int .u8 11, .int .u8 12, .int .u8 15, .int .u8 16, .int .u8 17, .int .u8 14]) (.int .i64 (k : Int))).run Tryz.prog w = .ok (.int .u8 (fn : Int)) w := by
  match k, h with
  | 0, _ => exact ⟨9, by simp [Ord16], fun w => by kernel_rfl⟩
  | 1, _ => exact ⟨11, by simp [Ord16], fun w => by kernel_rfl⟩
  | 2, _ => exact ⟨12, by simp [Ord16], fun w => by kernel_rfl⟩
  | 3, _ => exact ⟨15, by simp [Ord16], fun w => by kernel_rfl⟩
  | 4, _ => exact ⟨16, by simp [Ord16], fun w => by kernel_rfl⟩
  | 5, _ => exact ⟨17, by simp [Ord16], fun w => by kernel_rfl⟩
  | 6, _ => exact ⟨14, by simp [Ord16], fun w => by kernel_rfl⟩
theorem order_vals {fn : Nat} (hf : Ord16 fn) {l : List Ar} (h0 : l ≠ []) (h : ∀ a ∈ l, okArg a = true) (hi : ∀ a ∈ l, In16 a) (hn : l.length ≤ 16) (hl : ∀ a ∈ l, a.l.length ≤ 60) (t : Nat) :
    vCall16 fn l = (val16 fn l, 0) ∧ vCall16 fn (l.drop t ++ l.take t) = (val16 fn (l.drop t ++ l.take t), 0) ∧ (Small (val16 fn l) ∧ vOk (val16 fn l) = true) ∧ (Small (val16 fn (l.drop t ++ l.take t)) ∧ vOk (val16 fn (l.drop t ++ l.take t)) = true) := by
  have e : (l.drop t ++ l.take t).length = l.length := by rw [List.length_append, List.length_drop, List.length_take]; omega
  have n0 : l.drop t ++ l.take t ≠ [] := fun c => h0 (List.eq_nil_of_length_eq_zero (by rw [← e, c]; rfl)); exact ⟨call_ok16 hf h0 hn h, call_ok16 hf n0 (by rw [e]; exact hn) (fun a ha => h a (mem_turn ha)), val_small hf h hi (by omega) hl, val_small hf (fun a ha => h a (mem_turn ha)) (fun a ha => hi a (mem_turn ha)) (by omega) (fun a ha => hl a (mem_turn ha))⟩
theorem check16_any (v : Vl) (w : World) (hs : Small v) (ok : vOk v = true) : Calls Tryz.prog 27 #[aggV v] w fun e w' => e = .returned (.int .i64 0) ∧ Kept w w' := by
  have h := vcheck5_any v w hs.1 (Nat.le_trans hs.2 (by decide)); rw [show vChk v = 0 by unfold vChk; rw [ok]; rfl] at h; exact h
theorem order_no {fn : Nat} (hf : Ord16 fn) {l m : List Ar} (p : m.Perm l) {b : Bool} (hb : b = (nums16 l).2.2) : ¬ ((¬ ((sameV (val16 fn l) (val16 fn m)) = true)) ∧ (((((b = true) ∨ ((fn : Int) = (11 : Int))) ∨ ((fn : Int) = (12 : Int))) ∨ (((val16 fn l).k : Int) ≠ (4 : Int))) ∨ (((val16 fn m).k : Int) ≠ (4 : Int)))) := by
  rintro ⟨h1, h2⟩; rcases order16 hf p.symm with e | ⟨e1, e2, e3, e4, e5⟩
  · exact h1 (by rw [e]; exact sameV_self _)
  · rcases h2 with (((h | h) | h) | h) | h
    · rw [hb, e1] at h; cases h
    · omega
    · omega
    · omega
    · omega
theorem en_agg_Numbers : En 21 := by intro args w; go_simp
theorem en_louvrelaw16_Good : En 13 := by intro args w; go_simp
theorem en_louvrelaw16_awake : En 15 := by intro args w; go_simp
set_option maxHeartbeats 8000000 in
theorem AggOrder_walk (a0 : Option Addr) (len0 cap0 : Nat) (l0 : List Ar) (a1 : Int) (w : World) (w0 : ArgsW w a0 len0 cap0 l0) (w1 : (Lit.int .i64 a1).wf = true) (mx : Int) (HM : Mx w mx) :
    Calls Tryz.prog 8 #[.slice a0 len0 cap0, .int .i64 a1] w fun e w' => e = .returned (.bool true) ∧ Below w.heap.size w w' := by
  obtain ⟨hr0, rfl, hle, hmx, hwd, hsm⟩ := w0; have r1 := Go.bounds_i64 w1; obtain ⟨m, hmdef⟩ : ∃ m, m = l0.take 16 := ⟨_, rfl⟩; have hrm : ArgsIn w a0 m := by rw [hmdef]; exact hr0.take 16
  have hmn : m.length = min l0.length 16 := by rw [hmdef, List.length_take, Nat.min_comm]
  have hmsm : ∀ a ∈ m, a.l.length ≤ 2932031007402 := fun a h => hsm a (by rw [hmdef] at h; exact List.mem_of_mem_take h); have hmw : ∀ a ∈ m, WideA a := fun a h => hwd a (by rw [hmdef] at h; exact List.mem_of_mem_take h); have hmwd : ∀ a ∈ m, Wide a.v ∧ ∀ c ∈ a.l, Wide c.v := fun a h => ⟨(hmw a h).1, fun c hc => ((hmw a h).2.2 c hc).2.2⟩; obtain ⟨gl, hgl⟩ : ∃ gl, gl = goodF (few16 m) := ⟨_, rfl⟩; obtain ⟨hgo, hgi, hgn, hgc, hfit⟩ := order_facts hgl (by omega) hmw; clear w1; go_enter Tryz.func8, Tryz.ntmps8; refine sq fun hK1 => ?_
  refine ro [yV _] 1 109 rfl rfl (Own.start w) (
    aS (fun hk bs hd => xassign rfl rfl) rfl <|
    arm0) fun fa fw bs hv ap z q ow => ?_
  have s0 := bs.get 0 rfl rfl; have s1 := bs.get 1 rfl rfl; have s4 := gv hv 0 rfl rfl; refine wt hK1 ?_; refine sq fun hK2 => ?_
  refine ro [yV _, yV _, yV _, yV _, yV _] 5 109 z q ow (
    mvS s0 rfl rfl rfl rfl <|
    mvS s0 rfl rfl rfl rfl <|
    aS (fun hk bs hd => xlen Tryz.underlying22 rfl (dp hd 1 rfl)) rfl <|
    aS (fun hk bs hd => xminE rfl rfl rfl (n := l0.length) (m := 16) (dp hd 2 rfl) rfl hmn.symm) rfl <|
    aS (fun hk bs hd => xsliceToK (s := 9) Tryz.underlying22 (by kernel_rfl) rfl (dp hd 0 rfl) (dp hd 3 rfl) (by omega)) rfl <|
    arm0) fun fa fw bs hv ap z q ow => ?_
  obtain ⟨s1, s4⟩ := b2 bs s1 s4; have s20 := gv hv 4 rfl rfl; refine wl_enter (want0 rfl) (xcall1 (u := .slice (fz a0 cap0) m.length cap0) rfl s20 (en_louvrelaw16_Good _ _)) ((good_newl hgl (fz a0 cap0) cap0 _ ((hrm.kept ow.kept).fz cap0) (by omega) hmsm hmwd).mono ?_); rintro _ fw ⟨A1, p1, rfl, hr1, hp1, hn1, hk⟩; refine ⟨_, rfl, ?_⟩; rcases (rfl : (0 : Nat) = 0) with _
  obtain ⟨w1, rfl⟩ : ∃ z, z = fw := ⟨_, rfl⟩; have o0 := ow.keep hk; clear hk; have hm1 := HM.kept o0.kept; have ow := Own.start w1; refine wl_value (v := .slice A1 gl.length p1) (want0 rfl) (xassign rfl (put_in (t := 21) z rfl)) ?_; refine gt3 (put_size (put_size z)) (put_def (put_def q)) ow 1 (pb 5 (pb 21 s1 rfl) rfl) 4 (pb 5 (pb 21 s4 rfl) rfl) 5 (put_in (t := 5) (put_size z) rfl) fun fa fw z q ow s1 s4 s5 => ?_; refine wt hK2 ?_; refine sq fun hK3 => ?_; refine sq fun hK4 => ?_
  refine ro [yV _, yV _, yV _] 3 109 z q ow (
    mvS s5 rfl rfl rfl rfl <|
    aS (fun hk bs hd => xlen Tryz.underlying22 rfl (dp hd 0 rfl)) rfl <|
    aS (fun hk bs hd => xeqi rfl (dp hd 1 rfl) rfl) rfl <|
    arm0) fun fa fw bs hv ap z q ow => ?_
  obtain ⟨s1, s4, s5⟩ := b3 bs s1 s4 s5; have s24 := gv hv 2 rfl rfl; refine wt hK4 ?_
  by_cases hc1 : ((gl.length : Nat) : Int) = (0 : Int)
  ·refine ct s24 ((decide_eq_true_iff).2 hc1) ?_
   refine sq fun hK5 => ?_
   refine ro [yV (.bool true), yV _] 2 109 z q ow (
     aC (fun hk bs hd => xcall0 rfl (en_louvrelaw16_awake _ _)) (fun hk bs hd => awake16_any _ mx (hm1.kept (ow.keep hk).kept)) rfl <|
     asD 0 rfl rfl rfl rfl rfl rfl <|
     arm0) fun fa fw bs hv ap z q ow => ?_
   obtain ⟨s1, s5⟩ := b2 bs s1 s5; have s4 := gv hv 1 rfl rfl; refine wt hK5 ?_; refine wp_ret ?_; refine then_r ?_; refine results_one rfl (res_tmp s4) q ?_; exact ⟨rfl, o0.kept.trans ow.kept⟩
  refine cf s24 (decide_eq_true_iff) hc1 ?_; have hg0 : gl ≠ [] := fun e => hc1 (by rw [e]; rfl); obtain ⟨LQ, hLQ, hRQ, hCQ⟩ := id hr1; have hLn : LQ.length = gl.length := by rw [← hLQ, List.length_map]
  obtain ⟨bq, oq, hA1, _⟩ := hRQ.addr (fun e => hg0 (by rw [← hLQ, e]; rfl)); have htm := tmod_rng a1 ((gl.length : Nat) : Int) (by omega); obtain ⟨t, ht, htn⟩ := turn_at a1 (n := gl.length) (by omega); refine wp_skip ?_; refine tn hK3 ?_; refine sq fun hK6 => ?_
  refine ro [yV _, yV _, yV _, yV _, yV _, yV _, yV _, yV _, yV _, yV (.int .i64 (t : Int))] 10 109 z q ow (
    mvS s1 rfl rfl rfl rfl <|
    mvS s5 rfl rfl rfl rfl <|
    aS (fun hk bs hd => xlen Tryz.underlying22 rfl (dp hd 1 rfl)) rfl <|
    aS (fun hk bs hd => xremZ (Or.inl rfl) rfl (n := a1) (m := ((gl.length : Nat) : Int)) (dp hd 0 rfl) (dp hd 2 rfl) (by omega) (by omega) (by omega)) rfl <|
    mvS s5 rfl rfl rfl rfl <|
    aS (fun hk bs hd => xlen Tryz.underlying22 rfl (dp hd 4 rfl)) rfl <|
    aS (fun hk bs hd => xadd (Or.inl rfl) rfl (dp hd 3 rfl) (dp hd 5 rfl) (by omega) (by omega)) rfl <|
    mvS s5 rfl rfl rfl rfl <|
    aS (fun hk bs hd => xlen Tryz.underlying22 rfl (dp hd 7 rfl)) rfl <|
    aE (fun hk bs hd => xremZ (Or.inl rfl) rfl (n := (Int.tmod a1 ((gl.length : Nat) : Int)) + ((gl.length : Nat) : Int)) (m := ((gl.length : Nat) : Int)) (dp hd 6 rfl) (dp hd 8 rfl) (by omega) (by omega) (by omega)) (congrArg (Value.int .i64) ht) rfl <|
    arm0) fun fa fw bs hv ap z q ow => ?_
  obtain ⟨s1, s4, s5⟩ := b3 bs s1 s4 s5; have s35 := gv hv 9 rfl rfl; refine wl_value (v := .int .i64 (t : Int)) (want0 rfl) (xassign rfl s35) ?_; refine gp2 z q ow s4 s5 fun fa fw z q ow s4 s5 s1 => ?_; refine wt hK6 ?_; refine sq fun hK7 => ?_; refine region_chain [0, 4, 8, 9] [fun _ => True, fun v => v = .slice A1 gl.length p1, fun v => v = .int .i64 (t : Int), fun v => v = .slice (some ⟨bq, oq + t * 9, none⟩) (gl.length - t) (p1 - t), fun _ => True, fun v => v = .slice A1 gl.length p1, fun v => v = .int .i64 (t : Int), fun v => v = .slice (fz A1 p1) t p1, fun _ => True, fun _ => True] (Stages w1 [⟨fun gs ys => True, fun gs ys => []⟩, ⟨fun gs ys => True, fun gs ys => [argTh (ys.getD 0 undef) []]⟩, ⟨fun gs ys => True, fun gs ys => [argTh (ys.getD 1 undef) (LQ.drop t)]⟩, ⟨fun gs ys => True, fun gs ys => [argTh (ys.getD 2 undef) (LQ.drop t ++ LQ.take t)]⟩, ⟨fun gs ys => ys.getD 3 undef = ys.getD 2 undef, fun gs ys => [argTh (ys.getD 2 undef) (LQ.drop t ++ LQ.take t)]⟩]) (Kept w1) 109 (by kernel_rfl) z (by kernel_rfl) (by kernel_rfl) (Stages.kept _ _) (Stages.drew _ _) ⟨[], trivial, ow⟩ (fun i o ho hn aa ww hk bs hd => ?_) (fun tt i o ht9 ho aa ww bs hS hd => ?_) (fun fa fw bs hv hS => ?_)
  ·match i, ho, hn with
    | 1, ho, hn =>
      cases ho
      exact ⟨_, xmove rfl ((bs 5 rfl).trans s5), rfl, fun h => by cases h⟩
    | 2, ho, hn =>
      cases ho
      exact ⟨_, xmove rfl ((bs 1 rfl).trans s1), rfl, fun h => by cases h⟩
    | 3, ho, hn =>
      cases ho
      exact ⟨_, xsliceFromK (s := 9) Tryz.underlying22 (by kernel_rfl) rfl hA1 (show aa.eval (.tmp 37) = .slice A1 gl.length p1 from depP hd 1 rfl) (show aa.eval (.tmp 38) = .int .i64 (t : Int) from depP hd 2 rfl) (by omega) (by omega) (by omega), rfl, fun h => by cases h⟩
    | 5, ho, hn =>
      cases ho
      exact ⟨_, xmove rfl ((bs 5 rfl).trans s5), rfl, fun h => by cases h⟩
    | 6, ho, hn =>
      cases ho
      exact ⟨_, xmove rfl ((bs 1 rfl).trans s1), rfl, fun h => by cases h⟩
    | 7, ho, hn =>
      cases ho
      exact ⟨_, xsliceToK (s := 9) Tryz.underlying22 (by kernel_rfl) rfl (show aa.eval (.tmp 41) = .slice A1 gl.length p1 from depP hd 5 rfl) (show aa.eval (.tmp 42) = .int .i64 (t : Int) from depP hd 6 rfl) (by omega), rfl, fun h => by cases h⟩
    | 0, ho, hn => exact absurd (by decide) hn
    | 4, ho, hn => exact absurd (by decide) hn
    | 8, ho, hn => exact absurd (by decide) hn
    | 9, ho, hn => exact absurd (by decide) hn
    | i + 10, ho, hn => exact absurd ho (by simp)
  ·match tt, ht9 with
    | 0, ht9 =>
      cases ht9; cases ho
      obtain ⟨gs, hc, ow⟩ := (show ∃ gs : List Nat, True ∧ Own w1 [] ww from hS); exact stepC_value (xbuildSlice (us := #[]) (b := .cells #[] 39 (0, 0)) rfl (by simp) (by kernel_rfl)) trivial ⟨[], trivial, own_emptyArgs ow⟩ (fun h => by cases h)
    | 1, ht9 =>
      cases ht9; cases ho
      obtain ⟨gs, hc, ow⟩ := (show ∃ gs : List Nat, True ∧ Own w1 [argTh (aa.eval (.tmp 36)) []] ww from hS); exact stepC_appendArgs rfl rfl (show aa.eval (.tmp 39) = .slice (some ⟨bq, oq + t * 9, none⟩) (gl.length - t) (p1 - t) from depP hd 3 rfl) (ow.row 0 rfl) (by rw [List.length_drop, hLn]) ((hRQ.kept ow.kept).drop9 hA1 t) ⟨_, rfl⟩ (argE_one (fun p hp => hCQ p (List.mem_of_mem_drop hp))) (by simp only [List.length_nil]; omega) (fun v' w' ho' hg hb => ⟨trivial, [], trivial, ow.turn 0 rfl (t' := argTh v' ([] ++ LQ.drop t)) ho' hg (turn_new hb)⟩) (fun h => by cases h)
    | 2, ht9 =>
      cases ht9; cases ho
      obtain ⟨gs, hc, ow⟩ := (show ∃ gs : List Nat, True ∧ Own w1 [argTh (aa.eval (.tmp 40)) (LQ.drop t)] ww from hS); exact stepC_appendArgs rfl rfl (show aa.eval (.tmp 43) = .slice (fz A1 p1) t p1 from depP hd 7 rfl) (ow.row 0 rfl) (by rw [List.length_take]; omega) (((hRQ.kept ow.kept).take t).fz p1) (by rw [hA1, fz_some]; exact ⟨_, rfl⟩) (argE_one (fun p hp => hCQ p (List.mem_of_mem_take hp))) (by rw [List.length_drop]; omega) (fun v' w' ho' hg hb => ⟨trivial, [], trivial, ow.turn 0 rfl (t' := argTh v' (LQ.drop t ++ LQ.take t)) ho' hg (turn_new hb)⟩) (fun h => by cases h)
    | 3, ht9 =>
      cases ht9; cases ho
      obtain ⟨gs, hc, ow⟩ := (show ∃ gs : List Nat, True ∧ Own w1 [argTh (aa.eval (.tmp 44)) (LQ.drop t ++ LQ.take t)] ww from hS); exact stepC_value (xassign rfl rfl) trivial ⟨[], rfl, ow⟩ (fun h => by cases h)
    | tt + 4, ht9 => exact absurd ht9 (by simp)
  obtain ⟨gs, hc, ow⟩ := (show ∃ gs : List Nat, (fa.eval (.tmp 6) = fa.eval (.tmp 44)) ∧ Own w1 [argTh (fa.eval (.tmp 44)) (LQ.drop t ++ LQ.take t)] fw from hS); have z := bs.size.trans z; have q := bs.defers.trans q; have s5 := (bs.same 5 (by kernel_rfl)).trans s5; obtain ⟨A2, c2, e6⟩ := row_slice (ow.row 0 rfl); have hTL : (LQ.drop t ++ LQ.take t).length = gl.length := by rw [List.length_append, List.length_drop, List.length_take]; omega
  have s6 : fa.eval (.tmp 6) = .slice A2 gl.length c2 := by rw [hc, e6, hTL]
  rw [e6] at ow; clear hv hS hc e6 bs; refine tn hK7 ?_; refine sq fun hK8 => ?_
  refine ro [yV _] 1 109 z q ow (
    mvS s5 rfl rfl rfl rfl <|
    arm0) fun fa fw bs hv ap z q ow => ?_
  obtain ⟨s5, s6⟩ := b2 bs s5 s6; have s46 := gv hv 0 rfl rfl; refine wl_enter (want0 rfl) (xcall1 (u := .slice A1 gl.length p1) rfl s46 (en_agg_Numbers _ _)) ((anums_fit A1 p1 gl _ mx (hm1.kept ow.kept) (hr1.kept ow.kept) hfit).mono ?_); rintro _ fw ⟨v9, x9, bv9, rfl, hk, hn9⟩; refine ⟨_, rfl, ?_⟩; have ow := ow.keep hk; clear hk; refine wl_value (v := .tuple #[v9, aggV x9, .bool bv9]) (want0 rfl) (xmove rfl (put_in (t := 47) z rfl)) ?_; refine wl_value (v := v9) (want0 rfl) (xextract rfl (put_in (t := 45) (put_size z) rfl) rfl) ?_; refine wl_value (v := aggV x9) (want0 rfl) (xextract rfl (pb 48 (put_in (t := 45) (put_size z) rfl) rfl) rfl) ?_; refine wl_value (v := .bool bv9) (want0 rfl) (xextract rfl (pb 49 (pb 48 (put_in (t := 45) (put_size z) rfl) rfl) rfl) rfl) ?_; refine wl_newP ow (want0 rfl) (xalloc (b := .cells #[.int .u8 0, .int .i64 0, .string ⟨[].toArray⟩] 25 (0, 0)) rfl (by kernel_rfl)) fun gb1 fw ow => ?_; refine gt6 (put_size (put_size (put_size (put_size (put_size (put_size z)))))) (put_def (put_def (put_def (put_def (put_def (put_def q)))))) ow 5 (pb 8 (pb 50 (pb 49 (pb 48 (pb 45 (pb 47 s5 rfl) rfl) rfl) rfl) rfl) rfl) 6 (pb 8 (pb 50 (pb 49 (pb 48 (pb 45 (pb 47 s6 rfl) rfl) rfl) rfl) rfl) rfl) 48 (pb 8 (pb 50 (pb 49 (put_in (t := 48) (put_size (put_size z)) rfl) rfl) rfl) rfl) 49 (pb 8 (pb 50 (put_in (t := 49) (put_size (put_size (put_size z))) rfl) rfl) rfl) 50 (pb 8 (put_in (t := 50) (put_size (put_size (put_size (put_size z)))) rfl) rfl) 8 (put_in (t := 8) (put_size (put_size (put_size (put_size (put_size z))))) rfl) fun fa fw z q ow s5 s6 s48 s49 s50 s8 => ?_
  refine wl_value (v := v9) (want0 rfl) (xassign rfl s48) ?_; refine wl_store ow 0 0 (want0 rfl) rfl rfl (pb 7 s8 rfl) (pb 7 s49 rfl) (by kernel_rfl) rfl rfl rfl fun fw ow => ?_; refine wl_value (v := .bool bv9) (want0 rfl) (xassign rfl (pb 7 s50 rfl)) ?_; refine gt3 (put_size (put_size z)) (put_def (put_def q)) ow 5 (pb 9 (pb 7 s5 rfl) rfl) 6 (pb 9 (pb 7 s6 rfl) rfl) 9 (put_in (t := 9) (put_size z) rfl) fun fa fw z q ow s5 s6 s9 => ?_; refine wt hK8 ?_; refine sq fun hK9 => ?_; refine sq fun hK10 => ?_; have hb9 := nums_flag hgo hn9; have hfit2 := fit_turn hfit t
  refine ro [yV (.agg #[.int .u8 9, .int .u8 11, .int .u8 12, .int .u8 15, .int .u8 16, .int .u8 17, .int .u8 14]), yV _] 2 109 z q ow (
    aS (fun hk bs hd => xbuild (us := #[(0, .int .u8 9), (1, .int .u8 11), (2, .int .u8 12), (3, .int .u8 15), (4, .int .u8 16), (5, .int .u8 17), (6, .int .u8 14)]) rfl (by simp only [List.map_toArray, List.map_cons, List.map_nil]; rfl) (by kernel_rfl)) rfl <|
    aS (fun hk bs hd => xmove rfl rfl) rfl <|
    arm0) fun fa fw bs hv ap z q ow => ?_
  obtain ⟨s5, s6, s9⟩ := b3 bs s5 s6 s9; have s51 := gv hv 0 rfl rfl; have s52 := gv hv 1 rfl rfl; refine wt hK10 ?_; refine wp_block ?_; refine wp_loop_g (fun (k : Nat) fr u => (k ≤ 7) ∧ fr.tmps.size = 109 ∧ fr.defers = [] ∧ Own w1 [Th.obj gb1 (.cells #[.int .u8 x9.k, .int .i64 x9.n, .string ⟨x9.t.toArray⟩] 25 (0, 0)), argTh (.slice A2 (LQ.drop t ++ LQ.take t).length c2) (LQ.drop t ++ LQ.take t)] u ∧ fr.eval (.tmp 5) = .slice A1 gl.length p1 ∧ fr.eval (.tmp 6) = .slice A2 gl.length c2 ∧ fr.eval (.tmp 9) = .bool bv9 ∧ fr.eval (.tmp 51) = .agg #[.int .u8 9, .int .u8 11, .int .u8 12, .int .u8 15, .int .u8 16, .int .u8 17, .int .u8 14] ∧ fr.eval (.tmp 52) = .int .i64 (k : Int)) (fun k => 7 - k) 0 ⟨(Nat.zero_le _), z, q, ow, s5, s6, s9, s51, s52⟩ (fun k b_ u_ hI => ?_)
  revert b_ u_; intro fa fw hI
  obtain ⟨hk0, z, q, ow, s5, s6, s9, s51, s52⟩ := hI; refine sq fun hK11 => ?_
  refine ro [yV _] 1 109 z q ow (
    aS (fun hk bs hd => xlss rfl (bg bs s52) rfl) rfl <|
    arm0) fun fa fw bs hv ap z q ow => ?_
  obtain ⟨s5, s6, s9, s51, s52⟩ := b5 bs s5 s6 s9 s51 s52; have s53 := gv hv 0 rfl rfl; refine wt hK11 ?_; refine sq fun hK12 => ?_
  by_cases hc2 : (k : Int) < (7 : Int)
  ·refine ct s53 ((decide_eq_true_iff).2 hc2) ?_
   refine wp_skip ?_; refine tn hK12 ?_; refine sq fun hK13 => ?_; refine wp_block ?_; refine sq fun hK14 => ?_; have hltk : k < 7 := by omega
   obtain ⟨fn, hf, hfe⟩ := fn7 k hltk; obtain ⟨hx1, hx2, hv1, hv2⟩ := order_vals hf hg0 hgo hgi hgn hgc t
   refine ro [yV (.int .u8 (fn : Int)), yV _] 2 109 z q ow (
     aS (fun hk bs hd => xindex rfl (bg bs s51) (bg bs s52) (hfe _)) rfl <|
     asD 0 rfl rfl rfl rfl rfl rfl <|
     arm0) fun fa fw bs hv ap z q ow => ?_
   obtain ⟨s5, s6, s9, s51, s52⟩ := b5 bs s5 s6 s9 s51 s52; have s11 := gv hv 1 rfl rfl; refine wt hK14 ?_; refine sq fun hK15 => ?_
   refine ro [yV _, yV _, yV (.tuple #[aggV (val16 fn gl), .int .i64 0]), yV _, yV (aggV (val16 fn gl)), yV _, yNew fw.heap.size (.cells #[.int .u8 0, .int .i64 0, .string ⟨[].toArray⟩] 25 (0, 0))] 7 109 z q ow (
     mvS s11 rfl rfl rfl rfl <|
     mvS s5 rfl rfl rfl rfl <|
     aC (fun hk bs hd => xcall2 rfl (dp hd 0 rfl) (dp hd 1 rfl) (en_agg_Call _ _)) (fun hk bs hd => acall_eq (val16 fn gl) 0 fn A1 p1 gl _ mx (hm1.kept (ow.keep hk).kept) (hr1.kept (ow.keep hk).kept) hfit hp1 hx1) rfl <|
     mvD 2 rfl rfl rfl rfl rfl rfl <|
     aS (fun hk bs hd => xextract rfl (dp hd 3 rfl) rfl) rfl <|
     aS (fun hk bs hd => xextract rfl (dp hd 3 rfl) rfl) rfl <|
     aP (fun hk bs hd => xalloc rfl (by kernel_rfl)) rfl <|
     arm0) fun fa fw bs hv ap z q ov => ?_
   obtain ⟨s5, s6, s9, s51, s52, s11⟩ := b6 bs s5 s6 s9 s51 s52 s11; have s59 := gv hv 4 rfl rfl; have s60 := gv hv 5 rfl rfl; obtain ⟨gb2, s12, bgb2, hgb2⟩ := gotP hv 6 rfl rfl rfl; have ov := ov.cons hgb2 (Nat.le_trans ow.kept.size bgb2) (ow.below bgb2); have ow := ov; refine ws ow 0 0 s12 s59 fun fw ow => ?_; refine wl_value (v := .int .i64 0) (want0 rfl) (xassign rfl s60) ?_; refine gp7 z q ow s5 s6 s9 s51 s52 s11 s12 fun fa fw z q ow s5 s6 s9 s51 s52 s11 s12 s13 => ?_; refine wt hK15 ?_; refine sq fun hK16 => ?_
   refine ro [yV _, yV _, yV (.tuple #[aggV (val16 fn (gl.drop t ++ gl.take t)), .int .i64 0]), yV _, yV (aggV (val16 fn (gl.drop t ++ gl.take t))), yV _, yNew fw.heap.size (.cells #[.int .u8 0, .int .i64 0, .string ⟨[].toArray⟩] 25 (0, 0))] 7 109 z q ow (
     mvS s11 rfl rfl rfl rfl <|
     mvS s6 rfl rfl rfl rfl <|
     aC (fun hk bs hd => xcall2 rfl (dp hd 0 rfl) (dp hd 1 rfl) (en_agg_Call _ _)) (fun hk bs hd => acall_turned (val16 fn (gl.drop t ++ gl.take t)) fn (TL := (LQ.drop t ++ LQ.take t)) (by rw [List.map_append, List.map_drop, List.map_take, hLQ]) hTL _ mx (hm1.kept (ow.keep hk).kept) ((ow.keep hk).thing 2 rfl) (fun p hp => (hCQ p (mem_turn hp)).kept (ow.keep hk).kept) hfit2 hx2) rfl <|
     mvD 2 rfl rfl rfl rfl rfl rfl <|
     aS (fun hk bs hd => xextract rfl (dp hd 3 rfl) rfl) rfl <|
     aS (fun hk bs hd => xextract rfl (dp hd 3 rfl) rfl) rfl <|
     aP (fun hk bs hd => xalloc rfl (by kernel_rfl)) rfl <|
     arm0) fun fa fw bs hv ap z q ov => ?_
   obtain ⟨s5, s6, s9, s51, s52, s11, s12, s13⟩ := b8 bs s5 s6 s9 s51 s52 s11 s12 s13; have s65 := gv hv 4 rfl rfl; have s66 := gv hv 5 rfl rfl; obtain ⟨gb3, s14, bgb3, hgb3⟩ := gotP hv 6 rfl rfl rfl; have ov := ov.cons hgb3 (Nat.le_trans ow.kept.size bgb3) (ow.below bgb3); have ow := ov; refine ws ow 0 0 s14 s65 fun fw ow => ?_; refine wl_value (v := .int .i64 0) (want0 rfl) (xassign rfl s66) ?_; refine gp9 z q ow s5 s6 s9 s51 s52 s11 s12 s13 s14 fun fa fw z q ow s5 s6 s9 s51 s52 s11 s12 s13 s14 s15 => ?_; refine wt hK16 ?_; refine sq fun hK17 => ?_; refine sq fun hK18 => ?_
   refine ro [yV _, yV (.bool false), yV _, yV _, yV (.bool false), yV _, yV _, yV (aggV (val16 fn gl)), yV (.int .i64 0), yV (.bool false), yV _, yV _, yV (aggV (val16 fn (gl.drop t ++ gl.take t))), yV (.int .i64 0), yV (.bool false), yV _] 16 109 z q ow (
     mvS s13 rfl rfl rfl rfl <|
     aE (fun hk bs hd => xnei rfl (dp hd 0 rfl) rfl) (congrArg Value.bool rfl) rfl <|
     mvD 1 rfl rfl rfl rfl rfl rfl <|
     armS (wg (j := 2) (b := false) rfl rfl rfl) (fun aa ww hk bs hd => xmove rfl (bg bs s15)) rfl <|
     armE (wg (j := 2) (b := false) rfl rfl rfl) (fun aa ww hk bs hd => xnei rfl (dp hd 3 rfl) rfl) (congrArg Value.bool rfl) rfl <|
     aS (fun hk bs hd => xpickF rfl (dp hd 2 rfl) (dp hd 4 rfl)) rfl <|
     mvD 5 rfl rfl rfl rfl rfl rfl <|
     armS (wg (j := 6) (b := false) rfl rfl rfl) (fun aa ww hk bs hd => xloadN 3 rfl (by kernel_rfl) (by kernel_rfl) (bg bs s12) ((ow.keep hk).box 1 rfl) (Nat.le_of_ble_eq_true rfl) rfl) rfl <|
     armC (wg (j := 6) (b := false) rfl rfl rfl) (fun aa ww hk bs hd => xcall1 rfl (dp hd 7 rfl) (en_val_Check _ _)) (fun aa ww hk bs hd => check16_any (val16 fn gl) ww hv1.1 hv1.2) rfl <|
     armE (wg (j := 6) (b := false) rfl rfl rfl) (fun aa ww hk bs hd => xnei rfl (dp hd 8 rfl) rfl) (congrArg Value.bool rfl) rfl <|
     aS (fun hk bs hd => xpickF rfl (dp hd 6 rfl) (dp hd 9 rfl)) rfl <|
     mvD 10 rfl rfl rfl rfl rfl rfl <|
     armS (wg (j := 11) (b := false) rfl rfl rfl) (fun aa ww hk bs hd => xloadN 3 rfl (by kernel_rfl) (by kernel_rfl) (bg bs s14) ((ow.keep hk).box 0 rfl) (Nat.le_of_ble_eq_true rfl) rfl) rfl <|
     armC (wg (j := 11) (b := false) rfl rfl rfl) (fun aa ww hk bs hd => xcall1 rfl (dp hd 12 rfl) (en_val_Check _ _)) (fun aa ww hk bs hd => check16_any (val16 fn (gl.drop t ++ gl.take t)) ww hv2.1 hv2.2) rfl <|
     armE (wg (j := 11) (b := false) rfl rfl rfl) (fun aa ww hk bs hd => xnei rfl (dp hd 13 rfl) rfl) (congrArg Value.bool rfl) rfl <|
     aS (fun hk bs hd => xpickF rfl (dp hd 11 rfl) (dp hd 14 rfl)) rfl <|
     arm0) fun fa fw bs hv ap z q ow => ?_
   obtain ⟨s5, s6, s9, s51, s52, s11, s12, s14⟩ := b8 bs s5 s6 s9 s51 s52 s11 s12 s14; have s82 := gv hv 15 rfl rfl; refine wt hK18 ?_; refine wp_cond_false (s82) ?_; refine wp_skip ?_; refine tn hK17 ?_; refine sq fun hK19 => ?_
   refine ro [yV (aggV (val16 fn gl)), yV (aggV (val16 fn (gl.drop t ++ gl.take t))), yV _, yV _, yIf _ (yV _), yIf _ (yV _), yIf _ (yV _), yIf _ (yV _), yIf _ (yV _), yIf _ (yV _), yIf _ (yV _), yIf _ (yV _), yIf _ (yV _), yIf _ (yV _), yIf _ (yV (.pointer (some ⟨gb2, 0, none⟩))), yIf _ (yV _), yIf _ (yV _), yIf _ (yV _), yIf _ (yV _), yIf _ (yV (.pointer (some ⟨gb3, 0, none⟩))), yIf _ (yV _), yIf _ (yV _), yIf _ (yV _), yV _] 24 109 z q ow (
     aS (fun hk bs hd => xloadN 3 rfl (by kernel_rfl) (by kernel_rfl) (bg bs s12) ((ow.keep hk).box 1 rfl) (Nat.le_of_ble_eq_true rfl) rfl) rfl <|
     aS (fun hk bs hd => xloadN 3 rfl (by kernel_rfl) (by kernel_rfl) (bg bs s14) ((ow.keep hk).box 0 rfl) (Nat.le_of_ble_eq_true rfl) rfl) rfl <|
     aS (fun hk bs hd => xnev rfl (dp hd 0 rfl) (dp hd 1 rfl)) rfl <|
     mvD 2 rfl rfl rfl rfl rfl rfl <|
     ai (g1 3 rfl rfl) (fun hk bs hd hz => xmove rfl (bg bs s9)) rfl <|
     ai (g1 3 rfl rfl) (fun hk bs hd hz => xmove rfl (di hd 4 rfl hz)) rfl <|
     ai (g2 5 rfl rfl) (fun hk bs hd hz => xmove rfl (bg bs s11)) rfl <|
     ai (g2 5 rfl rfl) (fun hk bs hd hz => xeqi rfl (di hd 6 rfl hz) rfl) rfl <|
     ai (g1 3 rfl rfl) (fun hk bs hd hz => xor_ rfl (di hd 5 rfl hz) rfl (fun hb => di hd 7 rfl ⟨hz, hb⟩)) rfl <|
     ai (g1 3 rfl rfl) (fun hk bs hd hz => xmove rfl (di hd 8 rfl hz)) rfl <|
     ai (g2 9 rfl rfl) (fun hk bs hd hz => xmove rfl (bg bs s11)) rfl <|
     ai (g2 9 rfl rfl) (fun hk bs hd hz => xeqi rfl (di hd 10 rfl hz) rfl) rfl <|
     ai (g1 3 rfl rfl) (fun hk bs hd hz => xor_ rfl (di hd 9 rfl hz) rfl (fun hb => di hd 11 rfl ⟨hz, hb⟩)) rfl <|
     ai (g1 3 rfl rfl) (fun hk bs hd hz => xmove rfl (di hd 12 rfl hz)) rfl <|
     ai (g2 13 rfl rfl) (fun hk bs hd hz => xfieldAddr rfl (bg bs s12) (by kernel_rfl)) rfl <|
     ai (g2 13 rfl rfl) (fun hk bs hd hz => xloadB rfl (by kernel_rfl) (di hd 14 rfl hz) ((ow.keep hk).box 1 rfl) rfl) rfl <|
     ai (g2 13 rfl rfl) (fun hk bs hd hz => xnei rfl (di hd 15 rfl hz) rfl) rfl <|
     ai (g1 3 rfl rfl) (fun hk bs hd hz => xor_ rfl (di hd 13 rfl hz) rfl (fun hb => di hd 16 rfl ⟨hz, hb⟩)) rfl <|
     ai (g1 3 rfl rfl) (fun hk bs hd hz => xmove rfl (di hd 17 rfl hz)) rfl <|
     ai (g2 18 rfl rfl) (fun hk bs hd hz => xfieldAddr rfl (bg bs s14) (by kernel_rfl)) rfl <|
     ai (g2 18 rfl rfl) (fun hk bs hd hz => xloadB rfl (by kernel_rfl) (di hd 19 rfl hz) ((ow.keep hk).box 0 rfl) rfl) rfl <|
     ai (g2 18 rfl rfl) (fun hk bs hd hz => xnei rfl (di hd 20 rfl hz) rfl) rfl <|
     ai (g1 3 rfl rfl) (fun hk bs hd hz => xor_ rfl (di hd 18 rfl hz) rfl (fun hb => di hd 21 rfl ⟨hz, hb⟩)) rfl <|
     aS (fun hk bs hd => xand rfl (dp hd 3 rfl) (fun hb => di hd 22 rfl hb) rfl) rfl <|
     arm0) fun fa fw bs hv ap z q ow => ?_
   obtain ⟨s5, s6, s9, s51, s52⟩ := b5 bs s5 s6 s9 s51 s52; have s106 := gv hv 23 rfl rfl; refine wt hK19 ?_
   by_cases hc3 : (¬ ((sameV (val16 fn gl) (val16 fn (gl.drop t ++ gl.take t))) = true)) ∧ (((((bv9 = true) ∨ ((fn : Int) = (11 : Int))) ∨ ((fn : Int) = (12 : Int))) ∨ (((val16 fn gl).k : Int) ≠ (4 : Int))) ∨ (((val16 fn (gl.drop t ++ gl.take t)).k : Int) ≠ (4 : Int)))
   ·refine ct s106 ((band (bnot (Iff.rfl)) (bor (bor (bor (bor (Iff.rfl) (decide_eq_true_iff)) (decide_eq_true_iff)) (decide_eq_true_iff)) (decide_eq_true_iff))).2 hc3) ?_
    refine sq fun hK20 => ?_; exact absurd hc3 (order_no hf (turn_perm gl t) hb9)
   refine cf s106 (band (bnot (Iff.rfl)) (bor (bor (bor (bor (Iff.rfl) (decide_eq_true_iff)) (decide_eq_true_iff)) (decide_eq_true_iff)) (decide_eq_true_iff))) hc3 ?_; refine wp_skip ?_; refine block_n ?_; refine tn hK13 ?_
   refine ro [yV (.int .i64 ((k + 1 : Nat) : Int))] 1 109 z q ow (
     aS (fun hk bs hd => xadd (Or.inl rfl) rfl (bg bs s52) rfl (by omega) (by omega)) rfl <|
     arm0) fun fa fw bs hv ap z q ow => ?_
   obtain ⟨s5, s6, s9, s51, s52⟩ := b5 bs s5 s6 s9 s51 s52; have s107 := gv hv 0 rfl rfl; refine wl_value (v := .int .i64 ((k + 1 : Nat) : Int)) (want0 rfl) (xmove rfl s107) ?_; refine gp4 z q ow s5 s6 s9 s51 fun fa fw z q ow s5 s6 s9 s51 s52 => ?_; refine wl_end ?_; exact then_n ⟨(k + 1), ⟨hltk, z, q, ow.tail.tail, s5, s6, s9, s51, s52⟩, (show 7 - (k + 1) < 7 - k by omega)⟩
  refine cf s53 (decide_eq_true_iff) hc2 ?_; refine wp_exit ?_; refine then_e ?_; refine then_e ?_; refine block_hit ?_; refine tn hK9 ?_; refine sq fun hK21 => ?_
  refine ro [yV (.bool true), yV _] 2 109 z q ow (
    aC (fun hk bs hd => xcall0 rfl (en_louvrelaw16_awake _ _)) (fun hk bs hd => awake16_any _ mx (hm1.kept (ow.keep hk).kept)) rfl <|
    asD 0 rfl rfl rfl rfl rfl rfl <|
    arm0) fun fa fw bs hv ap z q ow => ?_
  have s4 := gv hv 1 rfl rfl; refine wt hK21 ?_; refine wp_ret ?_; refine results_one rfl (res_tmp s4) q ?_; exact ⟨rfl, o0.kept.trans ow.kept⟩
end Go.Proofs.YtbkjdcpfkepheaaGreatDoor
