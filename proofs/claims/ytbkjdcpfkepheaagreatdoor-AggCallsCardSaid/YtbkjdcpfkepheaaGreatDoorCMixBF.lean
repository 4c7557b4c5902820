/- Small texts together: GRef16b, MAgg12, MAgg13, GRef16c, SX14, GSorted, GRef16d, WRef3. -/
import Derived.Test.YtbkjdcpfkepheaaGreatDoorCGRef16
import Derived.Test.YtbkjdcpfkepheaaGreatDoorCMixBD
import Derived.StillTailTactics
set_option linter.unusedVariables false
set_option linter.unusedSimpArgs false
set_option maxHeartbeats 4000000
namespace Go.Proofs.YtbkjdcpfkepheaaGreatDoor
section
open Go.RowKit Lv
set_option maxRecDepth 100000
theorem rt {fn : Nat} {l : List Ar} {k : Nat} {a : Ar} {n : Int} (ha : l[k]? = some a) (hf : (fn : Int) = (13 : Int)) (hn : n = bS fn (l.take k)) : n + aJ (ai a).1 - ((((ai a).2.length : Nat)) : Int) = bS fn (l.take (k + 1)) := by
  have h13 : fn = 13 := by omega
  have h := mF (m := n) ha hf hn (by subst h13; rw [Ag]; simp)
  omega
theorem AJ {fn : Nat} {c : Cl} (h13 : ¬ ((fn : Int) = (13 : Int))) (h : ((fn : Int) = (12 : Int)) ∨ ((c.v.k : Int) = (1 : Int))) : mE fn c = true := uU (h.imp id fun h => ⟨h13, h⟩)
theorem CP {fn : Nat} {c : Cl} (h : ¬ (((fn : Int) = (12 : Int)) ∨ ((c.v.k : Int) = (1 : Int)))) : mE fn c = false := Af (fun c => h (c.imp id fun h => h.2))
theorem CQ {a : Ar} {v : Vl} {x : Rc} {la : List Cl} {n : Int} (e : ai a = (x, la)) (h : ¬ ((v.k : Int) = (4 : Int))) (hb : aX aj v = true) (hn : n = 0 + ((la.filter fun c => aX c.v v).length : Int)) : ay ((n + aJ x - ((la.length : Nat) : Int)) * 10000) = cM a v := by
  rw [← td e h]; unfold we; rw [if_pos hb, hn]
  congr 2
  omega
theorem FJ {a : Ar} {v : Vl} {x : Rc} {la : List Cl} {n : Int} (e : ai a = (x, la)) (h : ¬ ((v.k : Int) = (4 : Int))) (hb : aX aj v = false) (hn : n = 0 + ((la.filter fun c => aX c.v v).length : Int)) : ay (n * 10000) = cM a v := by
  rw [← td e h]; unfold we; rw [if_neg (by rw [hb]; decide), hn]
theorem ci : En 71 := by intro args w; go_simp
theorem mM (a : Ar) (A1 : Option Addr) (c1 : Nat) (w : World) (hc : a.l.length ≤ c1) :
    Calls Tryz.prog 71 #[aA a (.slice A1 a.l.length c1)] w fun e w' => fx a A1 w e w' := by
  go_enter Tryz.func71, Tryz.ntmps71; refine z00 21 [(0, aA a (.slice A1 a.l.length c1))] ?_; intro _ s; refine zr s 2 (zV (zB Z0 (.cells #[.bool a.w, .int .u8 a.v.k, .int .i64 a.v.n, .string ⟨a.v.t.toArray⟩, .int .i64 a.x.c1, .int .i64 a.x.r1, .int .i64 a.x.c2, .int .i64 a.x.r2, .slice A1 a.l.length c1] 39 (0, 0))) (.cells #[.int .i64 0, .int .i64 0, .int .i64 0, .int .i64 0, .slice none 0 0] 37 (0, 0))) ?_; intro gb1 gb2 _ _ s; refine sq fun hK1 => ?_; refine zr s 2 (zL (zF Z0 0) 1) ?_; intro _ _ s; refine zb s (Iff.rfl) ?_ ?_
  ·intro hc1
   have hw := hc1; refine zt_ s 2 (zA (zF Z0 4) (.agg #[.int .i64 a.x.c1, .int .i64 a.x.r1, .int .i64 a.x.c2, .int .i64 a.x.r2, .slice A1 a.l.length c1]) 5 1) ?_; intro _ _ s K2 hK2; refine zS s 0 ?_; intro _ s; refine wt hK2 ?_; refine wp_ret ?_; refine ag ?_; refine ac (v := .agg #[.int .i64 a.x.c1, .int .i64 a.x.r1, .int .i64 a.x.c2, .int .i64 a.x.r2, .slice A1 a.l.length c1]) rfl (.cons (rC s 5 0) .nil) rfl s.q ?_; exact qz s.o rfl hw hc
  intro hc1; have hw := Bool.eq_false_iff.2 hc1; refine wp_skip ?_; refine tn hK1 ?_; refine zt_ s 3 (zV (zO (zO Z0 (v := .agg #[.int .i64 1, .int .i64 1, .int .i64 1, .int .i64 1]) fun cc => xb4 rfl rfl rfl rfl rfl (by kernel_rfl)) (v := .agg #[.int .i64 1, .int .i64 1, .int .i64 1, .int .i64 1, .slice none 0 0]) fun cc => xb1 rfl cc.e (by kernel_rfl)) (.cells #[.int .i64 0, .int .i64 0, .int .i64 0, .int .i64 0, .slice none 0 0] 37 (0, 0))) ?_; intro gb3 _ _ s K3 hK3; refine zS s 0 ?_; intro _ s; refine wt hK3 ?_; refine sq fun hK4 => ?_; refine zr s 4 (zP (zL (zF (zF Z0 1) 1) 2)) ?_; intro _ _ s; refine zi_ s ?_ ?_
  ·intro hc2
   have hk0 := hc2; refine zu s 6 (by exact zF (zNl (zO (zA (zF (zO Z0 (v := .agg #[.int .i64 1, .int .i64 1]) fun cc => xb2 rfl rfl rfl (by kernel_rfl)) 1) (ae a.v) 3 2) (v := .agg #[.int .i64 1, .int .i64 1, .int .u8 a.v.k, .int .i64 a.v.n, .string ⟨a.v.t.toArray⟩]) fun cc => xb2 rfl cc.e cc.e (by kernel_rfl)) (b := .cells #[.int .i64 1, .int .i64 1, .int .u8 a.v.k, .int .i64 a.v.n, .string ⟨a.v.t.toArray⟩] 46 (0, 0)) (m := 1) fun cc => qs rfl cc.e (by kernel_rfl)) 4) ?_; intro gb4 _ _ s; refine zS s 1 ?_; intro _ s; refine wt hK4 ?_; refine zt_ s 1 (zA Z0 (.agg #[.int .i64 1, .int .i64 1, .int .i64 1, .int .i64 1, .slice (some ⟨gb4, 0, none⟩) 1 1]) 5 1) ?_; intro _ _ s K5 hK5; refine zS s 2 ?_; intro _ s; refine wt hK5 ?_; refine wp_ret ?_; refine ac (v := .agg #[.int .i64 1, .int .i64 1, .int .i64 1, .int .i64 1, .slice (some ⟨gb4, 0, none⟩) 1 1]) rfl (.cons (rC s 5 2) .nil) rfl s.q ?_; exact ut s.o rfl hw hk0 (s.o.only 0 rfl)
  intro hc2; have hk0 := hc2; refine wp_skip ?_; refine tn hK4 ?_; refine zt_ s 1 (zA Z0 (.agg #[.int .i64 1, .int .i64 1, .int .i64 1, .int .i64 1, .slice none 0 0]) 5 0) ?_; intro _ _ s K6 hK6; refine zS s 1 ?_; intro _ s; refine wt hK6 ?_; refine wp_ret ?_; refine ac (v := .agg #[.int .i64 1, .int .i64 1, .int .i64 1, .int .i64 1, .slice none 0 0]) rfl (.cons (rC s 5 1) .nil) rfl s.q ?_; exact qA s.o rfl hw hk0
theorem px {a : Ar} {x : Rc} {la : List Cl} (e : ai a = (x, la)) (A1 : Option Addr) (c1 : Nat) (w : World) (hc : a.l.length ≤ c1) : Calls Tryz.prog 71 #[aA a (.slice A1 a.l.length c1)] w fun e w' => GW x la a.l A1 w e w' := by
  refine (mM a A1 c1 w hc).mono fun z w' h => ?_; unfold fx at h; rw [e] at h; exact h
theorem ru (x : Rc) (l : List Cl) (A : Option Addr) (cap : Nat) (c r : Int) (w : World) (hr : RowK 5 clV w A l) (hl : l.length ≤ 1000000) :
    Calls Tryz.prog 111 #[.agg #[.int .i64 x.c1, .int .i64 x.r1, .int .i64 x.c2, .int .i64 x.r2, .slice A l.length cap], .agg #[.int .i64 c, .int .i64 r]] w fun e w' => e = .returned (ae (rL l c r)) ∧ Kept w w' := by
  go_enter Tryz.func111, Tryz.ntmps111; refine z00 28 [(0, .agg #[.int .i64 x.c1, .int .i64 x.r1, .int .i64 x.c2, .int .i64 x.r2, .slice A l.length cap]), (1, .agg #[.int .i64 c, .int .i64 r])] ?_; intro _ s; refine zr s 3 (zV (zB (zB Z0 (.cells #[.int .i64 x.c1, .int .i64 x.r1, .int .i64 x.c2, .int .i64 x.r2, .slice A l.length cap] 37 (0, 0))) (.cells #[.int .i64 c, .int .i64 r] 44 (0, 0))) oZ) ?_; intro gb1 gb2 gb3 _ _ s; refine sq fun hK1 => ?_; refine zr s 1 (zP Z0) ?_; intro _ _ s; refine wp_block ?_; refine aP (fun (k : Nat) fr u => (k ≤ l.length) ∧ (∀ j, j < k → ∀ q, l[j]? = some q → ¬ (q.c = c ∧ q.r = r)) ∧ Sg 28 w [Th.obj gb3 oZ, Th.obj gb2 (.cells #[.int .i64 c, .int .i64 r] 44 (0, 0)), Th.obj gb1 (.cells #[.int .i64 x.c1, .int .i64 x.r1, .int .i64 x.c2, .int .i64 x.r2, .slice A l.length cap] 37 (0, 0))] [(2, .pointer (some ⟨gb1, 0, none⟩)), (3, .pointer (some ⟨gb2, 0, none⟩)), (4, .pointer (some ⟨gb3, 0, none⟩)), (5, .int .i64 (k : Int))] fr u) (fun k => l.length - k) 0 ⟨(Nat.zero_le _), (fun j hj => absurd hj (Nat.not_lt_zero j)), s.c⟩ (fun k b_ u_ hI => ?_)
  revert b_ u_; intro _ _ hI
  obtain ⟨hk0, hno, s⟩ := hI; refine sq fun hK2 => ?_; refine zr s 5 (zP (zN (zL (zF (zP Z0) 4) 2))) ?_; intro _ _ s; refine zi_ s ?_ ?_
  ·intro hc1
   refine wp_skip ?_; refine tn hK2 ?_; refine sq fun hK3 => ?_; refine wp_block ?_; have hltk : k < l.length := by omega
   obtain ⟨cl, hcl⟩ := bI hltk; obtain ⟨bcl, ocl, Acl, ecl⟩ := hr.elem hcl; refine zr s 8 (zO (zA (zO (zF (zO (zP (zL (zF Z0 4) 2)) fun cc => al 5 Tryz.underlying35 (by kernel_rfl) rfl Acl cc.e cc.e hltk) (ocl + k * 5)) (v := .agg #[.int .i64 cl.c, .int .i64 cl.r]) fun cc => bf (n := 2) 0 rfl (by kernel_rfl) (by kernel_rfl) cc.e rfl (ecl.kept cc.ow.kept)) (.agg #[.int .i64 c, .int .i64 r]) 2 1) fun cc => DD rfl cc.e cc.e) ?_; intro _ _ s; refine zi_ s ?_ ?_
   ·intro hc2
    have hyes := hc2; refine zt_ s 6 (zO (zF (zO (zP (zL (zF Z0 4) 2)) fun cc => al 5 Tryz.underlying35 (by kernel_rfl) rfl Acl cc.e cc.e hltk) (ocl + k * 5 + 2)) (v := ae cl.v) fun cc => bf (n := 3) 2 rfl (by kernel_rfl) (by kernel_rfl) cc.e rfl (ecl.kept cc.ow.kept)) ?_; intro _ _ s K4 hK4; refine zS s 0 ?_; intro _ s; refine wt hK4 ?_; refine wp_ret ?_; refine ao (ag (ag (ao (ag ?_)))); refine ac (v := ae cl.v) rfl (.cons (rC s 3 0) .nil) rfl s.q ?_; exact ⟨congrArg (fun v => Ending.returned (ae v)) ((uq hcl hno hyes).symm), s.o.kept⟩
   intro hc2; have hne := hc2; refine wp_skip ?_; refine aB ?_; refine tn hK3 ?_; refine zu s 2 (by exact zAn (zP Z0) k 1) ?_; intro _ _ s; refine zw s ?_; intro _ _ s; refine aN ?_; exact bg ⟨(k + 1), ⟨hltk, (sI hno hcl hne), s.c⟩, (show l.length - (k + 1) < l.length - k by omega)⟩
  intro hc1; refine wp_exit ?_; refine aM ?_; refine aM ?_; refine aD ?_; refine tn hK1 ?_; refine zt_ s 1 (zO Z0 (v := ae (⟨0, 0, []⟩ : Vl)) fun cc => cG (us := #[]) rfl (by simp) (by kernel_rfl)) ?_; intro _ _ s K5 hK5; refine zS s 0 ?_; intro _ s; refine wt hK5 ?_; refine wp_ret ?_; refine ac (v := ae (⟨0, 0, []⟩ : Vl)) rfl (.cons (rC s 3 0) .nil) rfl s.q ?_; exact ⟨congrArg (fun v => Ending.returned (ae v)) ((yQ (fun j hj => hno j (by omega))).symm), s.o.kept⟩
theorem dt (n : Int) (b : Bool) (c : Int) (w : World) (hn : b = true → i64 n) :
    Calls Tryz.prog 115 #[.int .i64 n, .bool b, .int .i64 c] w fun e w' => e = .returned (ae (if b then ay n else aG c)) ∧ Kept w w' := by
  go_enter Tryz.func115, Tryz.ntmps115; refine z00 13 [(0, .int .i64 n), (1, .bool b), (2, .int .i64 c)] ?_; intro _ s; refine zr s 1 (zV Z0 oZ) ?_; intro gb1 _ _ s; refine sq fun hK1 => ?_; refine zr s 2 (zP (zP Z0)) ?_; intro _ _ s; refine zb s (jc (Iff.rfl)) ?_ ?_
  ·intro hc1
   have hb : b = false := by simpa using hc1
   refine zt_ s 2 (zC (zP Z0) fun cc => cC c _) ?_; intro _ _ s K2 hK2; refine zS s 0 ?_; intro _ s; refine wt hK2 ?_; refine wp_ret ?_; refine ag ?_; refine ac (v := ae (aG c)) rfl (.cons (rC s 3 0) .nil) rfl s.q ?_; exact ⟨congrArg (fun v => Ending.returned (ae v)) (by rw [hb]; rfl), s.o.kept⟩
  intro hc1; have hb : b = true := by simpa using hc1
  refine wp_skip ?_; refine tn hK1 ?_; refine zt_ s 2 (zC (zP Z0) fun cc => cm n _ (hn hb).1 (hn hb).2) ?_; intro _ _ s K3 hK3; refine zS s 0 ?_; intro _ s; refine wt hK3 ?_; refine wp_ret ?_; refine ac (v := ae (ay n)) rfl (.cons (rC s 3 0) .nil) rfl s.q ?_; exact ⟨congrArg (fun v => Ending.returned (ae v)) (by rw [hb]; rfl), s.o.kept⟩
theorem fp (fn : Nat) (A : Option Addr) (cap : Nat) (l : List Ar) (w : World) (hr : ArgsAt w A l) (hl : ∀ a ∈ l, a.l.length ≤ 1000000) (hc : l.length ≤ 1000) :
    Calls Tryz.prog 37 #[.int .u8 fn, .slice A l.length cap] w fun e w' => e = .returned (ae (ay (bS fn l * 10000))) ∧ Kept w w' := by
  go_enter Tryz.func37, Tryz.ntmps37; refine z00 61 [(0, .int .u8 (fn : Int)), (1, .slice A l.length cap)] ?_; intro _ s; refine zr s 1 (zV Z0 oZ) ?_; intro gb1 _ fw s; refine zr s 1 (zP Z0) ?_; intro _ fw s; refine sq fun hK1 => ?_; refine zr s 1 (zP Z0) ?_; intro _ fw s; refine wp_block ?_; refine aP (fun (k : Nat) fr u => ∃ (n : Int), (k ≤ l.length) ∧ (n = bS fn (l.take k)) ∧ (-1000000 * (k : Int) ≤ n ∧ n ≤ 1048576 * (k : Int)) ∧ Sg 61 w [Th.obj gb1 oZ] [(0, .int .u8 (fn : Int)), (1, .slice A l.length cap), (4, .pointer (some ⟨gb1, 0, none⟩)), (5, .int .i64 n), (6, .int .i64 (k : Int))] fr u) (fun k => l.length - k) 0 ⟨0, (Nat.zero_le _), rfl, ⟨by omega, by omega⟩, s.c⟩ (fun k b_ u_ hI => ?_)
  revert b_ u_; intro fa fw hI
  obtain ⟨n, hk0, hn, hnb, s⟩ := hI; refine sq fun hK2 => ?_; refine zr s 4 (zP (zN (zP (zP Z0)))) ?_; intro _ fw s; refine zi_ s ?_ ?_
  ·intro hc1
   refine wp_skip ?_; refine tn hK2 ?_; refine sq fun hK3 => ?_; refine wp_block ?_; have hltk : k < l.length := by omega
   obtain ⟨a, ha⟩ := bI hltk; obtain ⟨ba, oa, A1, c1, Aa, ea, r1, l1⟩ := hr.elem ha; have la := gg a (hl a (List.mem_of_getElem? ha)); refine zt_ s 4 (zO (zO (zP (zP Z0)) fun cc => al 9 Tryz.underlying22 (by kernel_rfl) rfl Aa cc.e cc.e hltk) (v := aA a (.slice A1 a.l.length c1)) fun cc => bf (n := 9) 0 rfl (by kernel_rfl) (by kernel_rfl) cc.e rfl (ea.kept cc.ow.kept)) ?_; intro _ fw s K4 hK4; refine aU (aC rfl) (bZ (u := aA a (.slice A1 a.l.length c1)) rfl (s.g 20) (ci _ _)) ((mM a _ _ _ l1).mono ?_); rintro _ fw ⟨T, A2, c2, rfl, hT, hc2, hR⟩; refine ⟨_, rfl, ?_⟩; rcases hT with hT
   have ow := Own.both s.o hT; have ow : Own w ((Th.obj gb1 oZ) :: T) fw := ow; refine zg (s.ow ow) ?_; intro _ fw s; refine ct s.o (aC rfl) (dv (b := .cells #[.int .i64 0, .int .i64 0, .int .i64 0, .int .i64 0, .slice none 0 0] 37 (0, 0)) rfl (by kernel_rfl)) fun gb2 fw ow => ?_; refine zg (s.ow ow) ?_; intro _ fw s; refine zS s 0 ?_; intro fw s; refine wt hK4 ?_; refine sq fun hK5 => ?_; refine zr s 2 (zP (zP Z0)) ?_; intro _ fw s; refine zi_ s ?_ ?_
   ·intro hc2
    have hfn := hc2; have sz := iV (x := (ai a).1); refine zr s 8 (zP (zP (zP (zP (zP (zC (zA (zF Z0 0) (.agg #[.int .i64 (((ai a).1).c1), .int .i64 (((ai a).1).r1), .int .i64 (((ai a).1).c2), .int .i64 (((ai a).1).r2)]) 4 0) fun cc => kr ((ai a).1) _)))))) ?_; intro _ fw s; refine zt_ s 7 (zSb (zN (zL (zF (zAd (zP (zP Z0))) 4) 0))) ?_; intro _ fw s K6 hK6; refine zw s ?_; intro _ fw s; refine wt hK6 ?_; refine wp_exit ?_; refine aM ?_; refine aD ?_; refine tn hK3 ?_; refine zu s 2 (by exact zAn (zP Z0) k 1) ?_; intro _ fw s; refine zw s ?_; intro _ fw s; refine aN ?_; exact bg ⟨(k + 1), ⟨((n + (aJ ((ai a).1))) - (((ai a).2.length : Nat) : Int)), hltk, (rt ha hfn hn), (by constructor <;> omega), (s.ow ((s.o.take 2).tail)).c⟩, (show l.length - (k + 1) < l.length - k by omega)⟩
   intro hc2; have hfn := hc2; refine wp_skip ?_; refine tn hK5 ?_; refine zr s 1 (zP Z0) ?_; intro _ fw s; refine wp_block ?_; refine aP (fun (j : Nat) fr u => ∃ (m : Int), (j ≤ (ai a).2.length) ∧ (m = n + ((((ai a).2.take j).filter (mE fn)).length : Int)) ∧ Sg 61 w ((Th.obj gb2 (.cells #[.int .i64 (((ai a).1).c1), .int .i64 (((ai a).1).r1), .int .i64 (((ai a).1).c2), .int .i64 (((ai a).1).r2), .slice A2 ((ai a).2.length) c2] 37 (0, 0))) :: (Th.obj gb1 oZ) :: T) [(0, .int .u8 (fn : Int)), (1, .slice A l.length cap), (4, .pointer (some ⟨gb1, 0, none⟩)), (5, .int .i64 m), (6, .int .i64 (k : Int)), (7, .pointer (some ⟨gb2, 0, none⟩)), (10, .int .i64 (j : Int))] fr u) (fun j => (ai a).2.length - j) 0 ⟨n, (Nat.zero_le _), (by simp), s.c⟩ (fun j b_ u_ hI => ?_)
   revert b_ u_; intro fa fw hI
   obtain ⟨m, hj0, hm, s⟩ := hI; refine sq fun hK7 => ?_; refine zr s 5 (zP (zN (zL (zF (zP Z0) 4) 0))) ?_; intro _ fw s; refine zi_ s ?_ ?_
   ·intro hc3
    refine wp_skip ?_; refine tn hK7 ?_; refine sq fun hK8 => ?_; refine wp_block ?_; have hr2 := hR _ _ (r1.kept s.o.kept) s.o.tail.tail; have hltj : j < (ai a).2.length := by omega
    obtain ⟨cl, hcl⟩ := bI hltj; obtain ⟨bcl, ocl, Acl, ecl⟩ := hr2.elem hcl; refine zr s 12 (zO (zPi (zI (zFi (zFi (zI (zPi (zLi (zFi (zP (zP (zP Z0))) 4) 0)) (v := .pointer (some ⟨bcl, ocl + j * 5, none⟩)) (run := by exact fun cc hz => al 5 Tryz.underlying35 (by kernel_rfl) rfl Acl (cc.f hz) (cc.f hz) hltj)) (ocl + j * 5 + 2)) (ocl + j * 5 + 2)) (v := .int .u8 cl.v.k) (run := by exact fun cc hz => dS 2 rfl (by kernel_rfl) (cc.f hz) rfl (ecl.kept cc.k) rfl))) fun cc => gA rfl cc.e rfl (fun hb => cc.f hb)) ?_; intro _ fw s; refine zb s (bor (decide_eq_true_iff) (decide_eq_true_iff)) ?_ ?_
    ·intro hc4
     have hcp : mE fn cl = true := AJ hfn hc4; have fb := dU (ai a).2 j (mE fn); refine zu s 2 (by exact zAd (zP Z0)) ?_; intro _ fw s; refine zw s ?_; intro _ fw s; refine aN ?_; refine aB ?_; refine tn hK8 ?_; refine zu s 2 (by exact zAn (zP Z0) j 1) ?_; intro _ fw s; refine zw s ?_; intro _ fw s; refine aN ?_; exact bg ⟨(j + 1), ⟨(m + 1), hltj, (oL hm hcl hcp), s.c⟩, (show (ai a).2.length - (j + 1) < (ai a).2.length - j by omega)⟩
    intro hc4; have hcp : mE fn cl = false := CP hc4; refine wp_skip ?_; refine aB ?_; refine tn hK8 ?_; refine zu s 2 (by exact zAn (zP Z0) j 1) ?_; intro _ fw s; refine zw s ?_; intro _ fw s; refine aN ?_; exact bg ⟨(j + 1), ⟨m, hltj, (ur hm hcl hcp), s.c⟩, (show (ai a).2.length - (j + 1) < (ai a).2.length - j by omega)⟩
   intro hc3; refine wp_exit ?_; refine aM ?_; refine aM ?_; refine aD ?_; refine aB ?_; refine tn hK3 ?_; refine zu s 2 (by exact zAn (zP Z0) k 1) ?_; intro _ fw s; refine zw s ?_; intro _ fw s; refine aN ?_; exact bg ⟨(k + 1), ⟨m, hltk, (mG ha hfn hn (kt hm (by omega))), (by have fb := dU (ai a).2 j (mE fn); constructor <;> omega), (s.ow ((s.o.take 2).tail)).c⟩, (show l.length - (k + 1) < l.length - k by omega)⟩
  intro hc1; refine wp_exit ?_; refine aM ?_; refine aM ?_; refine aD ?_; refine tn hK1 ?_; refine zt_ s 3 (zC (zO (zP Z0) fun cc => vR (Or.inr rfl) rfl cc.e rfl (by omega) (by omega)) fun cc => cm (n * 10000) _ (by omega) (by omega)) ?_; intro _ fw s K9 hK9; refine zS s 0 ?_; intro fw s; refine wt hK9 ?_; refine wp_ret ?_; refine ac (v := ae (ay (n * 10000))) rfl (.cons (rC s 3 0) .nil) rfl s.q ?_; exact ⟨congrArg (fun v => Ending.returned (ae v)) (show ay _ = ay _ by rw [hn, List.take_of_length_le (by omega)]), s.o.kept⟩
theorem na (a : Ar) (A1 : Option Addr) (c1 : Nat) (v : Vl) (w : World) (r1 : RowK 5 clV w A1 a.l) (l1 : a.l.length ≤ c1) (hla : a.l.length ≤ 900000) (ha : aY a) (hsv : Small v) :
    Calls Tryz.prog 38 #[aA a (.slice A1 a.l.length c1), ae v] w fun e w' => e = .returned (ae (cM a v)) ∧ Kept w w' := by
  obtain ⟨xa, la, ea⟩ : ∃ x l, ai a = (x, l) := ⟨_, _, rfl⟩; obtain ⟨hlla, hsc⟩ := il ea ha (by omega); have sz := iV (x := xa); go_enter Tryz.func38, Tryz.ntmps38; refine z00 52 [(0, aA a (.slice A1 a.l.length c1)), (1, ae v)] ?_; intro _ s; refine zr s 3 (zV (zB (zB Z0 (.cells #[.bool a.w, .int .u8 a.v.k, .int .i64 a.v.n, .string ⟨a.v.t.toArray⟩, .int .i64 a.x.c1, .int .i64 a.x.r1, .int .i64 a.x.c2, .int .i64 a.x.r2, .slice A1 a.l.length c1] 39 (0, 0))) (.cells #[.int .u8 v.k, .int .i64 v.n, .string ⟨v.t.toArray⟩] 25 (0, 0))) oZ) ?_; intro gb1 gb2 gb3 _ fw s; refine sq fun hK1 => ?_; refine zr s 3 (zP (zL (zF Z0 0) 1)) ?_; intro _ fw s; refine zi_ s ?_ ?_
  ·intro hc1
   have hk4 := hc1; refine zt_ s 1 (zA Z0 (ae v) 3 1) ?_; intro _ fw s K2 hK2; refine zS s 0 ?_; intro fw s; refine wt hK2 ?_; refine wp_ret ?_; refine ag ?_; refine ac (v := ae v) rfl (.cons (rC s 3 0) .nil) rfl s.q ?_; exact ⟨congrArg (fun v => Ending.returned (ae v)) ((Aj hk4).symm), s.o.kept⟩
  intro hc1; have hk4 := hc1; refine wp_skip ?_; refine tn hK1 ?_; refine zt_ s 1 (zA Z0 (aA a (.slice A1 a.l.length c1)) 9 2) ?_; intro _ fw s K3 hK3; refine aU (aC rfl) (bZ (u := aA a (.slice A1 a.l.length c1)) rfl (s.g 14) (ci _ _)) ((px ea _ _ _ l1).mono ?_); rintro _ fw ⟨T, A2, c2, rfl, hT, hc2, hR⟩; refine ⟨_, rfl, ?_⟩; rcases hT with hT
  have ow := Own.both s.o hT; have ow : Own w ((Th.obj gb3 oZ) :: (Th.obj gb2 (.cells #[.int .u8 v.k, .int .i64 v.n, .string ⟨v.t.toArray⟩] 25 (0, 0))) :: (Th.obj gb1 (.cells #[.bool a.w, .int .u8 a.v.k, .int .i64 a.v.n, .string ⟨a.v.t.toArray⟩, .int .i64 a.x.c1, .int .i64 a.x.r1, .int .i64 a.x.c2, .int .i64 a.x.r2, .slice A1 a.l.length c1] 39 (0, 0))) :: T) fw := ow; refine zg (s.ow ow) ?_; intro _ fw s; refine ct s.o (aC rfl) (dv (b := .cells #[.int .i64 0, .int .i64 0, .int .i64 0, .int .i64 0, .slice none 0 0] 37 (0, 0)) rfl (by kernel_rfl)) fun gb4 fw ow => ?_; refine zg (s.ow ow) ?_; intro _ fw s; refine zS s 0 ?_; intro fw s; refine zw s ?_; intro _ fw s; refine wt hK3 ?_; refine sq fun hK4 => ?_; refine zr s 1 (zP Z0) ?_; intro _ fw s; refine wp_block ?_; refine aP (fun (j : Nat) fr u => ∃ (n : Int), (j ≤ la.length) ∧ (n = 0 + (((la.take j).filter fun c => aX c.v v).length : Int)) ∧ Sg 52 w ((Th.obj gb4 (.cells #[.int .i64 xa.c1, .int .i64 xa.r1, .int .i64 xa.c2, .int .i64 xa.r2, .slice A2 la.length c2] 37 (0, 0))) :: (Th.obj gb3 oZ) :: (Th.obj gb2 (.cells #[.int .u8 v.k, .int .i64 v.n, .string ⟨v.t.toArray⟩] 25 (0, 0))) :: (Th.obj gb1 (.cells #[.bool a.w, .int .u8 a.v.k, .int .i64 a.v.n, .string ⟨a.v.t.toArray⟩, .int .i64 a.x.c1, .int .i64 a.x.r1, .int .i64 a.x.c2, .int .i64 a.x.r2, .slice A1 a.l.length c1] 39 (0, 0))) :: T) [(3, .pointer (some ⟨gb2, 0, none⟩)), (4, .pointer (some ⟨gb3, 0, none⟩)), (5, .pointer (some ⟨gb4, 0, none⟩)), (6, .int .i64 n), (7, .int .i64 (j : Int))] fr u) (fun j => la.length - j) 0 ⟨0, (Nat.zero_le _), (by simp), s.c⟩ (fun j b_ u_ hI => ?_)
  revert b_ u_; intro fa fw hI
  obtain ⟨n, hj0, hn, s⟩ := hI; refine sq fun hK5 => ?_; refine zr s 5 (zP (zN (zL (zF (zP Z0) 4) 0))) ?_; intro _ fw s; refine zi_ s ?_ ?_
  ·intro hc2
   refine wp_skip ?_; refine tn hK5 ?_; refine sq fun hK6 => ?_; refine wp_block ?_; have hr2 := hR _ _ (r1.kept s.o.kept) s.o.tail.tail.tail.tail; have hltj : j < la.length := by omega
   obtain ⟨cl, hcl⟩ := bI hltj; obtain ⟨bcl, ocl, Acl, ecl⟩ := hr2.elem hcl; refine zr s 8 (zC (zA (zO (zF (zO (zP (zL (zF Z0 4) 0)) fun cc => al 5 Tryz.underlying35 (by kernel_rfl) rfl Acl cc.e cc.e hltj) (ocl + j * 5 + 2)) (v := ae cl.v) fun cc => bf (n := 3) 2 rfl (by kernel_rfl) (by kernel_rfl) cc.e rfl (ecl.kept cc.k)) (ae v) 3 2) fun cc => ig cl.v v _ (hsc cl (List.mem_of_getElem? hcl)) hsv) ?_; intro _ fw s; refine zb s (Iff.rfl) ?_ ?_
   ·intro hc3
    have hsm : aX cl.v v = true := by simpa using hc3
    have fb := dU la j (fun c => aX c.v v); refine zu s 2 (by exact zAd (zP Z0)) ?_; intro _ fw s; refine zw s ?_; intro _ fw s; refine aN ?_; refine aB ?_; refine tn hK6 ?_; refine zu s 2 (by exact zAn (zP Z0) j 1) ?_; intro _ fw s; refine zw s ?_; intro _ fw s; refine aN ?_; exact bg ⟨(j + 1), ⟨(n + 1), hltj, (oL hn hcl hsm), s.c⟩, (show la.length - (j + 1) < la.length - j by omega)⟩
   intro hc3; have hsm : aX cl.v v = false := by simpa using hc3
   refine wp_skip ?_; refine aB ?_; refine tn hK6 ?_; refine zu s 2 (by exact zAn (zP Z0) j 1) ?_; intro _ fw s; refine zw s ?_; intro _ fw s; refine aN ?_; exact bg ⟨(j + 1), ⟨n, hltj, (ur hn hcl hsm), s.c⟩, (show la.length - (j + 1) < la.length - j by omega)⟩
  intro hc2; refine wp_exit ?_; refine aM ?_; refine aM ?_; refine aD ?_; refine tn hK4 ?_; refine sq fun hK7 => ?_; have fb := dU la j (fun c => aX c.v v); refine zr s 3 (zC (zA (zO Z0 (v := ae (⟨0, 0, []⟩ : Vl)) fun cc => cG (us := #[]) rfl (by simp) (by kernel_rfl)) (ae v) 3 2) fun cc => ig (⟨0, 0, []⟩ : Vl) v _ fZ hsv) ?_; intro _ fw s; refine zb s (Iff.rfl) ?_ ?_
  ·intro hc4
   have hbl : aX aj v = true := hc4; refine zr s 8 (zP (zP (zP (zP (zP (zC (zA (zF Z0 0) (aR xa) 4 0) fun cc => kr xa _)))))) ?_; intro _ fw s; refine zu s 7 (by exact zSb (zN (zL (zF (zAd (zP (zP Z0))) 4) 0))) ?_; intro _ fw s; refine zw s ?_; intro _ fw s; refine wt hK7 ?_; refine zt_ s 3 (zC (zO (zP Z0) fun cc => vR (Or.inr rfl) rfl cc.e rfl (by omega) (by omega)) fun cc => cm (((n + (aJ xa)) - ((la.length : Nat) : Int)) * 10000) _ (by omega) (by omega)) ?_; intro _ fw s K8 hK8; refine zS s 1 ?_; intro fw s; refine wt hK8 ?_; refine wp_ret ?_; refine ac (v := ae (ay (((n + (aJ xa)) - ((la.length : Nat) : Int)) * 10000))) rfl (.cons (rC s 3 1) .nil) rfl s.q ?_; exact ⟨congrArg (fun v => Ending.returned (ae v)) (CQ ea hk4 hbl (kt hn (by omega))), s.o.kept⟩
  intro hc4; have hbl : aX aj v = false := Bool.eq_false_iff.2 hc4; refine wp_skip ?_; refine tn hK7 ?_; refine zt_ s 3 (zC (zO (zP Z0) fun cc => vR (Or.inr rfl) rfl cc.e rfl (by omega) (by omega)) fun cc => cm (n * 10000) _ (by omega) (by omega)) ?_; intro _ fw s K9 hK9; refine zS s 1 ?_; intro fw s; refine wt hK9 ?_; refine wp_ret ?_; refine ac (v := ae (ay (n * 10000))) rfl (.cons (rC s 3 1) .nil) rfl s.q ?_; exact ⟨congrArg (fun v => Ending.returned (ae v)) (FJ ea hk4 hbl (kt hn (by omega))), s.o.kept⟩
end

namespace Lv
open Go
theorem DQ {n : Int} (h : num64 n) : i64 n := ⟨by have := h.1; omega, h.2⟩
theorem ve {c : Int} (h : c = 1 ∨ c = 3) : i64 (aG c).n := by
  rcases h with rfl | rfl <;> exact ⟨by decide, by decide⟩
theorem CR {n : Int} (h : num64 n) : i64 (ay n).n := by
  rw [Cp h]; exact DQ h
theorem CS (n : Int) : i64 (eX (fit n)).n := by
  unfold fit eX
  by_cases c : -9223372036854775807 ≤ n ∧ n ≤ 9223372036854775807
  · rw [if_pos c]
    exact CR c
  · rw [if_neg c]
    exact ve (Or.inr rfl)
theorem mean_i64 (l : List Int) : i64 (eX (bM l)).n := by
  unfold bM
  split
  · exact ve (Or.inr rfl)
  · exact CS _
theorem CT {l : List Int} (h : ∀ n ∈ l, num64 n) (k : Nat) : num64 (l.getD k 0) := by
  unfold List.getD
  cases e : l[k]? with
  | none => exact ⟨by decide, by decide⟩
  | some x => exact h x (List.mem_of_getElem? e)
end Lv

namespace Lv
open Go
def bA (x : Rc) (v : Vl) (S : Int) : List Cl → Int
  | [] => S + 1
  | c :: l => if aX c.v v = true then bN x c.c c.r + 1 else bA x v S l
def cu (x : Rc) : Int → List Cl → Int
  | n, [] => n + 1
  | n, c :: l => if bN x c.c c.r = n then cu x (n + 1) l else n + 1
theorem AK (x : Rc) : ∀ (l : List Cl) (n : Int), n < cu x n l
  | [], n => by show n < n + 1; omega
  | c :: l, n => by
    unfold cu
    split
    · have := AK x l (n + 1); omega
    · omega
theorem pz {x : Rc} {v : Vl} {S m : Int} : ∀ {l : List Cl}, (∀ c ∈ l, m ≤ bN x c.c c.r) → m ≤ S → m + 1 ≤ bA x v S l
  | [], _, hm => by show m + 1 ≤ S + 1; omega
  | c :: l, h, hm => by
    unfold bA
    split
    · have := h c List.mem_cons_self; omega
    · exact pz (fun d hd => h d (List.mem_cons_of_mem _ hd)) hm
theorem vf {x : Rc} {v : Vl} : ∀ {l : List Cl} {n : Int}, (∀ c ∈ l, bN x c.c c.r < aJ x) → bG x v false n l = if bA x v (aJ x) l ≤ aJ x then bA x v (aJ x) l else 0
  | [], n, _ => by
    unfold bG bA; rw [if_neg (by simp), if_neg (by omega)]
  | c :: l, n, h => by
    have hc := h c List.mem_cons_self; have ih := vf (n := bN x c.c c.r + 1) (fun d hd => h d (List.mem_cons_of_mem _ hd)) (v := v); unfold bG bA; rw [if_neg (by simp)]
    by_cases e : aX c.v v = true
    · rw [if_pos e, if_pos e, if_pos (by omega)]
    · rw [if_neg e, if_neg e, ih]
theorem rv {x : Rc} {v : Vl} : ∀ {l : List Cl} {n : Int}, n ≤ aJ x → (∀ c ∈ l, n ≤ bN x c.c c.r ∧ bN x c.c c.r < aJ x) → (l.Pairwise fun p q => bN x p.c p.r < bN x q.c q.r) →
    bG x v true n l = if min (bA x v (aJ x) l) (cu x n l) ≤ aJ x then min (bA x v (aJ x) l) (cu x n l) else 0
  | [], n, hn, _, _ => by
    unfold bG bA cu
    by_cases c : n < aJ x
    · rw [if_pos ⟨rfl, c⟩, if_pos (by omega)]
      omega
    · rw [if_neg (fun h => c h.2), if_neg (by omega)]
  | c :: l, n, hn, h, p => by
    obtain ⟨h1, h2⟩ := h c List.mem_cons_self; obtain ⟨p1, p2⟩ := List.pairwise_cons.1 p
    by_cases hg : n < bN x c.c c.r
    · have hf : n + 1 ≤ bA x v (aJ x) (c :: l) := pz (fun d hd => (h d hd).1) hn
      have eg : cu x n (c :: l) = n + 1 := by
        unfold cu; rw [if_neg (by omega)]
      rw [eg]; unfold bG; rw [if_pos ⟨rfl, hg⟩, if_pos (by omega)]
      omega
    · have e : bN x c.c c.r = n := by omega
      by_cases hs : aX c.v v = true
      · have hgap := AK x l (n + 1)
        unfold bG bA cu; rw [if_neg (fun h => hg h.2), if_pos hs, if_pos e, if_pos hs, e]; rw [if_pos (by omega)]
        omega
      · have ih := rv (l := l) (n := n + 1) (v := v) (by omega) (fun d hd => ⟨by have := p1 d hd; omega, (h d (List.mem_cons_of_mem _ hd)).2⟩) p2
        unfold bG bA cu; rw [if_neg (fun h => hg h.2), if_neg hs, if_pos e, if_neg hs, e, ih]
theorem Hn {x : Rc} {v : Vl} {S : Int} {l : List Cl} {j : Nat} {c : Cl} (h1 : 1 ≤ j) (h : l[j - 1]? = some c) (e : aX c.v v = true) : bN x c.c c.r + 1 = bA x v S (l.drop (j - 1)) := by
  obtain ⟨hi, ei⟩ := List.getElem?_eq_some_iff.1 h; rw [List.drop_eq_getElem_cons hi, ei]; unfold bA; rw [if_pos e]
theorem FK {x : Rc} {v : Vl} {S b : Int} {l : List Cl} {j : Nat} {c : Cl} (h1 : 1 ≤ j) (h : l[j - 1]? = some c) (e : aX c.v v = false) (hb : b = bA x v S (l.drop j)) : b = bA x v S (l.drop (j - 1)) := by
  obtain ⟨hi, ei⟩ := List.getElem?_eq_some_iff.1 h; rw [List.drop_eq_getElem_cons hi, ei, show j - 1 + 1 = j by omega]; unfold bA; rw [if_neg (by rw [e]; decide)]; exact hb
theorem Ho {x : Rc} {l : List Cl} {q : Nat} {c : Cl} (h : l[q]? = some c) (e : bN x c.c c.r + 1 = ((q + 1 : Nat) : Int)) : cu x (q : Int) (l.drop q) = cu x ((q + 1 : Nat) : Int) (l.drop (q + 1)) := by
  obtain ⟨hi, ei⟩ := List.getElem?_eq_some_iff.1 h; rw [List.drop_eq_getElem_cons hi, ei]; show (if bN x c.c c.r = (q : Int) then cu x ((q : Int) + 1) _ else _) = _; rw [if_pos (by omega)]
  rfl
theorem CU {x : Rc} {l : List Cl} {q : Nat} {c : Cl} {P : Prop} (hc : q < l.length → P ∧ l[q]? = some c) (e : ¬ ((((q + 1 : Nat) : Int) ≤ ((l.length : Nat) : Int)) ∧ ((bN x c.c c.r + 1 : Int) = (((q + 1 : Nat) : Int))))) : cu x (q : Int) (l.drop q) = ((q + 1 : Nat) : Int) := by
  by_cases hq : q < l.length
  · have h := (hc hq).2
    obtain ⟨hi, ei⟩ := List.getElem?_eq_some_iff.1 h; rw [List.drop_eq_getElem_cons hi, ei]; show (if bN x c.c c.r = (q : Int) then _ else (q : Int) + 1) = _; rw [if_neg (fun z => e ⟨by omega, by omega⟩)]
    omega
  · rw [List.drop_eq_nil_of_le (by omega)]
    show (q : Int) + 1 = _
    omega
theorem rz {x : Rc} {l : List Cl} {v : Vl} {B : Int} (ho : okR x = true) (hf : ∀ c ∈ l, dT x c) (hr : mf l) (hB : B = if aX aj v = true then min (bA x v (aJ x) l) (cu x 0 l) else bA x v (aJ x) l) :
    bG x v (aX aj v) 0 l = if B ≤ aJ x then B else 0 := by
  have hs : aJ x = bh x * cd x := by unfold aJ; rw [if_pos ho]
  have hin : ∀ c ∈ l, 0 ≤ bN x c.c c.r ∧ bN x c.c c.r < aJ x := fun c hc => by rw [hs]; exact me (hf c hc).1
  have hp : l.Pairwise fun p q => bN x p.c p.r < bN x q.c q.r := by
    refine List.Pairwise.imp_of_mem (fun {p q} hp hq h => ?_) hr; have := oG (hf p hp).1 (hf q hq).1; rw [h, decide_eq_true_eq] at this; exact this
  have h0 : 0 ≤ aJ x := by have := uM ho; omega
  cases e : aX aj v with
  | true =>
    rw [e, if_pos rfl] at hB; rw [hB]; exact rv h0 hin hp
  | false =>
    rw [e, if_neg (by decide)] at hB; rw [hB]; exact vf (fun c hc => (hin c hc).2)
theorem rA {x : Rc} {l : List Cl} {v : Vl} (ho : okR x = true) (hf : ∀ c ∈ l, dT x c) : 1 ≤ bA x v (aJ x) l :=
  pz (m := 0) (fun c hc => (me (hf c hc).1).1) (by have := uM ho; omega)
end Lv

section
open Go.RowKit Lv
set_option maxRecDepth 100000
theorem CW {w : World} {A : Option Addr} {l : List Cl} (h : RowK 5 clV w A l) (q : Nat) : ∃ (b off : Nat) (pc : Cl), q < l.length → (A = some ⟨b, off, none⟩ ∧ ElemK w b (off + q * 5) (clV pc)) ∧ l[q]? = some pc := by
  by_cases c : q < l.length
  · obtain ⟨pc, hp⟩ := bI c
    obtain ⟨b, off, e, he⟩ := h.elem hp; exact ⟨b, off, pc, fun _ => ⟨⟨e, he⟩, hp⟩⟩
  · exact ⟨0, 0, ⟨0, 0, aj⟩, fun z => absurd z c⟩
theorem CX {a : Ar} {x : Rc} {la : List Cl} (e : ai a = (x, la)) (h : Js a = true) : mf la := by
  obtain ⟨w, v, x', l⟩ := a
  cases w
  · unfold ai at e
    simp only [Bool.false_eq_true, if_false] at e
    split at e
    · cases e; exact List.Pairwise.nil
    · cases e; exact List.pairwise_singleton _ _
  · have h2 := Fw h rfl
    unfold ai at e
    simp only [if_true] at e
    cases e
    rw [h2] at h; exact (nK.1 h).2.2
theorem CY {x : Rc} {l : List Cl} {v : Vl} (ho : okR x = true) (hf : ∀ c ∈ l, dT x c) : bA x v (aJ x) l ≤ aJ x + 1 := by
  have hs : aJ x = bh x * cd x := by unfold aJ; rw [if_pos ho]
  induction l with
  | nil => exact Int.le_refl _
  | cons c l ih =>
    unfold bA; have := me (hf c List.mem_cons_self).1
    split
    · omega
    · exact ih (fun d hd => hf d (List.mem_cons_of_mem _ hd))
theorem rB {a : Ar} {v : Vl} {x : Rc} {la : List Cl} {B : Int} (ho : okR x = true) (hf : ∀ c ∈ la, dT x c) (hr : mf la) (e : ai a = (x, la)) (h : ¬ ((v.k : Int) = (4 : Int))) {b : Bool} (_hb : aX aj v = b) (hB : B = if aX aj v = true then min (bA x v (aJ x) la) (cu x 0 la) else bA x v (aJ x) la) (g : (aJ x : Int) < (B : Int)) : aG 4 = dQ v a := by
  have hm : bG x v (aX aj v) 0 la = 0 := by rw [rz ho hf hr hB, if_neg (by omega)]
  rw [← te e h]; unfold mW; rw [if_pos hm]
theorem rD {a : Ar} {v : Vl} {x : Rc} {la : List Cl} {B : Int} (ho : okR x = true) (hf : ∀ c ∈ la, dT x c) (hr : mf la) (e : ai a = (x, la)) (h : ¬ ((v.k : Int) = (4 : Int))) {b : Bool} (_hb : aX aj v = b) (hB : B = if aX aj v = true then min (bA x v (aJ x) la) (cu x 0 la) else bA x v (aJ x) la) (g : ¬ ((aJ x : Int) < (B : Int))) : ay (B * 10000) = dQ v a := by
  have h1 := rA (v := v) ho hf; have h2 := AK x la 0
  have h0 : B ≠ 0 := by
    rw [hB]
    split <;> omega
  have hm : bG x v (aX aj v) 0 la = B := by rw [rz ho hf hr hB, if_pos (by omega)]
  rw [← te e h]; unfold mW; rw [hm, if_neg h0]
theorem gu : En 109 := by intro args w; go_simp
theorem rE (a : Ar) (A1 : Option Addr) (c1 : Nat) (v : Vl) (w : World) (r1 : RowK 5 clV w A1 a.l) (l1 : a.l.length ≤ c1) (hla : a.l.length ≤ 900000) (ha : aY a) (hsv : Small v) (hok : Js a = true) :
    Calls Tryz.prog 74 #[ae v, aA a (.slice A1 a.l.length c1)] w fun e w' => e = .returned (ae (dQ v a)) ∧ Kept w w' := by
  obtain ⟨xa, la, ea⟩ : ∃ x l, ai a = (x, l) := ⟨_, _, rfl⟩; obtain ⟨hlla, hsc⟩ := il ea ha (by omega); have sz := iV (x := xa); have hox : okR xa = true := by have := ky hok; rw [ea] at this; exact this
  have hfn := rg ea hok; have hrw := CX ea hok; go_enter Tryz.func74, Tryz.ntmps74; refine z00 84 [(0, ae v), (1, aA a (.slice A1 a.l.length c1))] ?_; intro _ s; refine zr s 3 (zV (zB (zB Z0 (.cells #[.int .u8 v.k, .int .i64 v.n, .string ⟨v.t.toArray⟩] 25 (0, 0))) (.cells #[.bool a.w, .int .u8 a.v.k, .int .i64 a.v.n, .string ⟨a.v.t.toArray⟩, .int .i64 a.x.c1, .int .i64 a.x.r1, .int .i64 a.x.c2, .int .i64 a.x.r2, .slice A1 a.l.length c1] 39 (0, 0))) oZ) ?_; intro gb1 gb2 gb3 _ fw s; refine sq fun hK1 => ?_; refine zr s 3 (zP (zL (zF Z0 0) 2)) ?_; intro _ fw s; refine zi_ s ?_ ?_
  ·intro hc1
   have hk4 := hc1; refine zt_ s 1 (zA Z0 (ae v) 3 2) ?_; intro _ fw s K2 hK2; refine zS s 0 ?_; intro fw s; refine wt hK2 ?_; refine wp_ret ?_; refine ag ?_; refine ac (v := ae v) rfl (.cons (rC s 3 0) .nil) rfl s.q ?_; exact ⟨congrArg (fun v => Ending.returned (ae v)) ((Ak hk4).symm), s.o.kept⟩
  intro hc1; have hk4 := hc1; refine wp_skip ?_; refine tn hK1 ?_; refine zt_ s 1 (zA Z0 (aA a (.slice A1 a.l.length c1)) 9 1) ?_; intro _ fw s K3 hK3; refine aU (aC rfl) (bZ (u := aA a (.slice A1 a.l.length c1)) rfl (s.g 15) (ci _ _)) ((px ea _ _ _ l1).mono ?_); rintro _ fw ⟨T, A2, c2, rfl, hT, hc2, hR⟩; refine ⟨_, rfl, ?_⟩; rcases hT with hT
  have ow := Own.both s.o hT; have ow : Own w ((Th.obj gb3 oZ) :: (Th.obj gb2 (.cells #[.bool a.w, .int .u8 a.v.k, .int .i64 a.v.n, .string ⟨a.v.t.toArray⟩, .int .i64 a.x.c1, .int .i64 a.x.r1, .int .i64 a.x.c2, .int .i64 a.x.r2, .slice A1 a.l.length c1] 39 (0, 0))) :: (Th.obj gb1 (.cells #[.int .u8 v.k, .int .i64 v.n, .string ⟨v.t.toArray⟩] 25 (0, 0))) :: T) fw := ow; refine zg (s.ow ow) ?_; intro _ fw s; refine ct s.o (aC rfl) (dv (b := .cells #[.int .i64 0, .int .i64 0, .int .i64 0, .int .i64 0, .slice none 0 0] 37 (0, 0)) rfl (by kernel_rfl)) fun gb4 fw ow => ?_; refine zg (s.ow ow) ?_; intro _ fw s; refine zS s 0 ?_; intro fw s; refine wt hK3 ?_; refine zr s 8 (zP (zP (zP (zP (zP (zC (zA (zF Z0 0) (aR xa) 4 0) fun cc => kr xa _)))))) ?_; intro _ fw s; refine zr s 3 (zP (zAd (zP Z0))) ?_; intro _ fw s; refine sq fun hK4 => ?_; refine zr s 5 (zP (zSb (zN (zL (zF Z0 4) 0)))) ?_; intro _ fw s; refine wp_block ?_; refine aP (fun (j : Nat) fr u => ∃ (b : Int), (j ≤ la.length) ∧ (b = bA xa v (aJ xa) (la.drop j)) ∧ Sg 84 w ((Th.obj gb4 (.cells #[.int .i64 xa.c1, .int .i64 xa.r1, .int .i64 xa.c2, .int .i64 xa.r2, .slice A2 la.length c2] 37 (0, 0))) :: (Th.obj gb3 oZ) :: (Th.obj gb2 (.cells #[.bool a.w, .int .u8 a.v.k, .int .i64 a.v.n, .string ⟨a.v.t.toArray⟩, .int .i64 a.x.c1, .int .i64 a.x.r1, .int .i64 a.x.c2, .int .i64 a.x.r2, .slice A1 a.l.length c1] 39 (0, 0))) :: (Th.obj gb1 (.cells #[.int .u8 v.k, .int .i64 v.n, .string ⟨v.t.toArray⟩] 25 (0, 0))) :: T) [(2, .pointer (some ⟨gb1, 0, none⟩)), (4, .pointer (some ⟨gb3, 0, none⟩)), (5, .pointer (some ⟨gb4, 0, none⟩)), (6, .int .i64 (aJ xa)), (8, .int .i64 b), (9, .int .i64 ((j : Int) - 1))] fr u) (fun j => j) la.length ⟨(aJ xa + 1), (Nat.le_refl _), (by rw [List.drop_length]; rfl), s.c⟩ (fun j b_ u_ hI => ?_)
  revert b_ u_; intro fa fw hI
  obtain ⟨b, hj0, hb, s⟩ := hI; refine sq fun hK5 => ?_; refine zr s 2 (zP (zP Z0)) ?_; intro _ fw s; refine zi_ s ?_ ?_
  ·intro hc2
   refine wp_skip ?_; refine tn hK5 ?_; refine sq fun hK6 => ?_; refine wp_block ?_; have hj1 : 1 ≤ j := by omega
   have hltj : j - 1 < la.length := by omega
   obtain ⟨cl, hcl⟩ := bI hltj; have hfc := (hfn cl (List.mem_of_getElem? hcl)).1; have hr2 := hR _ _ (r1.kept s.o.kept) s.o.tail.tail.tail.tail; obtain ⟨bcl, ocl, Acl, ecl⟩ := hr2.elem hcl; refine zr s 8 (zC (zA (zO (zF (zO (zE (zP (zL (zF Z0 4) 0)) (y := .int .i64 ((j - 1 : Nat) : Int)) (congrArg (Value.int .i64) (by omega))) fun cc => al 5 Tryz.underlying35 (by kernel_rfl) rfl Acl cc.e cc.e hltj) (ocl + (j - 1) * 5 + 2)) (v := ae cl.v) fun cc => bf (n := 3) 2 rfl (by kernel_rfl) (by kernel_rfl) cc.e rfl (ecl.kept cc.k)) (ae v) 3 3) fun cc => ig cl.v v _ (hsc cl (List.mem_of_getElem? hcl)) hsv) ?_; intro _ fw s; refine zb s (Iff.rfl) ?_ ?_
   ·intro hc3
    have hsm : aX cl.v v = true := by simpa using hc3
    have hr2 := hR _ _ (r1.kept s.o.kept) s.o.tail.tail.tail.tail; obtain ⟨bcl, ocl, Acl, ecl⟩ := hr2.elem hcl; refine zq s 10 (by exact zP (zC (zO (zF (zO (zE (zP (zL (zF (zA (zF Z0 0) (aR xa) 4 0) 4) 0)) (y := .int .i64 ((j - 1 : Nat) : Int)) (congrArg (Value.int .i64) (by omega))) fun cc => al 5 Tryz.underlying35 (by kernel_rfl) rfl Acl cc.e cc.e hltj) (ocl + (j - 1) * 5)) (v := .agg #[.int .i64 cl.c, .int .i64 cl.r]) fun cc => bf (n := 2) 0 rfl (by kernel_rfl) (by kernel_rfl) cc.e rfl (ecl.kept cc.k)) fun cc => mm xa cl.c cl.r _ hox hfc)) ?_; intro _ fw s; refine aB ?_; refine tn hK6 ?_; refine zu s 2 (by exact zE (zSb (zP Z0)) (y := .int .i64 (((j - 1 : Nat) : Int) - 1)) (congrArg (Value.int .i64) (by omega))) ?_; intro _ fw s; refine zw s ?_; intro _ fw s; refine aN ?_; exact bg ⟨(j - 1), ⟨(bN xa cl.c cl.r + 1), (by omega), (Hn hj1 hcl hsm), s.c⟩, (show j - 1 < j by omega)⟩
   intro hc3; have hsm : aX cl.v v = false := by simpa using hc3
   refine wp_skip ?_; refine aB ?_; refine tn hK6 ?_; refine zu s 2 (by exact zE (zSb (zP Z0)) (y := .int .i64 (((j - 1 : Nat) : Int) - 1)) (congrArg (Value.int .i64) (by omega))) ?_; intro _ fw s; refine zw s ?_; intro _ fw s; refine aN ?_; exact bg ⟨(j - 1), ⟨b, (by omega), (FK hj1 hcl hsm hb), s.c⟩, (show j - 1 < j by omega)⟩
  intro hc2; refine wp_exit ?_; refine aM ?_; refine aM ?_; refine aD ?_; refine tn hK4 ?_; refine sq fun hK7 => ?_; have hb2 : b = bA xa v (aJ xa) la := by rw [hb, show j = 0 by omega, List.drop_zero]
  have hbp : 1 ≤ b := by rw [hb2]; exact rA hox hfn
  have hbm := CY (v := v) hox hfn; rw [← hb2] at hbm; refine zr s 3 (zC (zA (zO Z0 (v := ae (⟨0, 0, []⟩ : Vl)) fun cc => cG (us := #[]) rfl (by simp) (by kernel_rfl)) (ae v) 3 3) fun cc => ig (⟨0, 0, []⟩ : Vl) v _ fZ hsv) ?_; intro _ fw s; refine zb s (Iff.rfl) ?_ ?_
  ·intro hc4
   have hbl : aX aj v = true := hc4; refine zr s 1 (zP Z0) ?_; intro _ fw s; refine sq fun hK8 => ?_; refine wp_block ?_; refine aP (fun (gi : Nat) fr u => (gi ≤ la.length) ∧ (cu xa 0 la = cu xa (gi : Int) (la.drop gi)) ∧ Sg 84 w ((Th.obj gb4 (.cells #[.int .i64 xa.c1, .int .i64 xa.r1, .int .i64 xa.c2, .int .i64 xa.r2, .slice A2 la.length c2] 37 (0, 0))) :: (Th.obj gb3 oZ) :: (Th.obj gb2 (.cells #[.bool a.w, .int .u8 a.v.k, .int .i64 a.v.n, .string ⟨a.v.t.toArray⟩, .int .i64 a.x.c1, .int .i64 a.x.r1, .int .i64 a.x.c2, .int .i64 a.x.r2, .slice A1 a.l.length c1] 39 (0, 0))) :: (Th.obj gb1 (.cells #[.int .u8 v.k, .int .i64 v.n, .string ⟨v.t.toArray⟩] 25 (0, 0))) :: T) [(4, .pointer (some ⟨gb3, 0, none⟩)), (5, .pointer (some ⟨gb4, 0, none⟩)), (6, .int .i64 (aJ xa)), (8, .int .i64 b), (10, .int .i64 ((gi + 1 : Nat) : Int))] fr u) (fun gi => la.length - gi) 0 ⟨(Nat.zero_le _), rfl, s.c⟩ (fun gi b_ u_ hI => ?_)
   revert b_ u_; intro fa fw hI
   obtain ⟨hq0, hg, s⟩ := hI; refine sq fun hK9 => ?_; have hr2 := hR _ _ (r1.kept s.o.kept) s.o.tail.tail.tail.tail; obtain ⟨gpc, opc, pc, hpc⟩ := CW hr2 gi; refine zr s 19 (zO (zPi (zPi (zCi (zI (zFi (zI (zI (zPi (zLi (zFi (zAi (zFi (zP (zP (zN (zL (zF (zP Z0) 4) 0)))) 0) (aR xa) 4 0) 4) 0)) (v := .int .i64 (gi : Int)) (run := by exact fun cc hz => cvt (Ek (Or.inl rfl) rfl (cc.f hz) rfl (by omega) (by omega)) (congrArg (Value.int .i64) (by omega)))) (v := .pointer (some ⟨gpc, opc + gi * 5, none⟩)) (run := by exact fun cc hz => al 5 Tryz.underlying35 (by kernel_rfl) rfl (hpc (by have := of_decide_eq_true hz; omega)).1.1 (cc.f hz) (cc.f hz) (by have := of_decide_eq_true hz; omega))) (opc + gi * 5)) (v := .agg #[.int .i64 pc.c, .int .i64 pc.r]) (run := by exact fun cc hz => bf (n := 2) 0 rfl (by kernel_rfl) (by kernel_rfl) (cc.f hz) rfl ((hpc (by have := of_decide_eq_true hz; omega)).1.2.kept cc.k))) (v := .int .i64 (bN xa pc.c pc.r + 1)) (run := by exact fun cc hz => ⟨_, _, kG rfl (cc.f hz) (cc.f hz) (gu _ _), mm xa pc.c pc.r _ hox (hfn _ (List.mem_of_getElem? (hpc (by have := of_decide_eq_true hz; omega)).2)).1⟩)))) fun cc => gm rfl cc.e (fun hb => cc.f hb) rfl) ?_; intro _ fw s; refine zb s (pE (decide_eq_true_iff) (decide_eq_true_iff)) ?_ ?_
   ·intro hc5
    have hgc := hc5; refine wp_skip ?_; refine tn hK9 ?_; refine wp_block ?_; refine zu s 2 (by exact zAn (zP Z0) (gi + 1) 1) ?_; intro _ fw s; refine zw s ?_; intro _ fw s; refine aN ?_; refine aB ?_; exact bg ⟨(gi + 1), ⟨(by omega), (hg.trans (Ho (hpc (by omega)).2 hgc.2)), s.c⟩, (show la.length - (gi + 1) < la.length - gi by omega)⟩
   intro hc5; have hgs := hg.trans (CU hpc hc5); refine wp_exit ?_; refine aM ?_; refine aM ?_; refine aD ?_; refine tn hK8 ?_; refine zu s 3 (by exact zO (zP (zP Z0)) fun cc => Eo rfl (Or.inl rfl) cc.e cc.e) ?_; intro _ fw s; refine zw s ?_; intro _ fw s; refine wt hK7 ?_; refine sq fun hK10 => ?_; have hB : (min b ((gi + 1 : Nat) : Int)) = if aX aj v = true then min (bA xa v (aJ xa) la) (cu xa 0 la) else bA xa v (aJ xa) la := by rw [hbl]; rw [if_pos rfl, ← hb2, hgs]
   refine zr s 3 (zP (zP (zP Z0))) ?_; intro _ fw s; refine zi_ s ?_ ?_
   ·intro hc6
    refine zt_ s 1 (zC Z0 fun cc => cC 4 _) ?_; intro _ fw s K11 hK11; refine zS s 1 ?_; intro fw s; refine wt hK11 ?_; refine wp_ret ?_; refine ag ?_; refine ac (v := ae (aG 4)) rfl (.cons (rC s 3 1) .nil) rfl s.q ?_; exact ⟨congrArg (fun v => Ending.returned (ae v)) (rB hox hfn hrw ea hk4 hbl hB hc6), s.o.kept⟩
   intro hc6; refine wp_skip ?_; refine tn hK10 ?_; refine zt_ s 3 (zC (zO (zP Z0) fun cc => vR (Or.inr rfl) rfl cc.e rfl (by omega) (by omega)) fun cc => cm ((min b ((gi + 1 : Nat) : Int)) * 10000) _ (by omega) (by omega)) ?_; intro _ fw s K12 hK12; refine zS s 1 ?_; intro fw s; refine wt hK12 ?_; refine wp_ret ?_; refine ac (v := ae (ay ((min b ((gi + 1 : Nat) : Int)) * 10000))) rfl (.cons (rC s 3 1) .nil) rfl s.q ?_; exact ⟨congrArg (fun v => Ending.returned (ae v)) (rD hox hfn hrw ea hk4 hbl hB hc6), s.o.kept⟩
  intro hc4; have hbl : aX aj v = false := Bool.eq_false_iff.2 hc4; refine wp_skip ?_; refine tn hK7 ?_; refine sq fun hK13 => ?_; have hB : b = if aX aj v = true then min (bA xa v (aJ xa) la) (cu xa 0 la) else bA xa v (aJ xa) la := by rw [hbl]; rw [if_neg (by decide)]; exact hb2
  refine zr s 3 (zP (zP (zP Z0))) ?_; intro _ fw s; refine zi_ s ?_ ?_
  ·intro hc7
   refine zt_ s 1 (zC Z0 fun cc => cC 4 _) ?_; intro _ fw s K14 hK14; refine zS s 1 ?_; intro fw s; refine wt hK14 ?_; refine wp_ret ?_; refine ag ?_; refine ac (v := ae (aG 4)) rfl (.cons (rC s 3 1) .nil) rfl s.q ?_; exact ⟨congrArg (fun v => Ending.returned (ae v)) (rB hox hfn hrw ea hk4 hbl hB hc7), s.o.kept⟩
  intro hc7; refine wp_skip ?_; refine tn hK13 ?_; refine zt_ s 3 (zC (zO (zP Z0) fun cc => vR (Or.inr rfl) rfl cc.e rfl (by omega) (by omega)) fun cc => cm (b * 10000) _ (by omega) (by omega)) ?_; intro _ fw s K15 hK15; refine zS s 1 ?_; intro fw s; refine wt hK15 ?_; refine wp_ret ?_; refine ac (v := ae (ay (b * 10000))) rfl (.cons (rC s 3 1) .nil) rfl s.q ?_; exact ⟨congrArg (fun v => Ending.returned (ae v)) (rD hox hfn hrw ea hk4 hbl hB hc7), s.o.kept⟩
end

section
open Go.RowKit
section
variable {P : Program} {ops : Array Oper}
structure InvM (ops : Array Oper) (ch : List Nat) (V : Nat → Nat → Value → World → Prop) (w0 : World) (a0 : Act) (done : Array Bool) (a : Act) (w : World) : Prop where
  len : done.size = ops.size
  beside : BesideC ops a0 done a
  kept : Kept w0 w
  shut : ∀ j o, ops[j]? = some o → done.getD j false = true → ∀ e ∈ o.after, Region.binds .any e = true → done.getD e.on false = true
  stage : ∃ s, s ≤ ch.length ∧ (∀ t i, ch[t]? = some i → (done.getD i false = true ↔ t < s)) ∧ ∀ j, done.getD j false = true → V s j (At ops a j) w
theorem wZ {id : Nat} {l : List Oper} (ch : List Nat) (V : Nat → Nat → Value → World → Prop) (N : Nat) {Q : Exit → Act → World → Prop} {w0 : World} {a0 : Act} (hm : P.follows .mixedOrders = true) (hs : a0.tmps.size = N) (hB : vL l.toArray N = true) (hC : yb l.toArray ch = true)
    (stays : ∀ t j v w w', V t j v w → Kept w w' → V t j v w') (up : ∀ t j v w w', (∀ s, ch[s]? = some j → s < t) → V t j v w → V (t + 1) j v w')
    (arm : ∀ i o, l.toArray[i]? = some o → i ∉ ch → ∀ t a w, (∀ s j q, ch[s]? = some j → l.toArray[j]? = some q → (q.after.toList.any fun e => Region.binds .any e && e.on == i) = true → t ≤ s) → Kept w0 w → (∀ t, qk l.toArray i t = true → a.eval (.tmp t) = a0.eval (.tmp t)) → (∀ e ∈ o.after, Region.binds .any e = true → V t e.on (At l.toArray a e.on) w) → ∃ v w', (execOp a.eval o).run P w = .ok (.value v) w' ∧ Kept w w' ∧ V t i v w' ∧ o.dst ≠ none)
    (step : ∀ t i o, ch[t]? = some i → l.toArray[i]? = some o → ∀ a w, Kept w0 w → (∀ t, qk l.toArray i t = true → a.eval (.tmp t) = a0.eval (.tmp t)) → (∀ e ∈ o.after, Region.binds .any e = true → V t e.on (At l.toArray a e.on) w) → ∃ v w', (execOp a.eval o).run P w = .ok (.value v) w' ∧ Kept w0 w' ∧ V (t + 1) i v w' ∧ o.dst ≠ none)
    (fin : ∀ a w, Beside l.toArray a0 a → Kept w0 w → (∀ j, j < l.length → V ch.length j (At l.toArray a j) w) → Q .normal a w) :
    (Code.region id l.toArray true).wp P Q a0 w0 := by
  subst hs; have acy : Dn l.toArray = true := by simp only [vL, Bool.and_eq_true] at hB; exact hB.1
  have inj : ∀ t t' i, ch[t]? = some i → ch[t']? = some i → t = t' := fun t t' i h h' => by
    have pw := List.pairwise_iff_getElem.1 (jT ch hC); obtain ⟨h1, e1⟩ := List.getElem?_eq_some_iff.1 h; obtain ⟨h2, e2⟩ := List.getElem?_eq_some_iff.1 h'; rcases Nat.lt_trichotomy t t' with c | c | c
    · have := pw t t' h1 h2 c; omega
    · exact c
    · have := pw t' t h2 h1 c; omega
  have atJ : ∀ {i : Nat} {o : Oper} {a : Act} {v : Value}, l.toArray[i]? = some o → ∀ j, j ≠ i → At l.toArray (a.put o.dst v) j = At l.toArray a j := fun {i o a v} h j ne => by
    cases ht : o.dst with
    | none => rfl
    | some t =>
      obtain ⟨_, hd⟩ := (hZ hB h).2 t ht; unfold At
      cases hq : l.toArray[j]? with
      | none => rfl
      | some q =>
        simp only [Option.bind_some]
        cases hu : q.dst with
        | none => rfl
        | some u => exact bi (fun e => hd j q ne hq (by rw [hu, e]))
  have atI : ∀ {i : Nat} {o : Oper} {a : Act} {v : Value}, l.toArray[i]? = some o → a.tmps.size = a0.tmps.size → o.dst ≠ none → At l.toArray (a.put o.dst v) i = v := fun {i o a v} h b hn => by
    cases ht : o.dst with
    | none => exact absurd ht hn
    | some t =>
      unfold At; rw [h]
      simp only [Option.bind_some, ht]
      exact cI (by rw [b]; exact ((hZ hB h).2 t ht).1)
  have put : ∀ {done : Array Bool} {i : Nat} {o : Oper} {a : Act} {w w' : World} {v : Value} {s : Nat}, InvM l.toArray ch V w0 a0 done a w → l.toArray[i]? = some o → done.getD i true = false → (∀ e ∈ o.after, Region.binds .any e = true → done.getD e.on false = true) → o.dst ≠ none → Kept w0 w' →
      s ≤ ch.length → (∀ t q, ch[t]? = some q → ((done.setIfInBounds i true).getD q false = true ↔ t < s)) → V s i v w' → (∀ j, done.getD j false = true → V s j (At l.toArray a j) w') → InvM l.toArray ch V w0 a0 (done.setIfInBounds i true) (a.put o.dst v) w' := fun {done i o a w w' v s} inv ho un waits hn hk hs hst hv hvs => by
    have ne_ : ∀ j, done.getD j false = true → j ≠ i := fun j hj c => by rw [c, getD_both un] at hj; cases hj
    have old : ∀ j, j ≠ i → (done.setIfInBounds i true).getD j false = true → done.getD j false = true := fun j ne hj => by
      rwa [getD_set_ne false (fun e => ne e.symm)] at hj
    have new : ∀ j, done.getD j false = true → (done.setIfInBounds i true).getD j false = true := fun j hj => by
      rw [getD_set_ne false (fun c => ne_ j hj c.symm)]; exact hj
    have dEq : (a.put o.dst v).defers = a.defers := by unfold Act.put; split <;> rfl
    have sEq : (a.put o.dst v).tmps.size = a.tmps.size := by unfold Act.put; split <;> simp
    refine ⟨by rw [Array.size_setIfInBounds]; exact inv.len, ⟨dEq.trans inv.beside.defers, sEq.trans inv.beside.size, fun u hu => ?_⟩, hk, fun j q hq hj e he hb => ?_, s, hs, hst, fun j hj => ?_⟩
    · have hin : i < done.size := by rw [inv.len]; exact (Array.getElem?_eq_some_iff.1 ho).1
      have base := inv.beside.same u (fun j q hj hq => hu j q (new j hj) hq)
      cases ht : o.dst with
      | none => exact base
      | some t =>
        rw [bi, base]; rintro rfl; exact hu i o (by simp [Array.getD, hin]) ho ht
    · by_cases c : j = i
      · subst c
        rw [ho] at hq; cases hq; exact new _ (waits e he hb)
      · exact new _ (inv.shut j q hq (old j c hj) e he hb)
    · by_cases c : j = i
      · subst c; rw [atI ho inv.beside.size hn]; exact hv
      · rw [atJ ho j c]; exact hvs j (old j c hj)
  refine nD (I := fun done a w => InvM l.toArray ch V w0 a0 done a w) hm acy ⟨by simp, ⟨rfl, rfl, fun _ _ => rfl⟩, (Kept.refl w0).drew, fun j o _ hj => ?_, 0, Nat.zero_le _, fun t i _ => ?_, fun j hj => ?_⟩ (fun done i o ho hsz un waits a w inv => ?_) (fun done a w inv hall => ?_)
  · rw [getD_replicate_false] at hj; cases hj
  · rw [getD_replicate_false]; simp
  · rw [getD_replicate_false] at hj; cases hj
  · have hg0 := (hZ hB ho).1
    unfold ya; rw [if_pos (aC hg0)]; intro K R hK; obtain ⟨s, hsl, hst, hV⟩ := inv.stage; have un' := getD_both un
    have free : ∀ t, qk l.toArray i t = true → a.eval (.tmp t) = a0.eval (.tmp t) := fun t hf => by
      refine inv.beside.same t fun j q hj hq hd => ?_
      simp only [qk, List.all_eq_true, List.mem_range] at hf
      have := hf j (Array.getElem?_eq_some_iff.1 hq).1; rw [hq] at this
      simp only [Bool.or_eq_true, bne_iff_ne, ne_eq, List.any_eq_true] at this
      rcases this with c | ⟨e, he, hb⟩
      · exact c hd
      · rw [Bool.and_eq_true, beq_iff_eq] at hb
        have := inv.shut j q hq hj e (Array.mem_toList_iff.1 he) hb.1; rw [hb.2, un'] at this; cases this
    have deps : ∀ e ∈ o.after, Region.binds .any e = true → V s e.on (At l.toArray a e.on) w := fun e he hb => hV e.on (waits e he hb); have hin : i < done.size := by rw [hsz]; exact (Array.getElem?_eq_some_iff.1 ho).1
    by_cases hc : i ∈ ch
    · obtain ⟨t, ht⟩ := List.mem_iff_getElem?.1 hc
      have hts : t = s := by
        have h1 : ¬ t < s := fun c => by have := (hst t i ht).2 c; rw [un'] at this; cases this
        have h2 : ¬ s < t := fun c => by
          obtain ⟨t', rfl⟩ : ∃ t', t = t' + 1 := ⟨t - 1, by omega⟩; have hl : t' + 1 < ch.length := (List.getElem?_eq_some_iff.1 ht).1; obtain ⟨o', ho', e, he, hb, eo⟩ := jR ch hC t' _ i (List.getElem?_eq_getElem (by omega)) ht; rw [ho] at ho'; cases ho'; have := waits e he hb; rw [eo] at this; have := (hst t' _ (List.getElem?_eq_getElem (by omega))).1 this
          omega
        omega
      subst hts; have hlt : t < ch.length := (List.getElem?_eq_some_iff.1 ht).1; obtain ⟨v, w', hr, hk, hv, hnn⟩ := step t i o ht ho a w inv.kept free deps; unfold Oper.wp; rw [hr]; refine hK v w' (put (s := t + 1) inv ho un waits hnn hk hlt (fun t2 q hq => ?_) hv (fun j hj => up _ _ _ _ _ (fun q hq => (hst q j hq).1 hj) (hV j hj)))
      by_cases c : q = i
      · subst c
        have := inj _ _ _ ht hq; subst this
        simp [Array.getD, hin]
      · rw [getD_set_ne false (fun e => c e.symm), hst t2 q hq]
        constructor
        · intro h; omega
        · intro h
          rcases Nat.lt_or_ge t2 t with d | d
          · exact d
          · have : t2 = t := by omega
            subst this; rw [hq] at ht; cases ht; exact absurd rfl c
    · obtain ⟨v, w', hr, hk, hv, hnn⟩ := arm i o ho hc s a w (fun t j q hj hq hb => by
        rcases Nat.lt_or_ge t s with c | c
        · have hd := (hst t j hj).2 c
          rw [List.any_eq_true] at hb; obtain ⟨e, he, hb⟩ := hb; rw [Bool.and_eq_true, beq_iff_eq] at hb; have := inv.shut j q hq hd e (Array.mem_toList_iff.1 he) hb.1; rw [hb.2, un'] at this; cases this
        · exact c) inv.kept free deps
      unfold Oper.wp; rw [hr]; refine hK v w' (put (s := s) inv ho un waits hnn (inv.kept.trans hk) hsl (fun t2 q hq => ?_) hv (fun j hj => stays _ _ _ _ _ (hV j hj) hk)); have : q ≠ i := fun c => hc (c ▸ List.mem_of_getElem? hq); rw [getD_set_ne false (fun e => this e.symm), hst t2 q hq]
  · have all : ∀ j, j < l.length → done.getD j false = true := fun j hj => hall j (by simpa using hj)
    obtain ⟨s, hsl, hst, hV⟩ := inv.stage
    have : s = ch.length := by
      rcases Nat.lt_or_ge s ch.length with c | c
      · have hi := jS ch hC ch[s] (List.getElem_mem c)
        have := (hst s ch[s] (List.getElem?_eq_getElem c)).1 (hall _ hi)
        omega
      · omega
    rw [this] at hV
    exact fin a w ⟨inv.beside.defers, inv.beside.size, fun t ht => inv.beside.same t fun j q hj hq hd => by
      have : lR l.toArray t = true := by
        unfold lR; rw [Array.any_eq_true']; exact ⟨q, Array.mem_of_getElem? hq, by rw [hd]; simp⟩
      rw [this] at ht; cases ht⟩ inv.kept (fun j hj => hV j (all j hj))
end
end

section
open Go.RowKit Lv
def Sc (w : World) (v : Value) (L : List Int) : Prop := (v = .slice none 0 0 ∧ L = []) ∨ ∃ g off c, v = .slice (some ⟨g, off, none⟩) L.length c ∧ g < w.heap.size ∧ ∀ j u, (L.map cj)[j]? = some u → w.cell? ⟨g, off + j, none⟩ = some u
theorem Sc.kept {w w' : World} {v : Value} {L : List Int} (h : Sc w v L) (k : Kept w w') : Sc w' v L := by
  rcases h with h | ⟨g, off, c, e, hg, hc⟩
  · exact Or.inl h
  · exact Or.inr ⟨g, off, c, e, Nat.lt_of_lt_of_le hg k.size, fun j u hu => (k.cell (p := ⟨g, _, none⟩) hg).trans (hc j u hu)⟩
def Em (w : World) (B : Nat) (v : Value) : Prop := ∃ g, v = .slice (some ⟨g, 0, none⟩) 0 0 ∧ B ≤ g ∧ w.heap[g]? = some (.cells #[] 2 (0, 0))
theorem Em.kept {w w' : World} {B : Nat} {v : Value} (h : Em w B v) (k : Kept w w') : Em w' B v := by
  obtain ⟨g, e, hB, hg⟩ := h; exact ⟨g, e, hB, (k.block g (Array.getElem?_eq_some_iff.1 hg).1).trans hg⟩
def On (w : World) (v : Value) (x : Int) : Prop := ∃ g, v = .slice (some ⟨g, 0, none⟩) 1 1 ∧ w.heap[g]? = some (.cells #[cj x] 2 (0, 0))
theorem On.kept {w w' : World} {v : Value} {x : Int} (h : On w v x) (k : Kept w w') : On w' v x := by
  obtain ⟨g, e, hg⟩ := h; exact ⟨g, e, (k.block g (Array.getElem?_eq_some_iff.1 hg).1).trans hg⟩
theorem On.sc {w : World} {v : Value} {x : Int} (h : On w v x) : Sc w v [x] := by
  obtain ⟨g, e, hg⟩ := h; refine Or.inr ⟨g, 0, 1, e, (Array.getElem?_eq_some_iff.1 hg).1, fun j u hu => ?_⟩
  match j, hu with
  | 0, hu =>
    simp at hu
    subst hu; exact cell_of_row w g 0 #[cj x] 2 (0, 0) hg
theorem OwnI.mono {w : World} {B B' : Nat} {v : Value} {L : List Int} (h : OwnI w B v L) (hB : B' ≤ B) : OwnI w B' v L := by
  refine ⟨h.1, ?_⟩; rcases h.2 with c | ⟨g, cap, cur, e, hb, r⟩
  · exact Or.inl c
  · exact Or.inr ⟨g, cap, cur, e, Nat.le_trans hB hb, r⟩
theorem OwnI.sc {w : World} {B : Nat} {v : Value} {L : List Int} (h : OwnI w B v L) : Sc w v L := by
  rcases h.2 with ⟨e, h0⟩ | ⟨g, cap, cur, e, hb, hh, r⟩
  · exact Or.inl ⟨e, List.eq_nil_of_length_eq_zero h0⟩
  · refine Or.inr ⟨g, 0, cap, e, (Array.getElem?_eq_some_iff.1 hh).1, fun j u hu => ?_⟩
    have := World.ownsRow.cells h (g := g) (by rw [e]; rfl) j u hu; rw [Go.WideShapes.add_plain] at this; exact this
section
variable {a : Act} {w : World} {o : Oper}
theorem FL {B : Nat} {u v : Value} {L M : List Int} (ty : TypeId) (hown : OwnI w B v L) (hsc : Sc w u M) (hl : L.length + M.length ≤ 2000000) (hB : B ≤ w.heap.size) : ∃ v' w', (Builtin.append_ #[54, 54] ty #[v, u]).run Tryz.prog w = .ok v' w' ∧ OwnI w' B v' (L ++ M) ∧ w.grownBy w' v.ownBlock := by
  obtain ⟨i, hi, hz, h1, h2⟩ := oS; rcases hsc with ⟨rfl, rfl⟩ | ⟨g, off, c, rfl, hg, hc⟩
  · refine ⟨v, w, run_append_owned_none (P := Tryz.prog) (w := w) B 54 ty 2 i 1 Tryz.underlying54 hi v L.length _ hown, by rw [List.append_nil]; exact hown, ⟨rfl, rfl, rfl, Nat.le_refl _, fun _ _ _ => rfl⟩⟩
  · obtain ⟨v', w', hr, ho, hgr, _⟩ := run_append_own (P := Tryz.prog) w B 54 ty 2 i (.int .i64 0) 1 8 Tryz.underlying54 hi hz h1 h2 rfl (by decide) v L.length _ hown ⟨g, off, none⟩ M.length c (M.map cj) (by simp) (fun j x hx => by rw [Go.WideShapes.add_plain]; exact hc j x hx) (fun x hx => by obtain ⟨y, _, rfl⟩ := List.mem_map.1 hx; rfl) (by simp only [maxLen]; omega) (by omega) hB
    refine ⟨v', w', hr, ?_, hgr⟩; unfold OwnI; rw [List.length_append, List.map_append]; exact ho
theorem CZ {B : Nat} {u v : Value} {M : List Int} (ty : TypeId) (hem : Em w B v) (hsc : Sc w u M) (hl : M.length ≤ 1000000) (hB : B ≤ w.heap.size) : ∃ v' w', (Builtin.append_ #[54, 54] ty #[v, u]).run Tryz.prog w = .ok v' w' ∧ OwnI w' B v' M ∧ Kept w w' := by
  obtain ⟨b, rfl, hb, hblk⟩ := hem; obtain ⟨i, hi, hz, h1, h2⟩ := oS; have hown : OwnI w B (.slice (some ⟨b, 0, none⟩) 0 0) [] := ⟨rfl, Or.inr ⟨b, 0, #[], rfl, hb, hblk, Nat.le_refl _, Nat.zero_le _, rfl, rfl⟩⟩
  by_cases h0 : M = []
  · subst h0
    rcases hsc with ⟨rfl, _⟩ | ⟨g, off, c, rfl, hg, hc⟩
    · exact ⟨_, w, run_append_owned_none (P := Tryz.prog) (w := w) B 54 ty 2 i 1 Tryz.underlying54 hi _ 0 [] hown, hown, Kept.refl _⟩
    · have hr := run_append_room (P := Tryz.prog) w 54 ty 2 i Tryz.underlying54 hi b 0 0 #[] hblk ⟨g, off, none⟩ 0 c [] (by simp) (fun j x hx => by simp at hx) (fun x hx => by simp at hx) (Nat.le_refl _) (by simp)
      have hs : (w.setRow b #[]).heap[b]? = some (.cells #[] 2 (0, 0)) := setRow_heap w b #[] #[] _ _ hblk; refine ⟨_, _, hr, ⟨rfl, Or.inr ⟨b, 0, #[], rfl, hb, by simpa using hs, Nat.le_refl _, Nat.zero_le _, rfl, rfl⟩⟩, ⟨rfl, rfl, rfl, by simp [World.setRow], fun k hk => ?_⟩⟩
      by_cases c : k = b
      · subst c
        rw [hblk]
        simpa using hs
      · exact setRow_other w b k _ c
  · have hm : 0 < M.length := List.length_pos_iff.2 h0
    rcases hsc with ⟨_, rfl⟩ | ⟨g, off, c, rfl, hg, hc⟩
    · exact absurd rfl h0
    · have hr := run_append_grow (P := Tryz.prog) w 54 ty 2 i (.int .i64 0) Tryz.underlying54 hi hz ⟨b, 0, none⟩ 0 0 [] (by simp) (fun j x hx => by simp at hx) ⟨g, off, none⟩ M.length c (M.map cj) (by simp [h1]) (fun j x hx => by rw [Go.WideShapes.add_plain]; exact hc j x hx) (by omega) (by omega) (growslice_fits (by omega) (by rw [h2]; omega))
      have hge := grownCap_ge w (0 + M.length) 0 2; have hcm : grownCap w (0 + M.length) 0 2 ≤ maxLen := grownCap_le_maxLen w _ 0 _ (by simp only [maxLen]; omega); refine ⟨_, _, hr, ⟨by simp, Or.inr ⟨w.heap.size, _, _, by rw [Nat.zero_add], hB, heap_alloc_new w.drew _, by omega, hcm, ?_, ?_⟩⟩, (Kept.refl w).drew.alloc _⟩
      · simp only [Array.size_append, List.size_toArray, size_zeroCells, List.length_nil, List.length_map, Nat.mul_one]
        show 0 + M.length + _ * 1 = _
        omega
      · simp only [Array.toList_append, List.nil_append, Nat.mul_one]
        exact List.take_left' (by simp)
theorem Jq {B : Nat} {u v : Value} {L M : List Int} {s x : Operand} (ho : o.op = .call { callee := .builtin .append, args := #[s, x], argTypes := #[54, 54] }) (hs : a.eval s = v) (hx : a.eval x = u) (hown : OwnI w B v L) (hsc : Sc w u M) (hl : L.length + M.length ≤ 2000000) (hB : B ≤ w.heap.size) : ∃ v' w', (execOp a.eval o).run Tryz.prog w = .ok (.value v') w' ∧ OwnI w' B v' (L ++ M) ∧ w.grownBy w' v.ownBlock := by
  obtain ⟨v', w', hrun, k1, k2⟩ := FL o.type hown hsc hl hB; refine ⟨v', w', ?_, k1, k2⟩; unfold execOp
  simp only [ho, resolve, invoke, builtin, Sem.run_bind, Sem.run_pure, Result.andThen_ok, List.map_toArray, List.map_cons, List.map_nil, hs, hx, hrun]
theorem IL {B : Nat} {u v : Value} {M : List Int} {s x : Operand} (ho : o.op = .call { callee := .builtin .append, args := #[s, x], argTypes := #[54, 54] }) (hs : a.eval s = v) (hx : a.eval x = u) (hem : Em w B v) (hsc : Sc w u M) (hl : M.length ≤ 1000000) (hB : B ≤ w.heap.size) : ∃ v' w', (execOp a.eval o).run Tryz.prog w = .ok (.value v') w' ∧ OwnI w' B v' M ∧ Kept w w' := by
  obtain ⟨v', w', hrun, k1, k2⟩ := CZ o.type hem hsc hl hB; refine ⟨v', w', ?_, k1, k2⟩; unfold execOp
  simp only [ho, resolve, invoke, builtin, Sem.run_bind, Sem.run_pure, Result.andThen_ok, List.map_toArray, List.map_cons, List.map_nil, hs, hx, hrun]
theorem Hp {w1 : World} {B k : Nat} {v : Value} {L : List Int} {x y : Operand} (ho : o.op = .slice 54 x none (some y) none) (hx : a.eval x = v) (hy : a.eval y = .int .i64 k) (hown : OwnI w1 B v L) (hk : k ≤ L.length) : ∃ v', (execOp a.eval o).run Tryz.prog w = .ok (.value v') w ∧ Sc w1 v' (L.take k) := by
  have hs : (sizeOf 2).run Tryz.prog w = .ok 1 w := by kernel_rfl
  rcases hown.2 with ⟨rfl, h0⟩ | ⟨g, cap, cur, rfl, hb, hh, hc, r⟩
  · have e : L = [] := List.eq_nil_of_length_eq_zero h0
    subst e; have hk0 : k = 0 := by simpa using hk
    subst hk0; exact ⟨_, tZ Tryz.underlying54 hs ho hx hy (Nat.le_refl _), Or.inl ⟨rfl, rfl⟩⟩
  · refine ⟨_, tZ Tryz.underlying54 hs ho hx hy (Nat.le_trans hk hc), ?_⟩
    rw [ss]; rcases hown.sc with ⟨e, _⟩ | ⟨g2, off, c, e, hg, hcl⟩
    · cases e
    · injection e with e1 e2 e3
      cases e1
      refine Or.inr ⟨g, 0, cap, by rw [List.length_take, Nat.min_eq_left hk], hg, fun j u hu => hcl j u ?_⟩; rw [List.map_take, List.getElem?_take] at hu
      split at hu
      · exact hu
      · cases hu
theorem C0 {w1 : World} {B k : Nat} {v : Value} {L : List Int} {x y : Operand} (ho : o.op = .slice 54 x (some y) none none) (hx : a.eval x = v) (hy : a.eval y = .int .i64 k) (hown : OwnI w1 B v L) (hk : k ≤ L.length) : ∃ v', (execOp a.eval o).run Tryz.prog w = .ok (.value v') w ∧ Sc w1 v' (L.drop k) := by
  have hz : (sizeOf 2).run Tryz.prog w = .ok 1 w := by kernel_rfl
  have hr := run_underlying (w := w) Tryz.underlying54; have c0 : (0 : Int) ≤ (k : Int) := by omega
  have c1 : (k : Int) ≤ (L.length : Int) := by omega
  rcases hown.2 with ⟨rfl, h0⟩ | ⟨g, cap, cur, rfl, hb, hh, hc, r⟩
  · have e : L = [] := List.eq_nil_of_length_eq_zero h0
    subst e; have hk0 : k = 0 := by simpa using hk
    subst hk0; refine ⟨.slice none 0 0, ?_, Or.inl ⟨rfl, rfl⟩⟩; unfold execOp; rw [ho]
    simp only [hx, hy, Option.map_some, Option.map_none]
    go_simp
  · have c2 : (L.length : Int) ≤ (cap : Int) := by omega
    rcases hown.sc with ⟨e, _⟩ | ⟨g2, off, c, e, hg, hcl⟩
    · cases e
    · injection e with e1 e2 e3
      cases e1
      by_cases hq : cap = k
      · subst hq
        have e : L.length = cap := by omega
        refine ⟨.slice (some ⟨g, 0, none⟩) (L.length - cap) (cap - cap), ?_, Or.inr ⟨g, 0, 0, by rw [List.length_drop, Nat.sub_self], hg, fun j u hu => ?_⟩⟩
        · unfold execOp
          rw [ho]
          simp only [hx, hy, Option.map_some, Option.map_none]
          go_simp
        · rw [List.drop_eq_nil_of_le (by omega)] at hu
          simp at hu
      · have c3 : ¬ cap - k = 0 := by omega
        have c4 : ¬ cap ≤ k := by omega
        refine ⟨.slice (some ⟨g, 0 + k, none⟩) (L.length - k) (cap - k), ?_, Or.inr ⟨g, 0 + k, cap - k, by rw [List.length_drop], hg, fun j u hu => ?_⟩⟩
        · unfold execOp
          rw [ho]
          simp only [hx, hy, Option.map_some, Option.map_none]
          go_simp
          try (intro c; omega)
        · rw [List.map_drop, List.getElem?_drop] at hu
          have := hcl (k + j) u hu; rw [show 0 + k + j = 0 + (k + j) by omega]; exact this
theorem Hs {w1 : World} {B k : Nat} {v : Value} {L : List Int} {x y : Operand} (ho : o.op = .slice 54 x none (some y) none) (hx : a.eval x = v) (hy : a.eval y = .int .i64 k) (hown : OwnI w1 B v L) (hk : k ≤ L.length) (hn : o.dst ≠ none) : ∃ v' w', (execOp a.eval o).run Tryz.prog w = .ok (.value v') w' ∧ Kept w w' ∧ Sc w1 v' (L.take k) ∧ o.dst ≠ none := by
  obtain ⟨v', h1, h2⟩ := Hp (w := w) ho hx hy hown hk; exact ⟨v', w, h1, Kept.refl _, h2, hn⟩
theorem C3 {w1 : World} {B k : Nat} {v : Value} {L : List Int} {x y : Operand} (ho : o.op = .slice 54 x (some y) none none) (hx : a.eval x = v) (hy : a.eval y = .int .i64 k) (hown : OwnI w1 B v L) (hk : k ≤ L.length) (hn : o.dst ≠ none) : ∃ v' w', (execOp a.eval o).run Tryz.prog w = .ok (.value v') w' ∧ Kept w w' ∧ Sc w1 v' (L.drop k) ∧ o.dst ≠ none := by
  obtain ⟨v', h1, h2⟩ := C0 (w := w) ho hx hy hown hk; exact ⟨v', w, h1, Kept.refl _, h2, hn⟩
theorem C4 {c : Prop} {B : Nat} {u v : Value} {M : List Int} {s x : Operand} (ho : o.op = .call { callee := .builtin .append, args := #[s, x], argTypes := #[54, 54] }) (hs : a.eval s = v) (hx : a.eval x = u) (hem : Em w B v) (hsc : Sc w u M) (hl : M.length ≤ 1000000) (hB : B ≤ w.heap.size) (hn : o.dst ≠ none) : ∃ v' w', (execOp a.eval o).run Tryz.prog w = .ok (.value v') w' ∧ Kept w w' ∧ (c → OwnI w' B v' M) ∧ o.dst ≠ none := by
  obtain ⟨v', w', h1, h2, h3⟩ := IL ho hs hx hem hsc hl hB; exact ⟨v', w', h1, h3, fun _ => h2, hn⟩
theorem vg {c : Prop} {w0 : World} {u v : Value} {L M : List Int} {s x : Operand} (hk : Kept w0 w) (ho : o.op = .call { callee := .builtin .append, args := #[s, x], argTypes := #[54, 54] }) (hs : a.eval s = v) (hx : a.eval x = u) (hown : OwnI w w0.heap.size v L) (hsc : Sc w u M) (hl : L.length + M.length ≤ 2000000) (hn : o.dst ≠ none) : ∃ v' w', (execOp a.eval o).run Tryz.prog w = .ok (.value v') w' ∧ Kept w0 w' ∧ (c → OwnI w' w0.heap.size v' (L ++ M)) ∧ o.dst ≠ none := by
  obtain ⟨v', w', h1, h2, h3⟩ := Jq ho hs hx hown hsc hl hk.size; exact ⟨v', w', h1, hown.grown (Nat.le_refl _) hk h3, fun _ => h2, hn⟩
end
end

section
open Go.RowKit Lv
set_option maxRecDepth 100000
theorem tw {V : Nat → Nat → Value → World → Prop} {ops : Array Oper} {o : Oper} {t : Nat} {a : Act} {w : World} (hd : ∀ e ∈ o.after, Region.binds .any e = true → V t e.on (At ops a e.on) w) (j : Nat) (ha : (o.after.toList.any fun e => Region.binds .any e && e.on == j) = true := by rfl) : V t j (At ops a j) w := by
  rw [List.any_eq_true] at ha; obtain ⟨e, he, hb⟩ := ha; rw [Bool.and_eq_true, beq_iff_eq] at hb; rw [← hb.2]; exact hd e (Array.mem_toList_iff.1 he) hb.1
def VS (w0 : World) (vo va : Value) (b0 o0 i k : Nat) (x : Int) (L : List Int) (t : Nat) : Nat → Value → World → Prop
  | 0, v, w => t = 0 → Em w w0.heap.size v
  | 1, v, _ => v = vo
  | 2, v, _ => v = .int .i64 (k : Int)
  | 3, v, _ => Sc w0 v (L.take k)
  | 4, v, w => t = 0 → OwnI w w0.heap.size v (L.take k)
  | 5, v, _ => v = va
  | 6, v, _ => v = .int .i64 (i : Int)
  | 7, v, _ => v = .pointer (some ⟨b0, o0 + i, none⟩)
  | 8, v, _ => v = cj x
  | 9, v, w => t = 0 → On w v x
  | 10, v, w => t = 1 → OwnI w w0.heap.size v (L.take k ++ [x])
  | 11, v, _ => v = vo
  | 12, v, _ => v = .int .i64 (k : Int)
  | 13, v, _ => Sc w0 v (L.drop k)
  | 14, v, w => t = 2 → OwnI w w0.heap.size v (L.take k ++ [x] ++ L.drop k)
  | 15, v, w => t = 3 → OwnI w w0.heap.size v (L.take k ++ [x] ++ L.drop k)
  | _, _, _ => True
theorem C5 (w0 : World) (vo va : Value) (b0 o0 i k : Nat) (x : Int) (L : List Int) : ∀ t j v w w', VS w0 vo va b0 o0 i k x L t j v w → Kept w w' → VS w0 vo va b0 o0 i k x L t j v w' := fun t j v w w' h q => by
  unfold VS at h ⊢
  split at h <;> first | exact fun e => (h e).kept q | exact h
theorem IM (w0 : World) (vo va : Value) (b0 o0 i k : Nat) (x : Int) (L : List Int) : ∀ t j v w w', (∀ s, [10, 14, 15][s]? = some j → s < t) → VS w0 vo va b0 o0 i k x L t j v w → VS w0 vo va b0 o0 i k x L (t + 1) j v w' := fun t j v w w' hs h => by
  unfold VS at h ⊢
  split at h
  all_goals first
    | exact h
    | exact fun e => absurd e (by omega)
    | exact fun e => absurd e (by have := hs 0 rfl; omega)
    | exact fun e => absurd e (by have := hs 1 rfl; omega)
    | exact fun e => absurd e (by have := hs 2 rfl; omega)
theorem Ht {w : World} {A : Option Addr} {l : List Int} (h : Row w A l) (k : Nat) : ∃ b o, k < l.length → A = some ⟨b, o, none⟩ := by
  by_cases c : k < l.length
  · obtain ⟨b, o, e, _⟩ := h k c
    exact ⟨b, o, fun _ => e⟩
  · exact ⟨0, 0, fun z => absurd z c⟩
theorem xc {w0 w : World} {v : Value} {L : List Int} (h : Own w0 [] w) (ho : OwnI w w0.heap.size v L) : Own w0 [Th.row w0.heap.size 2 1 v L.length (L.map cj)] w :=
  h.consT (t := Th.row w0.heap.size 2 1 v L.length (L.map cj)) ho (fun g e => (World.ownsRow.lt ho g e).1) (fun s hs => by cases hs)
theorem Hu {L : List Int} {k : Nat} {x : Int} (h : ∀ j, j < k → L.getD j 0 ≤ x) (c : L.getD k 0 ≤ x) : ∀ j, j < k + 1 → L.getD j 0 ≤ x := fun j hj => by
  rcases Nat.lt_or_ge j k with d | d
  · exact h j d
  · have : j = k := by omega
    subst this; exact c
theorem C6 {l L : List Int} {i k : Nat} (hL : L = ar (l.take i)) (hi : i < l.length) (hup : ∀ j, j < k → L.getD j 0 ≤ l.getD i 0) (hk : k ≤ L.length) (hst : ¬ (((k : Int) < ((L.length : Nat) : Int)) ∧ (L.getD k 0 ≤ l.getD i 0))) : L.take k ++ [l.getD i 0] ++ L.drop k = ar (l.take (i + 1)) := by
  have e : l.take (i + 1) = l.take i ++ [l.getD i 0] := by
    rw [List.take_succ_eq_append_getElem hi, show l.getD i 0 = l[i] by simp [List.getD, hi]]
  rw [e, List.append_assoc, List.singleton_append, hL]; have s := sM (l.take i); rw [← hL] at s ⊢; rw [hL]; refine sO (fun y hy => ?_) (fun y hy => ?_)
  · rw [← hL] at hy
    obtain ⟨j, hj, e⟩ := List.getElem_of_mem hy; rw [List.length_take] at hj; have := hup j (by omega); rw [List.getElem_take] at e; rw [show L.getD j 0 = L[j]'(by omega) by simp [List.getD, show j < L.length by omega]] at this
    omega
  · rw [← hL] at hy
    obtain ⟨j, hj, e⟩ := List.getElem_of_mem hy; rw [List.length_drop] at hj; rw [List.getElem_drop] at e; have h1 : ¬ L.getD k 0 ≤ l.getD i 0 := fun c => hst ⟨by omega, c⟩; have hkl : k < L.length := by omega
    rw [show L.getD k 0 = L[k] by simp [List.getD, hkl]] at h1
    have h2 : L[k] ≤ L[k + j]'(by omega) := by
      rcases Nat.eq_zero_or_pos j with c | c
      · subst c; exact Int.le_refl _
      · exact List.pairwise_iff_getElem.1 s k (k + j) hkl (by omega) (by omega)
    omega
theorem C7 {l L : List Int} {i : Nat} (hL : L = ar (l.take i)) (h : l.length ≤ i) : ar l = L := by rw [hL, List.take_of_length_le h]
theorem mN (A : Option Addr) (cap : Nat) (l : List Int) (w : World) (hr : Row w A l) (hl : l.length ≤ 1000000) :
    Calls Tryz.prog 113 #[.slice A l.length cap] w fun e w' => ∃ v, e = .returned v ∧ Kept w w' ∧ OwnI w' w.heap.size v (ar l) := by
  go_enter Tryz.func113, Tryz.ntmps113; refine z00 45 [(0, .slice A l.length cap)] ?_; intro _ s; refine zr s 1 (zP Z0) ?_; intro _ fw s; refine zr s 1 (zP Z0) ?_; intro _ fw s; refine sq fun hK1 => ?_; refine zr s 1 (zP Z0) ?_; intro _ fw s; refine wp_block ?_; refine aP (fun (i : Nat) fr u => ∃ (vo : Value), ∃ (L : List Int), (i ≤ l.length) ∧ (L = ar (l.take i)) ∧ Sg 45 w [Th.row w.heap.size 2 1 vo L.length (L.map cj)] [(0, .slice A l.length cap), (2, .slice none 0 0), (3, vo), (4, .int .i64 (i : Int))] fr u) (fun i => l.length - i) 0 ⟨(.slice none 0 0), [], (Nat.zero_le _), (by rw [List.take_zero, B7]), (s.ow (s.o.nil 2 1)).c⟩ (fun i b_ u_ hI => ?_)
  revert b_ u_; intro fa fw hI
  obtain ⟨vo, L, hi0, hL, s⟩ := hI; refine sq fun hK2 => ?_; refine zr s 4 (zP (zN (zP (zP Z0)))) ?_; intro _ fw s; refine zi_ s ?_ ?_
  ·intro hc1
   refine wp_skip ?_; refine tn hK2 ?_; refine sq fun hK3 => ?_; refine wp_block ?_; have hlti : i < l.length := by omega
   obtain ⟨b0, o0, hA0, _⟩ := hr i hlti; obtain ⟨LA, lc, rfl⟩ := bV (s.o.row 0 rfl); refine zr s 1 (zP Z0) ?_; intro _ fw s; refine sq fun hK4 => ?_; refine wp_block ?_; refine aP (fun (k : Nat) fr u => (k ≤ L.length) ∧ (∀ j, j < k → L.getD j 0 ≤ l.getD i 0) ∧ Sg 45 w [Th.row w.heap.size 2 1 (.slice LA L.length lc) L.length (L.map cj)] [(0, .slice A l.length cap), (2, .slice none 0 0), (3, .slice LA L.length lc), (4, .int .i64 (i : Int)), (5, .int .i64 (k : Int))] fr u) (fun k => L.length - k) 0 ⟨(Nat.zero_le _), (fun j hj => absurd hj (Nat.not_lt_zero j)), s.c⟩ (fun k b_ u_ hI => ?_)
   revert b_ u_; intro fa fw hI
   obtain ⟨hk0, hup, s⟩ := hI; refine sq fun hK5 => ?_; have hrw := mD (s.o.row 0 rfl) rfl; obtain ⟨gb, go, hLA⟩ := Ht hrw.1 k; have hLl : L.length ≤ 1000000 := by rw [hL, aq, List.length_take]; omega
   refine zr s 15 (zO (zPi (zI (zI (zPi (zPi (zI (zI (zPi (zPi (zP (zP (zN (zP (zP Z0))))))) (v := .pointer (some ⟨gb, go + k, none⟩)) (run := by exact fun cc hz => cO (k := k) rfl (hLA (by have := of_decide_eq_true hz; omega)) (cc.f hz) (cc.f hz) (by have := of_decide_eq_true hz; omega))) (v := .int .i64 (L.getD k 0)) (run := by exact fun cc hz => mt rfl (by kernel_rfl) (cc.f hz) (Row.kept16 hrw.1 cc.k) (hLA (by have := of_decide_eq_true hz; omega)) (by have := of_decide_eq_true hz; omega))))) (v := .pointer (some ⟨b0, o0 + i, none⟩)) (run := by exact fun cc hz => cO (k := i) rfl hA0 (cc.f hz) (cc.f hz) hlti)) (v := .int .i64 (l.getD i 0)) (run := by exact fun cc hz => mt rfl (by kernel_rfl) (cc.f hz) (Row.kept16 hr cc.ow.kept) hA0 hlti))) fun cc => gm rfl cc.e (fun hb => cc.f hb) rfl) ?_; intro _ fw s; refine zb s (pE (decide_eq_true_iff) (decide_eq_true_iff)) ?_ ?_
   ·intro hc2
    have hin := hc2; have hltk : k < L.length := by omega
    refine wp_skip ?_; refine tn hK5 ?_; refine wp_block ?_; refine zu s 2 (by exact zAn (zP Z0) k 1) ?_; intro _ fw s; refine zw s ?_; intro _ fw s; refine aN ?_; refine aB ?_; exact bg ⟨(k + 1), ⟨hltk, (Hu hup hin.2), s.c⟩, (show L.length - (k + 1) < L.length - k by omega)⟩
   intro hc2; have hst := hc2; refine wp_exit ?_; refine aM ?_; refine aM ?_; refine aD ?_; refine tn hK4 ?_; obtain ⟨w8, rfl⟩ : ∃ z, z = fw := ⟨_, rfl⟩; have hown8 : OwnI w8 w.heap.size (.slice LA L.length lc) L := s.o.row 0 rfl; have hLl : L.length ≤ 1000000 := by rw [hL, aq, List.length_take]; omega
   refine wZ [10, 14, 15] (VS w8 (.slice LA L.length lc) (.slice A l.length cap) b0 o0 i k (l.getD i 0) L) 45 jv s.z (by kernel_rfl) (by kernel_rfl) (C5 _ _ _ _ _ _ _ _ _) (IM _ _ _ _ _ _ _ _ _) (fun j o ho hn t aa ww ht hk bs hd => ?_) (fun t j o ht ho aa ww hk bs hd => ?_) (fun fa fw bs hk hv => ?_)
   ·match j, ho, hn with
     | 0, ho, hn =>
       cases ho
       exact ⟨_, _, eR (us := #[]) (b := .cells #[] 2 (0, 0)) rfl (by simp) (by kernel_rfl), (Kept.refl _).alloc _, fun _ => ⟨ww.heap.size, rfl, hk.size, Go.heap_alloc_new _ _⟩, fun h => by cases h⟩
     | 1, ho, hn =>
       cases ho
       exact ⟨_, _, fs rfl ((bs 3 rfl).trans (s.g 3)), Kept.refl _, rfl, fun h => by cases h⟩
     | 2, ho, hn =>
       cases ho
       exact ⟨_, _, fs rfl ((bs 5 rfl).trans (s.g 5)), Kept.refl _, rfl, fun h => by cases h⟩
     | 3, ho, hn =>
       cases ho
       exact Hs rfl (show aa.eval (.tmp 30) = _ from tw hd 1) (show aa.eval (.tmp 31) = .int .i64 (k : Int) from tw hd 2) hown8 hk0 (fun h => by cases h)
     | 4, ho, hn =>
       cases ho
       have ht0 : t = 0 := by have := ht 0 10 _ rfl rfl rfl; omega
       exact C4 rfl rfl rfl ((tw hd 0) ht0) (Sc.kept (show Sc w8 (aa.eval (.tmp 32)) (L.take k) from tw hd 3) hk) (by rw [List.length_take]; omega) hk.size (fun h => by cases h)
     | 5, ho, hn =>
       cases ho
       exact ⟨_, _, fs rfl ((bs 0 rfl).trans (s.g 0)), Kept.refl _, rfl, fun h => by cases h⟩
     | 6, ho, hn =>
       cases ho
       exact ⟨_, _, fs rfl ((bs 4 rfl).trans (s.g 4)), Kept.refl _, rfl, fun h => by cases h⟩
     | 7, ho, hn =>
       cases ho
       exact ⟨_, _, cO (k := i) rfl hA0 (show aa.eval (.tmp 34) = _ from tw hd 5) (show aa.eval (.tmp 35) = .int .i64 (i : Int) from tw hd 6) hlti, Kept.refl _, rfl, fun h => by cases h⟩
     | 8, ho, hn =>
       cases ho
       exact ⟨_, _, mt rfl (by kernel_rfl) (show aa.eval (.tmp 36) = _ from tw hd 7) (Row.kept16 hr (s.o.kept.trans hk)) hA0 hlti, Kept.refl _, rfl, fun h => by cases h⟩
     | 9, ho, hn =>
       cases ho
       exact ⟨_, _, qs (b := .cells #[cj (l.getD i 0)] 2 (0, 0)) rfl (show aa.eval (.tmp 37) = _ from tw hd 8) (by kernel_rfl), (Kept.refl _).alloc _, fun _ => ⟨ww.heap.size, rfl, Go.heap_alloc_new _ _⟩, fun h => by cases h⟩
     | 11, ho, hn =>
       cases ho
       exact ⟨_, _, fs rfl ((bs 3 rfl).trans (s.g 3)), Kept.refl _, rfl, fun h => by cases h⟩
     | 12, ho, hn =>
       cases ho
       exact ⟨_, _, fs rfl ((bs 5 rfl).trans (s.g 5)), Kept.refl _, rfl, fun h => by cases h⟩
     | 13, ho, hn =>
       cases ho
       exact C3 rfl (show aa.eval (.tmp 40) = _ from tw hd 11) (show aa.eval (.tmp 41) = .int .i64 (k : Int) from tw hd 12) hown8 hk0 (fun h => by cases h)
     | 10, ho, hn => exact absurd (by decide) hn
     | 14, ho, hn => exact absurd (by decide) hn
     | 15, ho, hn => exact absurd (by decide) hn
     | j + 16, ho, hn => exact absurd ho (by simp)
   ·match t, ht with
     | 0, ht =>
       cases ht; cases ho
       exact vg hk rfl rfl rfl (show OwnI ww w8.heap.size (aa.eval (.tmp 33)) (L.take k) from (tw hd 4) rfl) (On.sc (x := l.getD i 0) (show On ww (aa.eval (.tmp 38)) (l.getD i 0) from (tw hd 9) rfl)) (by rw [List.length_take]; simp only [List.length_singleton]; omega) (fun h => by cases h)
     | 1, ht =>
       cases ht; cases ho
       exact vg hk rfl rfl rfl (show OwnI ww w8.heap.size (aa.eval (.tmp 39)) (L.take k ++ [l.getD i 0]) from (tw hd 10) rfl) (Sc.kept (show Sc w8 (aa.eval (.tmp 42)) (L.drop k) from tw hd 13) hk) (by rw [List.length_append, List.length_take, List.length_drop, List.length_singleton]; omega) (fun h => by cases h)
     | 2, ht =>
       cases ht; cases ho
       exact ⟨_, _, iR rfl rfl, hk, fun _ => (show OwnI ww w8.heap.size (aa.eval (.tmp 43)) (L.take k ++ [l.getD i 0] ++ L.drop k) from (tw hd 14) rfl), fun h => by cases h⟩
     | t + 3, ht => exact absurd ht (by simp)
   have hO : OwnI fw w8.heap.size (fa.eval (.tmp 3)) (L.take k ++ [l.getD i 0] ++ L.drop k) := hv 15 (by decide) rfl; have z := bs.size.trans s.z; have q := bs.defers.trans s.q; have s0 := (bs.same 0 (by kernel_rfl)).trans (s.g 0); have s2 := (bs.same 2 (by kernel_rfl)).trans (s.g 2); have s4 := (bs.same 4 (by kernel_rfl)).trans (s.g 4); have s12 := (bs.same 12 (by kernel_rfl)).trans (s.g 12); have s13 := (bs.same 13 (by kernel_rfl)).trans (s.g 13); have s14 := (bs.same 14 (by kernel_rfl)).trans (s.g 14); have s15 := (bs.same 15 (by kernel_rfl)).trans (s.g 15); have s16 := (bs.same 16 (by kernel_rfl)).trans (s.g 16); have s26 := (bs.same 26 (by kernel_rfl)).trans (s.g 26); obtain ⟨v8, s3⟩ : ∃ v, fa.eval (.tmp 3) = v := ⟨_, rfl⟩; rw [s3] at hO; have ow := xc (s.o.tail.keep hk) (hO.mono s.o.kept.size); rw [C6 hL hlti hup hk0 hst] at ow; clear hv hO bs; refine aB ?_; refine tn hK3 ?_; have s := ((((((((((ix z q ow).i (t := 0) (v := .slice A l.length cap) s0).i (t := 2) (v := .slice none 0 0) s2).i (t := 4) (v := .int .i64 (i : Int)) s4).i (t := 12) (v := .int .i64 (k : Int)) s12).i (t := 13) (v := .slice LA L.length lc) s13).i (t := 14) (v := .int .i64 ((L.length : Nat) : Int)) s14).i (t := 15) (v := .bool (decide ((k : Int) < ((L.length : Nat) : Int)))) s15).i (t := 16) (v := .bool (decide ((k : Int) < ((L.length : Nat) : Int)))) s16).i (t := 26) (v := .bool ((decide ((k : Int) < ((L.length : Nat) : Int))) && (decide ((L.getD k 0 : Int) ≤ (l.getD i 0 : Int))))) s26).i (t := 3) (v := v8) s3
   refine zu s 2 (by exact zAn (zP Z0) i 1) ?_; intro _ fw s; refine zw s ?_; intro _ fw s; refine aN ?_; exact bg ⟨(i + 1), ⟨v8, (ar (l.take (i + 1))), hlti, rfl, s.c⟩, (show l.length - (i + 1) < l.length - i by omega)⟩
  intro hc1; refine wp_exit ?_; refine aM ?_; refine aM ?_; refine aD ?_; refine tn hK1 ?_; refine zr s 2 (zP (zP Z0)) ?_; intro _ fw s; refine wp_ret ?_; refine z1 s ?_; exact ⟨_, rfl, s.o.kept, by rw [C7 hL (by omega)]; exact s.o.row 0 rfl⟩
end

section
open Go.RowKit Lv
theorem nY {P : Program} {f : FuncId} {args : Array Value} {w : World} {v : Value} (h : Calls P f args w fun e w' => e = .returned v ∧ w = w') : Calls P f args w fun e w' => e = .returned v ∧ w' = w := h.mono fun _ _ ⟨he, hw⟩ => ⟨he, hw.symm⟩
