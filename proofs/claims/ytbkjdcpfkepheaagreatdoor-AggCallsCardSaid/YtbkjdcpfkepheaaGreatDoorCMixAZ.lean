/- Small texts together: GAgg4, GAgg9. -/
import Derived.Test.YtbkjdcpfkepheaaGreatDoorCMixAS
import Derived.Test.YtbkjdcpfkepheaaGreatDoorCMixAP
import Derived.Test.YtbkjdcpfkepheaaGreatDoorCMixAY
set_option linter.unusedVariables false
set_option linter.unusedSimpArgs false
set_option maxHeartbeats 4000000
namespace Go.Proofs.YtbkjdcpfkepheaaGreatDoor
section
open Go.RowKit Lv
set_option maxRecDepth 100000
theorem Own.take {w0 w : World} {H : List Th} (h : Own w0 H w) (n : Nat) : Own w0 (H.take n) w := ⟨h.kept, fun s hs => h.has s (List.mem_of_mem_take hs), fun s hs => h.old s (List.mem_of_mem_take hs), h.apart.sublist (List.take_sublist _ _)⟩
theorem gg (a : Ar) (h : a.l.length ≤ 1000000) : (ai a).2.length ≤ 1000000 := by
  unfold ai
  split
  · exact h
  · show List.length (if a.v.k = 0 then [] else [_]) ≤ _
    split <;> simp
def mE (fn : Nat) (c : Cl) : Bool := decide (fn = 12) || (decide (fn ≠ 13) && decide (c.v.k = 1))
theorem uU {fn : Nat} {c : Cl} (h : ((fn : Int) = (12 : Int)) ∨ (((fn : Int) ≠ (13 : Int)) ∧ ((c.v.k : Int) = (1 : Int)))) : mE fn c = true := by
  unfold mE
  simp only [Bool.or_eq_true, Bool.and_eq_true, decide_eq_true_eq]
  omega
theorem Af {fn : Nat} {c : Cl} (h : ¬ (((fn : Int) = (12 : Int)) ∨ (((fn : Int) ≠ (13 : Int)) ∧ ((c.v.k : Int) = (1 : Int))))) : mE fn c = false := by
  rw [← Bool.not_eq_true]; unfold mE
  simp only [Bool.or_eq_true, Bool.and_eq_true, decide_eq_true_eq]
  omega
theorem Ag (l : List Cl) : l.filter (mE 13) = [] := by
  rw [List.filter_eq_nil_iff]; intro c _; unfold mE
  simp
theorem nV (fn : Nat) (l : List Ar) (a : Ar) : bS fn (l ++ [a]) = bS fn l + bS fn [a] := by
  unfold bS
  simp
theorem mF {fn : Nat} {l : List Ar} {k : Nat} {a : Ar} {n m : Int} (ha : l[k]? = some a) (hf : (fn : Int) = (13 : Int)) (hn : n = bS fn (l.take k)) (hm : m = n + (((ai a).2.filter (mE fn)).length : Int)) : m + (aJ (ai a).1 - ((ai a).2.length : Int)) = bS fn (l.take (k + 1)) := by
  have e : fn = 13 := by omega
  subst e; rw [fu ha, nV, hm, hn, Ag]; unfold bS
  simp
theorem mG {fn : Nat} {l : List Ar} {k : Nat} {a : Ar} {n m : Int} (ha : l[k]? = some a) (hf : ¬ ((fn : Int) = (13 : Int))) (hn : n = bS fn (l.take k)) (hm : m = n + (((ai a).2.filter (mE fn)).length : Int)) : m = bS fn (l.take (k + 1)) := by
  have e : fn ≠ 13 := by omega
  rw [fu ha, nV, hm, hn]; unfold bS
  simp only [List.map_cons, List.map_nil, List.sum_cons, List.sum_nil, if_neg e]
  have : (mE fn) = fun c : Cl => decide (fn = 12 ∨ c.v.k = 1) := by
    funext c
    unfold mE; rw [decide_eq_true (p := fn ≠ 13) e, Bool.true_and, Bool.decide_or]
  rw [this]
  omega
theorem eT : En 66 := by intro args w; go_simp
theorem ik (fn : Nat) (A : Option Addr) (cap : Nat) (l : List Ar) (w : World) (hr : ArgsAt w A l) (hl : ∀ a ∈ l, a.l.length ≤ 1000000) (hc : l.length ≤ 1000) :
    Calls Tryz.prog 69 #[.int .u8 fn, .slice A l.length cap] w fun e w' => e = .returned (ae (ay (bS fn l * 10000))) ∧ Kept w w' := by
  go_enter Tryz.func69, Tryz.ntmps69; refine z00 54 [(0, .int .u8 (fn : Int)), (1, .slice A l.length cap)] ?_; intro _ s; refine zr s 1 (zV Z0 oZ) ?_; intro gb1 _ fw s; refine zr s 1 (zP Z0) ?_; intro _ fw s; refine sq fun hK1 => ?_; refine zr s 3 (zP (zN (zP Z0))) ?_; intro _ fw s; refine wp_block ?_; refine aP (fun (k : Nat) fr u => ∃ (n : Int), (k ≤ l.length) ∧ (n = bS fn (l.take k)) ∧ (-1000000 * (k : Int) ≤ n ∧ n ≤ 1048576 * (k : Int)) ∧ Sg 54 w [Th.obj gb1 oZ] [(0, .int .u8 (fn : Int)), (4, .pointer (some ⟨gb1, 0, none⟩)), (5, .int .i64 n), (11, .slice A l.length cap), (12, .int .i64 ((l.length : Nat) : Int)), (13, .int .i64 (k : Int))] fr u) (fun k => l.length - k) 0 ⟨0, (Nat.zero_le _), rfl, ⟨by omega, by omega⟩, s.c⟩ (fun k b_ u_ hI => ?_)
  revert b_ u_; intro fa fw hI
  obtain ⟨n, hk0, hn, hnb, s⟩ := hI; refine zr s 1 (zP Z0) ?_; intro _ fw s; refine sq fun hK2 => ?_; refine zi_ s ?_ ?_
  ·intro hc1
   refine wp_skip ?_; refine tn hK2 ?_; refine sq fun hK3 => ?_; refine wp_block ?_; have hltk : k < l.length := by omega
   obtain ⟨a, ha⟩ := bI hltk; obtain ⟨ba, oa, A1, c1, Aa, ea, r1, l1⟩ := hr.elem ha; have la := gg a (hl a (List.mem_of_getElem? ha)); refine zt_ s 3 (zV (zO (zO Z0 fun cc => al 9 Tryz.underlying22 (by kernel_rfl) rfl Aa cc.e cc.e hltk) (v := aA a (.slice A1 a.l.length c1)) fun cc => bf (n := 9) 0 rfl (by kernel_rfl) (by kernel_rfl) cc.e rfl (ea.kept cc.ow.kept)) (.cells #[.bool false, .int .u8 0, .int .i64 0, .string ⟨[].toArray⟩, .int .i64 0, .int .i64 0, .int .i64 0, .int .i64 0, .slice none 0 0] 39 (0, 0))) ?_; intro gb2 _ fw s K4 hK4; refine zS s 0 ?_; intro fw s; refine wt hK4 ?_; refine zt_ s 1 (zA Z0 (aA a (.slice A1 a.l.length c1)) 9 0) ?_; intro _ fw s K5 hK5; refine aU (aC rfl) (bZ (u := aA a (.slice A1 a.l.length c1)) rfl (s.g 17) (eT _ _)) ((qD a _ _ _ l1).mono ?_); rintro _ fw ⟨T, A2, c2, rfl, hT, hc2, hR⟩; refine ⟨_, rfl, ?_⟩; rcases hT with hT
   have ow := Own.both s.o hT; have ow : Own w ((Th.obj gb2 (.cells #[.bool a.w, .int .u8 a.v.k, .int .i64 a.v.n, .string ⟨a.v.t.toArray⟩, .int .i64 a.x.c1, .int .i64 a.x.r1, .int .i64 a.x.c2, .int .i64 a.x.r2, .slice A1 a.l.length c1] 39 (0, 0))) :: (Th.obj gb1 oZ) :: T) fw := ow; refine zg (s.ow ow) ?_; intro _ fw s; refine ct s.o (aC rfl) (dv (b := .cells #[.int .i64 0, .int .i64 0, .int .i64 0, .int .i64 0, .slice none 0 0] 37 (0, 0)) rfl (by kernel_rfl)) fun gb3 fw ow => ?_; refine zg (s.ow ow) ?_; intro _ fw s; refine zS s 0 ?_; intro fw s; refine wt hK5 ?_; refine sq fun hK6 => ?_; refine zr s 4 (zP (zN (zL (zF Z0 4) 0))) ?_; intro _ fw s; refine wp_block ?_; refine aP (fun (j : Nat) fr u => ∃ (m : Int), (j ≤ (ai a).2.length) ∧ (m = n + ((((ai a).2.take j).filter (mE fn)).length : Int)) ∧ Sg 54 w ((Th.obj gb3 (.cells #[.int .i64 (((ai a).1).c1), .int .i64 (((ai a).1).r1), .int .i64 (((ai a).1).c2), .int .i64 (((ai a).1).r2), .slice A2 ((ai a).2.length) c2] 37 (0, 0))) :: (Th.obj gb2 (.cells #[.bool a.w, .int .u8 a.v.k, .int .i64 a.v.n, .string ⟨a.v.t.toArray⟩, .int .i64 a.x.c1, .int .i64 a.x.r1, .int .i64 a.x.c2, .int .i64 a.x.r2, .slice A1 a.l.length c1] 39 (0, 0))) :: (Th.obj gb1 oZ) :: T) [(0, .int .u8 (fn : Int)), (4, .pointer (some ⟨gb1, 0, none⟩)), (5, .int .i64 m), (11, .slice A l.length cap), (12, .int .i64 ((l.length : Nat) : Int)), (13, .int .i64 (k : Int)), (8, .pointer (some ⟨gb3, 0, none⟩)), (20, .slice A2 ((ai a).2.length) c2), (21, .int .i64 (((ai a).2.length : Nat) : Int)), (22, .int .i64 (j : Int))] fr u) (fun j => (ai a).2.length - j) 0 ⟨n, (Nat.zero_le _), (by simp), s.c⟩ (fun j b_ u_ hI => ?_)
   revert b_ u_; intro fa fw hI
   obtain ⟨m, hj0, hm, s⟩ := hI; refine zr s 1 (zP Z0) ?_; intro _ fw s; refine sq fun hK7 => ?_; refine zi_ s ?_ ?_
   ·intro hc2
    refine wp_skip ?_; refine tn hK7 ?_; refine sq fun hK8 => ?_; refine wp_block ?_; have hr2 := hR _ _ (r1.kept s.o.kept) s.o.tail.tail.tail; have hltj : j < (ai a).2.length := by omega
    obtain ⟨cl, hcl⟩ := bI hltj; obtain ⟨bcl, ocl, Acl, ecl⟩ := hr2.elem hcl; refine zt_ s 3 (zV (zO (zO Z0 fun cc => al 5 Tryz.underlying35 (by kernel_rfl) rfl Acl cc.e cc.e hltj) (v := .agg #[.int .i64 cl.c, .int .i64 cl.r, .int .u8 cl.v.k, .int .i64 cl.v.n, .string ⟨cl.v.t.toArray⟩]) fun cc => bf (n := 5) 0 rfl (by kernel_rfl) (by kernel_rfl) cc.e rfl (ecl.kept cc.k)) (.cells #[.int .i64 0, .int .i64 0, .int .u8 0, .int .i64 0, .string ⟨[].toArray⟩] 46 (0, 0))) ?_; intro gb4 _ fw s K9 hK9; refine zS s 0 ?_; intro fw s; refine wt hK9 ?_; refine zr s 12 (zO (zI (zPi (zLi (zFi (zFi (zPi (zPi (zPi (zP (zP (zP Z0)))))) 2) 2) 0)) (v := .bool ((decide ((fn : Int) ≠ (13 : Int))) && (decide ((cl.v.k : Int) = (1 : Int))))) (run := by exact fun cc hz => gm rfl (cc.f hz) (fun hb => cc.f (And.intro hz hb)) rfl)) fun cc => gA rfl cc.e rfl (fun hb => cc.f hb)) ?_; intro _ fw s; refine zb s (bor (decide_eq_true_iff) (pE (decide_eq_true_iff) (decide_eq_true_iff))) ?_ ?_
    ·intro hc3
     have hcp : mE fn cl = true := uU hc3; have fb := dU (ai a).2 j (mE fn); refine zu s 2 (by exact zAd (zP Z0)) ?_; intro _ fw s; refine zw s ?_; intro _ fw s; refine aN ?_; refine aB ?_; refine tn hK8 ?_; refine zu s 1 (by exact zAn Z0 j 1) ?_; intro _ fw s; refine zw s ?_; intro _ fw s; refine aN ?_; exact bg ⟨(j + 1), ⟨(m + 1), hltj, (oL hm hcl hcp), (s.ow s.o.tail).c⟩, (show (ai a).2.length - (j + 1) < (ai a).2.length - j by omega)⟩
    intro hc3; have hcp : mE fn cl = false := Af hc3; refine wp_skip ?_; refine aB ?_; refine tn hK8 ?_; refine zu s 1 (by exact zAn Z0 j 1) ?_; intro _ fw s; refine zw s ?_; intro _ fw s; refine aN ?_; exact bg ⟨(j + 1), ⟨m, hltj, (ur hm hcl hcp), (s.ow s.o.tail).c⟩, (show (ai a).2.length - (j + 1) < (ai a).2.length - j by omega)⟩
   intro hc2; refine wp_exit ?_; refine aM ?_; refine aM ?_; refine aD ?_; refine tn hK6 ?_; refine zr s 2 (zP (zP Z0)) ?_; intro _ fw s; refine zi_ s ?_ ?_
   ·intro hc4
    have hfn := hc4; have fb := dU (ai a).2 j (mE fn); have sz := iV (x := (ai a).1); refine zu s 8 (by exact zAd (zSb (zN (zL (zF (zC (zA (zP Z0) (.agg #[.int .i64 (((ai a).1).c1), .int .i64 (((ai a).1).r1), .int .i64 (((ai a).1).c2), .int .i64 (((ai a).1).r2), .slice A2 ((ai a).2.length) c2]) 5 0) fun cc => mj ((ai a).1) _ _ _ _) 4) 0)))) ?_; intro _ fw s; refine zw s ?_; intro _ fw s; refine aN ?_; refine aB ?_; refine tn hK3 ?_; refine zu s 1 (by exact zAn Z0 k 1) ?_; intro _ fw s; refine zw s ?_; intro _ fw s; refine aN ?_; exact bg ⟨(k + 1), ⟨(m + ((aJ ((ai a).1)) - (((ai a).2.length : Nat) : Int))), hltk, (mF ha hfn hn (kt hm (by omega))), (by constructor <;> omega), (s.ow ((s.o.take 3).tail.tail)).c⟩, (show l.length - (k + 1) < l.length - k by omega)⟩
   intro hc4; have hfn := hc4; have fb := dU (ai a).2 j (mE fn); have sz := iV (x := (ai a).1); refine wp_skip ?_; refine aB ?_; refine tn hK3 ?_; refine zu s 1 (by exact zAn Z0 k 1) ?_; intro _ fw s; refine zw s ?_; intro _ fw s; refine aN ?_; exact bg ⟨(k + 1), ⟨m, hltk, (mG ha hfn hn (kt hm (by omega))), (by constructor <;> omega), (s.ow ((s.o.take 3).tail.tail)).c⟩, (show l.length - (k + 1) < l.length - k by omega)⟩
  intro hc1; refine wp_exit ?_; refine aM ?_; refine aM ?_; refine aD ?_; refine tn hK1 ?_; refine zt_ s 2 (zC (zP Z0) fun cc => dJ n _ (by omega) (by omega)) ?_; intro _ fw s K10 hK10; refine zS s 0 ?_; intro fw s; refine wt hK10 ?_; refine wp_ret ?_; refine ac (v := ae (ay (n * 10000))) rfl (.cons (rC s 3 0) .nil) rfl s.q ?_; exact ⟨congrArg (fun v => Ending.returned (ae v)) (show ay _ = ay _ by rw [hn, List.take_of_length_le (by omega)]), s.o.kept⟩
end

section
open Go.RowKit Lv
set_option maxRecDepth 100000
def GW (x : Rc) (la l0 : List Cl) (A0 : Option Addr) (w : World) (e : Ending) (w' : World) : Prop := ∃ T A1 c1, e = .returned (.agg #[.int .i64 x.c1, .int .i64 x.r1, .int .i64 x.c2, .int .i64 x.r2, .slice A1 la.length c1]) ∧ Own w T w' ∧ la.length ≤ c1 ∧ ∀ base z, RowK 5 clV z A0 l0 → Own base T z → RowK 5 clV z A1 la
theorem ta {a : Ar} {x : Rc} {la : List Cl} (e : ai a = (x, la)) (A1 : Option Addr) (c1 : Nat) (w : World) (hc : a.l.length ≤ c1) : Calls Tryz.prog 66 #[aA a (.slice A1 a.l.length c1)] w fun e w' => GW x la a.l A1 w e w' := by
  have h := qD a A1 c1 w hc; unfold fx at h; rw [e] at h; exact h
theorem ky {a : Ar} (h : Js a = true) : okR (ai a).1 = true := by
  unfold Js at h; unfold ai
  split
  · rename_i e
    rw [if_pos e] at h
    simp only [Bool.and_eq_true] at h
    exact h.1.2
  · rfl
theorem GX {a : Ar} {v : Vl} {r : List Vl} (h : (p16 v).2.2 = false) : (p16 v).2.1 = aZ a (v :: r) := by
  obtain ⟨h1, h2⟩ := Ac h; unfold aZ; rw [List.map_cons, show ax (aL v :: r.map aL) = some (aL v) by unfold ax; rw [List.find?_cons, h1], h2]
theorem DM {u v : Vl} (h : isE u = false) : ax [u, v] = if isE v then some v else none := by
  unfold ax; rw [List.find?_cons, h, List.find?_cons]
  cases isE v <;> rfl
theorem IJ {a : Ar} {u v : Vl} (g : (p16 u).2.2 = true) (h : (p16 v).2.2 = false) : (p16 v).2.1 = aZ a [u, v] := by
  obtain ⟨h1, h2⟩ := Ac h; obtain ⟨g1, g2⟩ := kx g; unfold aZ; rw [show [u, v].map aL = [aL u, aL v] from rfl, DM g1, if_pos h1, h2]
theorem DN {a : Ar} {u : Vl} (g : (p16 u).2.2 = true) : aZ a [u] = kK a (p16 u).1 := by
  obtain ⟨g1, g2⟩ := kx g; unfold aZ; rw [show ax ([u].map aL) = none by unfold ax; rw [List.map_cons, List.find?_cons, g1]; rfl, g2]
  rfl
theorem DP {a : Ar} {u v : Vl} (g : (p16 u).2.2 = true) (h : (p16 v).2.2 = true) : aZ a [u, v] = kJ a (p16 u).1 (p16 v).1 := by
  obtain ⟨g1, g2⟩ := kx g; obtain ⟨h1, h2⟩ := kx h; unfold aZ; rw [show [u, v].map aL = [aL u, aL v] from rfl, DM g1, h1, g2, h2]
  rfl
theorem Fb {a : Ar} {x : Rc} {la : List Cl} {u : Vl} (ea : ai a = (x, la)) (g : (p16 u).2.2 = true) (o : ((p16 u).1 : Int) < (1 : Int) ∨ ((x.c2 - x.c1 + 1) * (x.r2 - x.r1 + 1) : Int) < ((p16 u).1 : Int)) : aG 5 = aZ a [u] := by
  rw [DN g]; unfold kK; rw [ea, if_pos]; exact o
theorem GY {a : Ar} {x : Rc} {la : List Cl} {u : Vl} (ea : ai a = (x, la)) (g : (p16 u).2.2 = true) (o : ¬ (((p16 u).1 : Int) < (1 : Int) ∨ ((x.c2 - x.c1 + 1) * (x.r2 - x.r1 + 1) : Int) < ((p16 u).1 : Int))) : rL la (x.c1 + Int.tmod ((p16 u).1 - 1) (x.c2 - x.c1 + 1)) (x.r1 + Int.tdiv ((p16 u).1 - 1) (x.c2 - x.c1 + 1)) = aZ a [u] := by
  rw [DN g]; unfold kK bh cd; rw [ea]
  dsimp only
  rw [if_neg o, Int.tmod_eq_emod_of_nonneg (by omega), Int.tdiv_eq_ediv_of_nonneg (by omega)]
theorem Fc {a : Ar} {x : Rc} {la : List Cl} {u v : Vl} (ea : ai a = (x, la)) (g : (p16 u).2.2 = true) (h : (p16 v).2.2 = true) (o : ((((p16 u).1 : Int) < (1 : Int) ∨ (x.r2 - x.r1 + 1 : Int) < ((p16 u).1 : Int)) ∨ ((p16 v).1 : Int) < (1 : Int)) ∨ (x.c2 - x.c1 + 1 : Int) < ((p16 v).1 : Int)) : aG 5 = aZ a [u, v] := by
  rw [DP g h]; unfold kJ cd bh; rw [ea]
  dsimp only
  rw [if_pos (by omega)]
theorem GZ {a : Ar} {x : Rc} {la : List Cl} {u v : Vl} (ea : ai a = (x, la)) (g : (p16 u).2.2 = true) (h : (p16 v).2.2 = true) (o : ¬ (((((p16 u).1 : Int) < (1 : Int) ∨ (x.r2 - x.r1 + 1 : Int) < ((p16 u).1 : Int)) ∨ ((p16 v).1 : Int) < (1 : Int)) ∨ (x.c2 - x.c1 + 1 : Int) < ((p16 v).1 : Int))) : rL la (x.c1 + ((p16 v).1 - 1)) (x.r1 + ((p16 u).1 - 1)) = aZ a [u, v] := by
  rw [DP g h]; unfold kJ cd bh; rw [ea]
  dsimp only
  rw [if_neg (by omega)]
theorem G0 (A : Option Addr) (cap : Nat) (a b : Ar) (w : World) (mx : Int) (HM : Mx w mx) (hr : ArgsAt w A [a, b]) (hb : Small b.v) (hla : a.l.length ≤ 900000) (hok : Js a = true) :
    Calls Tryz.prog 68 #[.slice A 2 cap] w fun e w' => e = .returned (ae (aZ a [b.v])) ∧ Kept w w' := by
  obtain ⟨bq0, o0, S0, z0, hA0, e0, q0, y0⟩ := hr.elem (i := 0) rfl; obtain ⟨bq1, o1, S1, z1, hA1, e1, q1, y1⟩ := hr.elem (i := 1) rfl; obtain ⟨xa, la, ea⟩ : ∃ x l, ai a = (x, l) := ⟨_, _, rfl⟩; have hla2 : la.length ≤ 1000000 := by have := gg a (by omega); rw [ea] at this; exact this
  have hox : okR xa = true := by have := ky hok; rw [ea] at this; exact this
  obtain ⟨⟨k1, k2, k3⟩, k4, k5, k6⟩ := eD.1 hox; have hp := vZ k2 k5 (Int.le_trans (Int.sub_le_sub k3 k1) (by decide)) (Int.le_trans (Int.sub_le_sub k6 k4) (by decide)); have hmu := iz (a := (xa.c2 - xa.c1 + 1)) (b := (xa.r2 - xa.r1 + 1)) (by omega) (by omega) (by omega) (by omega); go_enter Tryz.func68, Tryz.ntmps68; refine z00 118 [(0, .slice A 2 cap)] ?_; intro _ s; refine zr s 1 (zV Z0 oZ) ?_; intro gb1 _ fw s; refine zt_ s 3 (zO (zO (zP Z0) fun cc => al 9 Tryz.underlying22 (by kernel_rfl) rfl hA0 cc.e rfl (Nat.le_of_ble_eq_true rfl)) (v := aA a (.slice S0 a.l.length z0)) fun cc => bf (n := 9) 0 rfl (by kernel_rfl) (by kernel_rfl) cc.e rfl (e0.kept cc.ow.kept)) ?_; intro _ fw s K1 hK1; refine aU (aC rfl) (bZ (u := aA a (.slice S0 a.l.length z0)) rfl (s.g 12) (eT _ _)) ((ta ea _ _ _ y0).mono ?_); rintro _ fw ⟨T, A2, c2, rfl, hT, hc2, hR⟩; refine ⟨_, rfl, ?_⟩; rcases hT with hT
  have ow := Own.both s.o hT; have ow : Own w ((Th.obj gb1 oZ) :: T) fw := ow; refine zg (s.ow ow) ?_; intro _ fw s; refine ct s.o (aC rfl) (dv (b := .cells #[.int .i64 0, .int .i64 0, .int .i64 0, .int .i64 0, .slice none 0 0] 37 (0, 0)) rfl (by kernel_rfl)) fun gb2 fw ow => ?_; refine zg (s.ow ow) ?_; intro _ fw s; refine zS s 0 ?_; intro fw s; refine wt hK1 ?_; refine zt_ s 11 (zP (zV (zP (zP (zP (zP (zC (zO (zF (zO (zP Z0) fun cc => al 9 Tryz.underlying22 (by kernel_rfl) rfl hA1 cc.e rfl (Nat.le_of_ble_eq_true rfl)) (o1 + 1 * 9 + 1)) (v := ae b.v) fun cc => bf (n := 3) 1 rfl (by kernel_rfl) (by kernel_rfl) cc.e rfl (e1.kept cc.ow.kept)) fun cc => eI b.v _ mx (HM.kept cc.ow.kept) hb))))) oZ)) ?_; intro gb3 _ fw s K2 hK2; refine zS s 0 ?_; intro fw s; refine zw s ?_; intro _ fw s; refine wt hK2 ?_; refine sq fun hK3 => ?_; refine zr s 2 (zP (zP Z0)) ?_; intro _ fw s; refine zb s (jc (Iff.rfl)) ?_ ?_
  ·intro hc1
   have hpb : (p16 b.v).2.2 = false := by simpa using hc1
   refine zt_ s 1 (zA Z0 (ae ((p16 b.v).2.1)) 3 0) ?_; intro _ fw s K4 hK4; refine zS s 2 ?_; intro fw s; refine wt hK4 ?_; refine wp_ret ?_; refine ag ?_; refine ac (v := ae ((p16 b.v).2.1)) rfl (.cons (rC s 3 2) .nil) rfl s.q ?_; exact ⟨congrArg (fun v => Ending.returned (ae v)) (GX hpb), s.o.kept⟩
  intro hc1; have hpo : (p16 b.v).2.2 = true := by simpa using hc1
  refine wp_skip ?_; refine tn hK3 ?_; refine zr s 18 (zP (zP (zAd (zSb (zL (zF (zF (zL (zF (zF (zAd (zSb (zL (zF (zF (zL (zF (zF Z0 0) 2) 1) 0) 0) 1))) 0) 3) 1) 0) 1) 1))))) ?_; intro _ fw s; refine zr s 1 (zP Z0) ?_; intro _ fw s; refine sq fun hK5 => ?_; refine zr s 3 (zP (zN (zP Z0))) ?_; intro _ fw s; refine zx s ?_; refine wp_skip ?_; refine tn hK5 ?_; refine sq fun hK6 => ?_; refine zr s 9 (zO (zPi (zI (zPi (zPi (zPi (zP (zP (zP Z0)))))) (v := .int .i64 (((xa.c2 - xa.c1) + 1) * ((xa.r2 - xa.r1) + 1))) (run := by exact fun cc hz => vR (Or.inr rfl) rfl (cc.f hz) (cc.f hz) hp.1 hp.2))) fun cc => gA rfl cc.e rfl (fun hb => cc.f hb)) ?_; intro _ fw s; refine zb s (bor (decide_eq_true_iff) (decide_eq_true_iff)) ?_ ?_
  ·intro hc2
   have hout := hc2; refine zt_ s 1 (zC Z0 fun cc => cz 5 _) ?_; intro _ fw s K7 hK7; refine zS s 2 ?_; intro fw s; refine wt hK7 ?_; refine wp_ret ?_; refine ag ?_; refine ac (v := ae (aG 5)) rfl (.cons (rC s 3 2) .nil) rfl s.q ?_; exact ⟨congrArg (fun v => Ending.returned (ae v)) (Fb ea hpo hout), s.o.kept⟩
  intro hc2; have hin := hc2; have hi1 : 1 ≤ (p16 b.v).1 ∧ (p16 b.v).1 ≤ (xa.c2 - xa.c1 + 1) * (xa.r2 - xa.r1 + 1) := by omega
  obtain ⟨i1, i2, i3, i4⟩ := uo (x := xa) (i := (p16 b.v).1 - 1) k2 k5 (by omega) (by unfold bh cd; omega); have i5 : Int.tmod ((p16 b.v).1 - 1) (xa.c2 - xa.c1 + 1) = ((p16 b.v).1 - 1) % bh xa := Int.tmod_eq_emod_of_nonneg (by omega); have i6 : Int.tdiv ((p16 b.v).1 - 1) (xa.c2 - xa.c1 + 1) = ((p16 b.v).1 - 1) / bh xa := Int.tdiv_eq_ediv_of_nonneg (by omega); refine wp_skip ?_; refine tn hK6 ?_; refine zt_ s 19 (zC (zO (zAd (zO (zP (zSb (zP (zL (zF (zF (zAd (zO (zP (zSb (zP (zL (zF (zF (zA Z0 (.agg #[.int .i64 xa.c1, .int .i64 xa.r1, .int .i64 xa.c2, .int .i64 xa.r2, .slice A2 la.length c2]) 5 1) 0) 0) 1)))) fun cc => Gp (Or.inr rfl) rfl (n := ((p16 b.v).1) - 1) (m := (xa.c2 - xa.c1) + 1) cc.e cc.e (by omega) (by omega) (by omega))) 0) 1) 1)))) fun cc => Bb (Or.inr rfl) rfl cc.e cc.e (by omega) (by omega) (by omega))) (v := .agg #[.int .i64 (xa.c1 + (Int.tmod (((p16 b.v).1) - 1) ((xa.c2 - xa.c1) + 1))), .int .i64 (xa.r1 + (Int.tdiv (((p16 b.v).1) - 1) ((xa.c2 - xa.c1) + 1)))]) fun cc => xb2 rfl cc.e cc.e (by kernel_rfl)) fun cc => yY xa la _ _ (xa.c1 + (Int.tmod (((p16 b.v).1) - 1) ((xa.c2 - xa.c1) + 1))) (xa.r1 + (Int.tdiv (((p16 b.v).1) - 1) ((xa.c2 - xa.c1) + 1))) _ (hR _ _ (q0.kept cc.ow.kept) cc.ow.tail.tail.tail) hla2) ?_; intro _ fw s K8 hK8; refine zS s 2 ?_; intro fw s; refine wt hK8 ?_; refine wp_ret ?_; refine ac (v := ae (rL la (xa.c1 + (Int.tmod (((p16 b.v).1) - 1) ((xa.c2 - xa.c1) + 1))) (xa.r1 + (Int.tdiv (((p16 b.v).1) - 1) ((xa.c2 - xa.c1) + 1))))) rfl (.cons (rC s 3 2) .nil) rfl s.q ?_
  exact ⟨congrArg (fun v => Ending.returned (ae v)) (GY ea hpo hin), s.o.kept⟩
theorem G2 (A : Option Addr) (cap : Nat) (a b c : Ar) (w : World) (mx : Int) (HM : Mx w mx) (hr : ArgsAt w A [a, b, c]) (hb : Small b.v) (hc : Small c.v) (hla : a.l.length ≤ 900000) (hok : Js a = true) :
    Calls Tryz.prog 68 #[.slice A 3 cap] w fun e w' => e = .returned (ae (aZ a [b.v, c.v])) ∧ Kept w w' := by
  obtain ⟨bq0, o0, S0, z0, hA0, e0, q0, y0⟩ := hr.elem (i := 0) rfl; obtain ⟨bq1, o1, S1, z1, hA1, e1, q1, y1⟩ := hr.elem (i := 1) rfl; obtain ⟨bq2, o2, S2, z2, hA2, e2, q2, y2⟩ := hr.elem (i := 2) rfl; obtain ⟨xa, la, ea⟩ : ∃ x l, ai a = (x, l) := ⟨_, _, rfl⟩; have hla2 : la.length ≤ 1000000 := by have := gg a (by omega); rw [ea] at this; exact this
  have hox : okR xa = true := by have := ky hok; rw [ea] at this; exact this
  obtain ⟨⟨k1, k2, k3⟩, k4, k5, k6⟩ := eD.1 hox; have hp := vZ k2 k5 (Int.le_trans (Int.sub_le_sub k3 k1) (by decide)) (Int.le_trans (Int.sub_le_sub k6 k4) (by decide)); have hmu := iz (a := (xa.c2 - xa.c1 + 1)) (b := (xa.r2 - xa.r1 + 1)) (by omega) (by omega) (by omega) (by omega); go_enter Tryz.func68, Tryz.ntmps68; refine z00 118 [(0, .slice A 3 cap)] ?_; intro _ s; refine zr s 1 (zV Z0 oZ) ?_; intro gb1 _ fw s; refine zt_ s 3 (zO (zO (zP Z0) fun cc => al 9 Tryz.underlying22 (by kernel_rfl) rfl hA0 cc.e rfl (Nat.le_of_ble_eq_true rfl)) (v := aA a (.slice S0 a.l.length z0)) fun cc => bf (n := 9) 0 rfl (by kernel_rfl) (by kernel_rfl) cc.e rfl (e0.kept cc.ow.kept)) ?_; intro _ fw s K1 hK1; refine aU (aC rfl) (bZ (u := aA a (.slice S0 a.l.length z0)) rfl (s.g 12) (eT _ _)) ((ta ea _ _ _ y0).mono ?_); rintro _ fw ⟨T, A2, c2, rfl, hT, hc2, hR⟩; refine ⟨_, rfl, ?_⟩; rcases hT with hT
  have ow := Own.both s.o hT; have ow : Own w ((Th.obj gb1 oZ) :: T) fw := ow; refine zg (s.ow ow) ?_; intro _ fw s; refine ct s.o (aC rfl) (dv (b := .cells #[.int .i64 0, .int .i64 0, .int .i64 0, .int .i64 0, .slice none 0 0] 37 (0, 0)) rfl (by kernel_rfl)) fun gb2 fw ow => ?_; refine zg (s.ow ow) ?_; intro _ fw s; refine zS s 0 ?_; intro fw s; refine wt hK1 ?_; refine zt_ s 11 (zP (zV (zP (zP (zP (zP (zC (zO (zF (zO (zP Z0) fun cc => al 9 Tryz.underlying22 (by kernel_rfl) rfl hA1 cc.e rfl (Nat.le_of_ble_eq_true rfl)) (o1 + 1 * 9 + 1)) (v := ae b.v) fun cc => bf (n := 3) 1 rfl (by kernel_rfl) (by kernel_rfl) cc.e rfl (e1.kept cc.ow.kept)) fun cc => eI b.v _ mx (HM.kept cc.ow.kept) hb))))) oZ)) ?_; intro gb3 _ fw s K2 hK2; refine zS s 0 ?_; intro fw s; refine zw s ?_; intro _ fw s; refine wt hK2 ?_; refine sq fun hK3 => ?_; refine zr s 2 (zP (zP Z0)) ?_; intro _ fw s; refine zb s (jc (Iff.rfl)) ?_ ?_
  ·intro hc1
   have hpb : (p16 b.v).2.2 = false := by simpa using hc1
   refine zt_ s 1 (zA Z0 (ae ((p16 b.v).2.1)) 3 0) ?_; intro _ fw s K4 hK4; refine zS s 2 ?_; intro fw s; refine wt hK4 ?_; refine wp_ret ?_; refine ag ?_; refine ac (v := ae ((p16 b.v).2.1)) rfl (.cons (rC s 3 2) .nil) rfl s.q ?_; exact ⟨congrArg (fun v => Ending.returned (ae v)) (GX hpb), s.o.kept⟩
  intro hc1; have hpo : (p16 b.v).2.2 = true := by simpa using hc1
  refine wp_skip ?_; refine tn hK3 ?_; refine zr s 18 (zP (zP (zAd (zSb (zL (zF (zF (zL (zF (zF (zAd (zSb (zL (zF (zF (zL (zF (zF Z0 0) 2) 1) 0) 0) 1))) 0) 3) 1) 0) 1) 1))))) ?_; intro _ fw s; refine zr s 1 (zP Z0) ?_; intro _ fw s; refine sq fun hK5 => ?_; refine zr s 3 (zP (zN (zP Z0))) ?_; intro _ fw s; refine zy s ?_; refine sq fun hK6 => ?_; refine zt_ s 10 (zP (zP (zP (zP (zP (zC (zO (zF (zO (zP Z0) fun cc => al 9 Tryz.underlying22 (by kernel_rfl) rfl hA2 cc.e rfl (Nat.le_of_ble_eq_true rfl)) (o2 + 2 * 9 + 1)) (v := ae c.v) fun cc => bf (n := 3) 1 rfl (by kernel_rfl) (by kernel_rfl) cc.e rfl (e2.kept cc.ow.kept)) fun cc => eI c.v _ mx (HM.kept cc.ow.kept) hc)))))) ?_; intro _ fw s K7 hK7; refine zS s 0 ?_; intro fw s; refine zw s ?_; intro _ fw s; refine wt hK7 ?_; refine zr s 2 (zP (zP Z0)) ?_; intro _ fw s; refine zb s (jc (Iff.rfl)) ?_ ?_
  ·intro hc2
   have hpc : (p16 c.v).2.2 = false := by simpa using hc2
   refine zt_ s 1 (zA Z0 (ae ((p16 c.v).2.1)) 3 0) ?_; intro _ fw s K8 hK8; refine zS s 2 ?_; intro fw s; refine wt hK8 ?_; refine wp_ret ?_; refine ag (ag ?_); refine ac (v := ae ((p16 c.v).2.1)) rfl (.cons (rC s 3 2) .nil) rfl s.q ?_; exact ⟨congrArg (fun v => Ending.returned (ae v)) (IJ hpo hpc), s.o.kept⟩
  intro hc2; have hqo : (p16 c.v).2.2 = true := by simpa using hc2
  refine wp_skip ?_; refine tn hK6 ?_; refine sq fun hK9 => ?_; refine zr s 16 (zO (zPi (zPi (zPi (zP (zO (zPi (zPi (zP (zO (zPi (zPi (zPi (zP (zP (zP Z0)))))) fun cc => gA rfl cc.e rfl (fun hb => cc.f hb))))) fun cc => gA rfl cc.e rfl (fun hb => cc.f hb)))))) fun cc => gA rfl cc.e rfl (fun hb => cc.f hb)) ?_; intro _ fw s; refine zb s (bor (bor (bor (decide_eq_true_iff) (decide_eq_true_iff)) (decide_eq_true_iff)) (decide_eq_true_iff)) ?_ ?_
  ·intro hc3
   have hout := hc3; refine zt_ s 1 (zC Z0 fun cc => cz 5 _) ?_; intro _ fw s K10 hK10; refine zS s 2 ?_; intro fw s; refine wt hK10 ?_; refine wp_ret ?_; refine ag (ag ?_); refine ac (v := ae (aG 5)) rfl (.cons (rC s 3 2) .nil) rfl s.q ?_; exact ⟨congrArg (fun v => Ending.returned (ae v)) (Fc ea hpo hqo hout), s.o.kept⟩
  intro hc3; have hin := hc3; refine wp_skip ?_; refine tn hK9 ?_; refine zt_ s 15 (zC (zO (zAd (zSb (zP (zL (zF (zF (zAd (zSb (zP (zL (zF (zF (zA Z0 (.agg #[.int .i64 xa.c1, .int .i64 xa.r1, .int .i64 xa.c2, .int .i64 xa.r2, .slice A2 la.length c2]) 5 1) 0) 0) 1)))) 0) 1) 1)))) (v := .agg #[.int .i64 (xa.c1 + (((p16 c.v).1) - 1)), .int .i64 (xa.r1 + (((p16 b.v).1) - 1))]) fun cc => xb2 rfl cc.e cc.e (by kernel_rfl)) fun cc => yY xa la _ _ (xa.c1 + (((p16 c.v).1) - 1)) (xa.r1 + (((p16 b.v).1) - 1)) _ (hR _ _ (q0.kept cc.ow.kept) cc.ow.tail.tail.tail) hla2) ?_; intro _ fw s K11 hK11; refine zS s 2 ?_; intro fw s; refine wt hK11 ?_; refine wp_ret ?_; refine ag ?_; refine ac (v := ae (rL la (xa.c1 + (((p16 c.v).1) - 1)) (xa.r1 + (((p16 b.v).1) - 1)))) rfl (.cons (rC s 3 2) .nil) rfl s.q ?_; exact ⟨congrArg (fun v => Ending.returned (ae v)) (GZ ea hpo hqo hin), s.o.kept⟩
