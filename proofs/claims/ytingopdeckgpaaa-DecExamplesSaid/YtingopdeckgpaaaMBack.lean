/- Plain lists: what was written is read again, and nothing is longer than what was read. -/
import Derived.Test.YtingopdeckgpaaaMParse2
namespace Go.Proofs.Ytingopdeckgpaaa.Lv
set_option linter.unusedVariables false
set_option linter.unusedSimpArgs false
open Go

theorem digit_nat {d : Nat} (h : d < 10) : (UInt8.ofNat (48 + d)).toNat = 48 + d := by simp; omega
theorem digit_isD {d : Nat} (h : d < 10) : isD (UInt8.ofNat (48 + d)) = true := isD_iff.2 (by rw [digit_nat h]; omega)
theorem digs_isD : ∀ (n : Nat), n < 100000000000000000000 → ∀ c ∈ digs n, isD c = true := by
  intro n
  induction n using Nat.strongRecOn with
  | ind n ih =>
    intro h c hc
    by_cases l : n < 10
    · rw [digs_lt l] at hc
      rw [List.mem_singleton] at hc
      subst hc; exact digit_isD l
    · rw [digs_ge (by omega) h] at hc
      rcases List.mem_append.1 hc with hc | hc
      · exact ih (n / 10) (by omega) (by omega) c hc
      · rw [List.mem_singleton] at hc
        have := digit_isD (d := n % 10) (by omega)
        subst hc; exact this
theorem val_digs : ∀ (n : Nat), n < 100000000000000000000 → val (digs n) = n := by
  intro n
  induction n using Nat.strongRecOn with
  | ind n ih =>
    intro h
    by_cases l : n < 10
    · rw [digs_lt l]
      show 10 * 0 + ((UInt8.ofNat (48 + n)).toNat - 48) = n
      rw [digit_nat l]; omega
    · rw [digs_ge (by omega) h, val_snoc, ih (n / 10) (by omega) (by omega), digit_nat (by omega)]
      omega
theorem val_four (l : List UInt8) {p : Nat} (h : p < 10000) : val (l ++ four p) = val l * 10000 + p := by
  have e : l ++ four p = (((l ++ [UInt8.ofNat (48 + p / 1000)]) ++ [UInt8.ofNat (48 + p / 100 % 10)]) ++ [UInt8.ofNat (48 + p / 10 % 10)]) ++ [UInt8.ofNat (48 + p % 10)] := by simp [four]
  rw [e, val_snoc, val_snoc, val_snoc, val_snoc, digit_nat (by omega), digit_nat (by omega), digit_nat (by omega), digit_nat (by omega)]
  omega
theorem four_isD {p : Nat} (h : p < 10000) : ∀ c ∈ four p, isD c = true := by
  intro c hc
  simp only [four, List.mem_cons, List.not_mem_nil, or_false] at hc
  rcases hc with rfl | rfl | rfl | rfl <;> exact digit_isD (by omega)
theorem nd_front : ∀ (l t : List UInt8), (∀ c ∈ l, isD c = true) → nd (l ++ t) = l.length + nd t
  | [], t, _ => by simp
  | a :: l, t, h => by
    have e : nd (a :: (l ++ t)) = nd (l ++ t) + 1 := if_pos (h a (by simp))
    rw [List.cons_append, e, nd_front l t (fun c hc => h c (by simp [hc])), List.length_cons]
    omega
theorem nd_whole {l : List UInt8} (h : ∀ c ∈ l, isD c = true) : nd l = l.length := by
  have := nd_front l [] h
  rw [List.append_nil] at this
  exact this
theorem snoc_ind {P : List UInt8 → Prop} (h0 : P []) (h1 : ∀ l c, P l → P (l ++ [c])) : ∀ l, P l := by
  have h : ∀ l : List UInt8, P l.reverse := by
    intro l
    induction l with
    | nil => exact h0
    | cons a l ih => rw [List.reverse_cons]; exact h1 _ _ ih
  intro l
  have := h l.reverse
  rwa [List.reverse_reverse] at this
/-- what strip leaves off are zeros -/
theorem strip_back : ∀ (l : List UInt8), ∃ k, l = strip l ++ List.replicate k 48 := by
  refine snoc_ind ⟨0, rfl⟩ ?_
  · intro l c ih
    by_cases h : c = 48
    · subst h
      obtain ⟨k, hk⟩ := ih
      refine ⟨k + 1, ?_⟩
      rw [strip_zero, List.replicate_succ', ← List.append_assoc, ← hk]
    · exact ⟨0, by rw [strip_other l h]; simp⟩
theorem strip_le (l : List UInt8) : (strip l).length ≤ l.length := by
  obtain ⟨k, hk⟩ := strip_back l
  have := congrArg List.length hk
  rw [List.length_append] at this
  omega
theorem strip_mem {l : List UInt8} {c : UInt8} (h : c ∈ strip l) : c ∈ l := by
  obtain ⟨k, hk⟩ := strip_back l
  rw [hk]; exact List.mem_append_left _ h
theorem places_strip {f : List UInt8} (h : f.length = 4) : places (strip f) = f := by
  obtain ⟨k, hk⟩ := strip_back f
  have hl := congrArg List.length hk
  rw [List.length_append, List.length_replicate] at hl
  have e : pad (strip f) = f ++ List.replicate (5 - k) 48 := by
    conv => rhs; rw [hk]
    unfold pad
    rw [List.append_assoc, List.replicate_append_replicate, show k + (5 - k) = 5 by omega]
    rfl
  unfold places
  rw [e, List.take_append_of_le_length (by omega), List.take_of_length_le (by omega)]
theorem strip_short {l : List UInt8} {k : Nat} {r : List UInt8} (h : l = r ++ List.replicate k 48) : (strip l).length ≤ r.length := by
  induction k generalizing l with
  | zero => rw [h]; simp; exact strip_le r
  | succ k ih =>
    rw [List.replicate_succ', ← List.append_assoc] at h
    rw [h, strip_zero]
    exact ih rfl
theorem strip_places (r : List UInt8) : (strip (places r)).length ≤ r.length := by
  by_cases h : 4 ≤ r.length
  · exact Nat.le_trans (strip_le _) (by rw [places_len]; exact h)
  · refine strip_short (k := 4 - r.length) ?_
    unfold places pad
    rw [List.take_append, List.take_of_length_le (by omega)]
    congr 1
    match r.length, (show r.length < 4 by omega) with
    | 0, _ => rfl
    | 1, _ => rfl
    | 2, _ => rfl
    | 3, _ => rfl
theorem strip_four_pos {p : Nat} (h : p < 10000) (h0 : p ≠ 0) : strip (four p) ≠ [] := by
  intro e
  obtain ⟨k, hk⟩ := strip_back (four p)
  rw [e, List.nil_append] at hk
  obtain ⟨x, hx, hx2⟩ := four_some h h0
  rw [hk] at hx
  exact hx2 (List.eq_of_mem_replicate hx)

theorem frac_dot {r : List UInt8} (h0 : r ≠ []) (h : nd r = r.length) : frac (46 :: r) = some r := if_pos ⟨rfl, h0, h⟩
theorem frac_of {t r : List UInt8} (h : frac t = some r) : (t = [] ∧ r = []) ∨ (t = 46 :: r ∧ r ≠ [] ∧ nd r = r.length) := by
  rcases t with _ | ⟨c, t⟩
  · left; simp [frac] at h; exact ⟨rfl, h⟩
  · by_cases g : c = 46 ∧ t ≠ [] ∧ nd t = t.length
    · rw [show frac (c :: t) = some t from if_pos g] at h
      have e : t = r := Option.some.inj h
      subst e
      exact Or.inr ⟨by rw [g.1], g.2.1, g.2.2⟩
    · rw [show frac (c :: t) = none from if_neg g] at h
      cases h
theorem isD_46 : isD 46 = false := rfl
theorem isD_45 : isD 45 = false := rfl
/-- what was written behind the sign is read again -/
theorem read_fmt (b : Bool) (n : Nat) (h : n ≤ 9223372036854775808) :
    read b (digs (n / 10000) ++ (if n % 10000 = 0 then [] else 46 :: strip ((digs (10000 + n % 10000)).drop 1))) = if n ≤ 9223372036854775807 then (sg b n, 0) else (0, 3) := by
  have hd := digs_isD (n / 10000) (by omega)
  have hp := digs_pos (n / 10000) (by omega)
  have hv := val_digs (n / 10000) (by omega)
  generalize digs (n / 10000) = D at *
  rw [digs_four (by omega), show (49 :: four (n % 10000)).drop 1 = four (n % 10000) from rfl]
  by_cases c : n % 10000 = 0
  · rw [if_pos c, List.append_nil]
    unfold read
    rw [nd_whole hd, if_neg (by omega), List.drop_length, List.take_length, show frac [] = some [] from rfl]
    have e : val (D ++ places []) = n := by
      rw [show places [] = four 0 from rfl, val_four D (by omega), hv]; omega
    show (if (val (D ++ places []) : Int) + 0 ≤ _ then (sg b ((val (D ++ places []) : Int) + 0), (0 : Int)) else (0, 3)) = _
    rw [e, Int.add_zero]
    by_cases g : n ≤ 9223372036854775807
    · rw [if_pos g, if_pos (by omega)]
    · rw [if_neg g, if_neg (by omega)]
  · rw [if_neg c]
    have hs := strip_four_pos (p := n % 10000) (by omega) c
    have hi : ∀ x ∈ strip (four (n % 10000)), isD x = true := fun x hx => four_isD (by omega) x (strip_mem hx)
    have hn : nd (D ++ 46 :: strip (four (n % 10000))) = D.length := by
      rw [nd_front D _ hd, show nd (46 :: strip (four (n % 10000))) = 0 from rfl]; rfl
    unfold read
    have e5 := fifth_far _ (strip_le (four (n % 10000)))
    have e6 := places_strip (f := four (n % 10000)) rfl
    rw [hn, if_neg (by omega), List.drop_left', List.take_left', frac_dot hs (nd_whole hi)]
    · simp only [e5, e6]
      have e : val (D ++ four (n % 10000)) = n := by rw [val_four D (by omega), hv]; omega
      show (if (val (D ++ four (n % 10000)) : Int) + 0 ≤ _ then (sg b ((val (D ++ four (n % 10000)) : Int) + 0), (0 : Int)) else (0, 3)) = _
      rw [e, Int.add_zero]
      by_cases g : n ≤ 9223372036854775807
      · rw [if_pos g, if_pos (by omega)]
      · rw [if_neg g, if_neg (by omega)]
    · rfl
    · rfl
theorem parse_fmt (a : Int) (h : a.natAbs ≤ 9223372036854775808) : dParse (fmt a) = if a.natAbs ≤ 9223372036854775807 then (a, 0) else (0, 3) := by
  unfold fmt dParse
  by_cases c : a < 0
  · rw [if_pos c, List.append_assoc]
    rw [List.singleton_append, if_pos (by rfl), List.tail_cons, read_fmt true a.natAbs h]
    rw [show sg true (a.natAbs : Int) = a by unfold sg; simp <;> omega]
  · rw [if_neg c, List.nil_append, if_neg, read_fmt false a.natAbs h]
    · rw [show sg false (a.natAbs : Int) = a by unfold sg; simp <;> omega]
    · have hp := digs_pos (a.natAbs / 10000) (by omega)
      have hd := digs_isD (a.natAbs / 10000) (by omega)
      rcases he : digs (a.natAbs / 10000) with _ | ⟨x, l⟩
      · rw [he] at hp; simp at hp
      · intro e
        have := hd x (by rw [he]; simp)
        simp at e
        rw [e] at this
        cases this
theorem val_lt : ∀ (l : List UInt8), (∀ c ∈ l, isD c = true) → val l < 10 ^ l.length := by
  refine snoc_ind (fun _ => by simp [val]) ?_
  · intro l c ih h
    have h1 := ih (fun x hx => h x (by simp [hx]))
    have h2 := isD_iff.1 (h c (by simp))
    rw [val_snoc, List.length_append, List.length_singleton, Nat.pow_succ]
    omega
theorem digs_short {v : Nat} {l : List UInt8} (hl : ∀ c ∈ l, isD c = true) (h0 : 0 < l.length) (hv : v ≤ val l) (hb : v < 100000000000000000000) : (digs v).length ≤ l.length := by
  by_cases c : l.length ≤ 20
  · exact digs_len l.length (Nat.lt_of_le_of_lt hv (val_lt l hl)) h0 c
  · have := digs_len (n := v) 20 (by omega) (by omega) (by omega)
    omega
theorem digs_next {v : Nat} {l : List UInt8} (hl : ∀ c ∈ l, isD c = true) (hv : v = val l + 1) (hb : v < 100000000000000000000) : (digs v).length ≤ l.length + 1 := by
  by_cases c : l.length + 1 ≤ 20
  · refine digs_len (l.length + 1) ?_ (by omega) c
    have := val_lt l hl
    rw [Nat.pow_succ]; omega
  · have := digs_len (n := v) 20 (by omega) (by omega) (by omega)
    omega
/-- four digits are the places of their value -/
theorem four_of : ∀ (f : List UInt8), f.length = 4 → (∀ c ∈ f, isD c = true) → ∃ p, p < 10000 ∧ f = four p := by
  intro f h hd
  match f, h with
  | [a, b, c, d], _ =>
    have ha := isD_iff.1 (hd a (by simp))
    have hb := isD_iff.1 (hd b (by simp))
    have hc := isD_iff.1 (hd c (by simp))
    have hd' := isD_iff.1 (hd d (by simp))
    refine ⟨(a.toNat - 48) * 1000 + (b.toNat - 48) * 100 + (c.toNat - 48) * 10 + (d.toNat - 48), by omega, ?_⟩
    unfold four
    congr 1
    · apply UInt8.toNat_inj.1; rw [digit_nat (by omega)]; omega
    congr 1
    · apply UInt8.toNat_inj.1; rw [digit_nat (by omega)]; omega
    congr 1
    · apply UInt8.toNat_inj.1; rw [digit_nat (by omega)]; omega
    congr 1
    · apply UInt8.toNat_inj.1; rw [digit_nat (by omega)]; omega
theorem take_isD : ∀ (m : List UInt8), ∀ c ∈ m.take (nd m), isD c = true
  | [], c, hc => by simp at hc
  | a :: m, c, hc => by
    by_cases d : isD a = true
    · have e : nd (a :: m) = nd m + 1 := if_pos d
      rw [e, List.take_succ_cons] at hc
      rcases List.mem_cons.1 hc with rfl | hc
      · exact d
      · exact take_isD m c hc
    · have e : nd (a :: m) = 0 := if_neg d
      rw [e] at hc; simp at hc
/-- the length of what is written -/
theorem fmt_len (b : Bool) (v : Nat) : (fmt (sg b v)).length ≤ (if b then 1 else 0) + (digs (v / 10000)).length + (if v % 10000 = 0 then 0 else 1 + (strip (four (v % 10000))).length) := by
  unfold fmt
  have e : (sg b (v : Int)).natAbs = v := by unfold sg; split <;> omega
  rw [e, digs_four (by omega), show (49 :: four (v % 10000)).drop 1 = four (v % 10000) from rfl]
  have s : (if sg b (v : Int) < 0 then [45] else ([] : List UInt8)).length ≤ if b then 1 else 0 := by
    by_cases hh : sg b (v : Int) < 0
    · rw [if_pos hh]
      cases b
      · exact absurd hh (by unfold sg; simp)
      · simp
    · rw [if_neg hh]; simp
  rw [List.length_append, List.length_append]
  have t : (if v % 10000 = 0 then [] else 46 :: strip (four (v % 10000))).length = if v % 10000 = 0 then 0 else 1 + (strip (four (v % 10000))).length := by
    split
    · rfl
    · simp; omega
  omega
theorem read_ok {b : Bool} {m : List UInt8} (h : (read b m).2 = 0) :
    ∃ (v : Nat), v ≤ 9223372036854775807 ∧ (read b m) = (sg b v, 0) ∧ (digs (v / 10000)).length + (if v % 10000 = 0 then 0 else 1 + (strip (four (v % 10000))).length) ≤ m.length := by
  by_cases n0 : nd m = 0
  · exfalso; unfold read at h; rw [if_pos n0] at h; simp at h
  · rcases hf : frac (m.drop (nd m)) with _ | r
    · exfalso; unfold read at h; rw [if_neg n0, hf] at h; simp at h
    · obtain ⟨v, hv⟩ : ∃ v : Nat, v = val (m.take (nd m) ++ places r) + (if 53 ≤ (fifth r).toNat then 1 else 0) := ⟨_, rfl⟩
      have e : read b m = if (v : Int) ≤ 9223372036854775807 then (sg b v, 0) else (0, 3) := by
        unfold read
        rw [if_neg n0, hf]
        have e2 : (v : Int) = (val (m.take (nd m) ++ places r) : Int) + (if 53 ≤ (fifth r).toNat then 1 else 0) := by rw [hv]; split <;> simp
        rw [e2]
      by_cases g : (v : Int) ≤ 9223372036854775807
      · rw [if_pos g] at e
        refine ⟨v, by omega, e, ?_⟩
        have ln := nd_le m
        have lw : (m.take (nd m)).length = nd m := by rw [List.length_take]; omega
        have hw := take_isD m
        have hr : ∀ c ∈ places r, isD c = true := by
          intro c hc
          rcases List.mem_append.1 (List.mem_of_mem_take hc) with h1 | h1
          · rcases frac_of hf with ⟨_, rfl⟩ | ⟨_, _, h3⟩
            · cases h1
            · exact nd_all h3 c h1
          · simp at h1; subst h1; rfl
        obtain ⟨p, hp, hpf⟩ := four_of (places r) (places_len r) hr
        have sp := strip_places r
        have lm : m.length = nd m + (m.drop (nd m)).length := by rw [List.length_drop]; omega
        rw [hpf, val_four _ hp] at hv
        rw [hpf] at sp
        by_cases five : 53 ≤ (fifth r).toNat
        · rw [if_pos five] at hv
          have r5 : 4 < r.length := by
            rcases Nat.lt_or_ge 4 r.length with h | h
            · exact h
            · rw [fifth_far r h] at five; exact absurd five (by decide)
          have lt : (m.drop (nd m)).length = 1 + r.length := by
            rcases frac_of hf with ⟨_, rfl⟩ | ⟨h1, _, _⟩
            · simp at r5
            · rw [h1]; simp; omega
          by_cases p9 : p = 9999
          · have v1 : v / 10000 = val (m.take (nd m)) + 1 := by omega
            have v2 : v % 10000 = 0 := by omega
            have := digs_next (v := v / 10000) hw v1 (by omega)
            rw [if_pos v2]; omega
          · have := digs_short (v := v / 10000) hw (by omega) (by omega) (by omega)
            have s4 := strip_le (four (v % 10000))
            have l4 : (four (v % 10000)).length = 4 := rfl
            split <;> omega
        · rw [if_neg five] at hv
          have v1 : v / 10000 = val (m.take (nd m)) := by omega
          have v2 : v % 10000 = p := by omega
          have := digs_short (v := v / 10000) hw (by omega) (by omega) (by omega)
          rw [v2]
          rcases frac_of hf with ⟨h1, rfl⟩ | ⟨h1, h2, _⟩
          · have p0 : p = 0 := by
              have e0 : val ([] ++ places []) = val ([] ++ four p) := by rw [hpf]
              rw [val_four [] hp, show val ([] ++ places []) = 0 from rfl, show val [] = 0 from rfl] at e0
              omega
            rw [if_pos p0]; omega
          · rw [h1, List.length_cons] at lm
            split <;> omega
      · exfalso; rw [e, if_neg g] at h; simp at h
/-- what is read is in range, and written not longer than it was -/
theorem parse_ok {l : List UInt8} (h : (dParse l).2 = 0) : ∃ n : Int, -9223372036854775807 ≤ n ∧ n ≤ 9223372036854775807 ∧ dParse l = (n, 0) ∧ (fmt n).length ≤ l.length := by
  unfold dParse at *
  rcases l with _ | ⟨c, m⟩
  · exfalso; simp [read, nd] at h
  · by_cases hc : c = 45
    · subst hc
      rw [if_pos (by rfl)] at *
      obtain ⟨v, v1, v2, v3⟩ := read_ok h
      refine ⟨sg true v, by unfold sg; simp <;> omega, by unfold sg; simp <;> omega, v2, ?_⟩
      have := fmt_len true v
      simp only [if_pos] at this
      rw [List.length_cons]
      rw [List.tail_cons] at v3
      omega
    · rw [if_neg (by simpa using hc)] at *
      obtain ⟨v, v1, v2, v3⟩ := read_ok h
      refine ⟨sg false v, by unfold sg; simp <;> omega, by unfold sg; simp <;> omega, v2, ?_⟩
      have := fmt_len false v
      simp only [Bool.false_eq_true, if_false] at this
      omega
end Go.Proofs.Ytingopdeckgpaaa.Lv
