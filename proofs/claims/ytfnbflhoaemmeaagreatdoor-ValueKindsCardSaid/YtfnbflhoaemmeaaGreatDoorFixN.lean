/- Plain laws of FixText: what fixnum.Parse reads is what the reference's reading, told as a number, says (uns_ref); what is printed is read again (parse_print). Condition of the latter: an int64. -/
import Derived.Test.YtfnbflhoaemmeaaGreatDoorFixQ
namespace Go.Proofs.YtfnbflhoaemmeaaGreatDoor.EFix
open Go.RowKit Go.Lib Go.Proofs.YtfnbflhoaemmeaaGreatDoor.Ext
def dstep (a : Nat) (c : UInt8) : Nat := a * 10 + (c.toNat - 48)
def dval (a : Nat) (l : List UInt8) : Nat := l.foldl dstep a
theorem dval_snoc (a : Nat) (l : List UInt8) (c : UInt8) : dval a (l ++ [c]) = dval a l * 10 + (c.toNat - 48) := by
  unfold dval; rw [List.foldl_append]; rfl
theorem dval_app (a : Nat) (l r : List UInt8) : dval a (l ++ r) = dval (dval a l) r := by unfold dval; rw [List.foldl_append]
theorem dval_ge (l : List UInt8) : ∀ a, a ≤ dval a l := by
  induction l with
  | nil => intro a; exact Nat.le_refl _
  | cons c r ih =>
    intro a
    have := ih (dstep a c)
    show a ≤ dval (dstep a c) r
    unfold dstep at *; omega
theorem dval_pow (l : List UInt8) : ∀ a, a * 10 ^ l.length ≤ dval a l := by
  induction l with
  | nil => intro a; simp [dval]
  | cons c r ih =>
    intro a
    have := ih (dstep a c)
    show a * 10 ^ (r.length + 1) ≤ dval (dstep a c) r
    refine Nat.le_trans ?_ this
    unfold dstep
    rw [Nat.pow_succ, Nat.add_mul, Nat.mul_comm (10 ^ r.length) 10, ← Nat.mul_assoc]
    exact Nat.le_add_right _ _
theorem dval_zeros (k a : Nat) : dval a (Lib.repeatL [48] k) = a * 10 ^ k := by
  induction k generalizing a with
  | zero => simp [Lib.repeatL, dval]
  | succ k ih =>
    show dval (dstep a 48) (Lib.repeatL [48] k) = _
    rw [ih]
    unfold dstep
    rw [Nat.pow_succ]
    have : (48 : UInt8).toNat = 48 := rfl
    rw [this, Nat.sub_self, Nat.add_zero, Nat.mul_assoc, Nat.mul_comm 10]
theorem dval_lt (l : List UInt8) (hd : l.all dig = true) : ∀ a, dval a l < (a + 1) * 10 ^ l.length := by
  induction l with
  | nil => intro a; simp [dval]
  | cons c r ih =>
    intro a
    simp only [List.all_cons, Bool.and_eq_true] at hd
    have h1 := ih hd.2 (dstep a c)
    have hc := hd.1
    simp only [dig, Bool.and_eq_true, decide_eq_true_eq] at hc
    show dval (dstep a c) r < (a + 1) * 10 ^ (r.length + 1)
    refine Nat.lt_of_lt_of_le h1 ?_
    rw [Nat.pow_succ, Nat.mul_comm (10 ^ r.length) 10, ← Nat.mul_assoc]
    apply Nat.mul_le_mul_right
    unfold dstep
    omega
theorem parse_dig (l : List UInt8) : ∀ a, a < 18446744073709551616 → l.all dig = true → isOk (Lib.parseUintM 18446744073709551615 a l) = if dval a l < 18446744073709551616 then some (dval a l) else none := by
  induction l with
  | nil =>
    intro a ha _
    have e : dval a [] = a := rfl
    rw [e, if_pos ha]
    rfl
  | cons c r ih =>
    intro a ha hd
    simp only [List.all_cons, Bool.and_eq_true] at hd
    have hc := hd.1
    simp only [dig, Bool.and_eq_true, decide_eq_true_eq] at hc
    have hge : a * 10 + (c.toNat - 48) ≤ dval (dstep a c) r := dval_ge r (dstep a c)
    have e : dval a (c :: r) = dval (dstep a c) r := rfl
    rw [e]
    unfold Lib.parseUintM
    rw [if_pos hc]
    by_cases c1 : 1844674407370955162 ≤ a
    · rw [if_pos c1, if_neg (by omega)]
      rfl
    · rw [if_neg c1]
      by_cases c2 : 18446744073709551615 < a * 10 + (c.toNat - 48)
      · rw [if_pos c2, if_neg (by omega)]
        rfl
      · rw [if_neg c2]
        exact ih _ (by omega) hd.2
theorem all_zeros (k : Nat) : (Lib.repeatL [48] k).all dig = true := by
  induction k with
  | zero => rfl
  | succ k ih => show ((48 : UInt8) :: Lib.repeatL [48] k).all dig = true; rw [List.all_cons, ih]; rfl
/-- what a number's magnitude says, if it fits -/
def fin (N : Nat) (neg : Bool) : Int × Bool := if N < 18446744073709551616 then sgnS N neg else (0, false)
theorem tail_dig (w part : List UInt8) (neg : Bool) (hw : w.all dig = true) (hp : part.all dig = true) (h0 : w ≠ []) : tailS w part neg = fin (dval 0 (w ++ part) * 10 ^ (4 - part.length)) neg := by
  unfold tailS
  have ha : (w ++ part ++ Lib.repeatL [48] (4 - part.length)).all dig = true := by rw [List.all_append, List.all_append, hw, hp, all_zeros]; rfl
  have hn : w ++ part ++ Lib.repeatL [48] (4 - part.length) ≠ [] := by
    intro e
    rw [List.append_assoc] at e
    exact h0 (List.append_eq_nil_iff.1 e).1
  have h := parse_dig (w ++ part ++ Lib.repeatL [48] (4 - part.length)) 0 (by decide) ha
  rw [dval_app, dval_zeros] at h
  have e : Lib.parseUintB 64 (w ++ part ++ Lib.repeatL [48] (4 - part.length)) = Lib.parseUintM 18446744073709551615 0 (w ++ part ++ Lib.repeatL [48] (4 - part.length)) := by
    unfold Lib.parseUintB
    rw [if_neg hn]
  rw [e, h]
  unfold fin
  by_cases c : dval 0 (w ++ part) * 10 ^ (4 - part.length) < 18446744073709551616
  · rw [if_pos c, if_pos c]
  · rw [if_neg c, if_neg c]
/-- the reference's reading, as a number -/
def refU (l : List UInt8) (neg : Bool) : Int × Bool :=
  match cutAt 46 l with
  | none => if l.all dig = false then (0, false) else if l = [] ∨ 1 < l.length ∧ l.head? = some 48 then (0, false) else fin (dval 0 l * 10 ^ 4) neg
  | some (w, part) => if (w.all dig && part.all dig) = false then (0, false) else if part.length < 1 ∨ 4 < part.length then (0, false) else if w = [] ∨ 1 < w.length ∧ w.head? = some 48 then (0, false)
    else fin (dval 0 (w ++ part) * 10 ^ (4 - part.length)) neg
theorem long_big (w part : List UInt8) (k : Nat) (hd : w.all dig = true) (hl : 16 < w.length) (hh : ¬ (1 < w.length ∧ w.head? = some 48)) (hk : part.length + k = 4) (neg : Bool) : fin (dval 0 (w ++ part) * 10 ^ k) neg = (0, false) := by
  have h1 : 10 ^ 16 ≤ dval 0 w := by
    cases w with
    | nil => simp at hl
    | cons c r =>
      simp only [List.all_cons, Bool.and_eq_true] at hd
      have hc := hd.1
      simp only [dig, Bool.and_eq_true, decide_eq_true_eq] at hc
      have hne : c.toNat ≠ 48 := by
        intro e
        refine hh ⟨by omega, ?_⟩
        rw [List.head?_cons, Option.some.injEq]
        exact UInt8.toNat_inj.1 e
      have h2 := dval_pow r (dstep 0 c)
      have h3 : 1 ≤ dstep 0 c := by unfold dstep; omega
      have h4 : 10 ^ 16 ≤ 10 ^ r.length := Nat.pow_le_pow_right (by decide) (by simp at hl; omega)
      exact Nat.le_trans h4 (Nat.le_trans (Nat.le_mul_of_pos_left _ (by omega)) h2)
  have h2 : 10 ^ 16 * 10 ^ part.length ≤ dval 0 (w ++ part) := by
    rw [dval_app]
    exact Nat.le_trans (Nat.mul_le_mul_right _ h1) (dval_pow part _)
  have h3 : 10 ^ 16 * 10 ^ part.length * 10 ^ k ≤ dval 0 (w ++ part) * 10 ^ k := Nat.mul_le_mul_right _ h2
  rw [Nat.mul_assoc, ← Nat.pow_add, hk] at h3
  unfold fin
  rw [if_neg (by omega)]
theorem all_not (l : List UInt8) (h : l.all dig = true) (h0 : l ≠ []) : plainS l = true := by
  unfold plainS
  rw [h]
  cases l with
  | nil => exact absurd rfl h0
  | cons a r => rfl
theorem uns_ref (l : List UInt8) (neg : Bool) : unsS l neg = refU l neg := by
  unfold unsS refU
  cases hcut : cutAt 46 l with
  | none =>
    simp only
    by_cases hd : l.all dig = true
    · by_cases h0 : l = []
      · subst h0
        rfl
      · have hp := all_not l hd h0
        rw [hp, hd, if_neg (show ¬ (true = false) by decide), if_neg (show ¬ (true = false) by decide)]
        by_cases hz : 1 < l.length ∧ l.head? = some 48
        · rw [if_pos hz, if_pos (.inr hz)]
        · rw [if_neg hz, if_neg (show ¬ (l = [] ∨ 1 < l.length ∧ l.head? = some 48) by rintro (h | h); exact h0 h; exact hz h)]
          have e : l ++ ([] : List UInt8) = l := List.append_nil l
          by_cases h16 : 16 < l.length
          · rw [if_pos h16]
            have := long_big l [] 4 hd h16 hz rfl neg
            rw [e] at this
            exact this.symm
          · rw [if_neg h16]
            have := tail_dig l [] neg hd rfl h0
            rw [e] at this
            exact this
    · have hd' : l.all dig = false := by simpa using hd
      have hp : plainS l = false := by unfold plainS; rw [hd']; rfl
      rw [hp, hd', if_pos rfl, if_pos rfl]
  | some p =>
    obtain ⟨w, part⟩ := p
    simp only
    by_cases hd : w.all dig = true
    · by_cases h0 : w = []
      · subst h0
        have hp : plainS [] = false := rfl
        rw [hp, if_pos rfl]
        by_cases hq : (([] : List UInt8).all dig && part.all dig) = false
        · rw [if_pos hq]
        · rw [if_neg hq]
          by_cases hl : part.length < 1 ∨ 4 < part.length
          · rw [if_pos hl]
          · rw [if_neg hl, if_pos (.inl rfl)]
      · have hp := all_not w hd h0
        rw [hp, if_neg (show ¬ (true = false) by decide)]
        by_cases hz : 1 < w.length ∧ w.head? = some 48
        · rw [if_pos hz]
          by_cases hq : (w.all dig && part.all dig) = false
          · rw [if_pos hq]
          · rw [if_neg hq]
            by_cases hl : part.length < 1 ∨ 4 < part.length
            · rw [if_pos hl]
            · rw [if_neg hl, if_pos (.inr hz)]
        · rw [if_neg hz]
          by_cases hq : part.all dig = true
          · rw [hd, hq, if_neg (show ¬ ((true && true) = false) by decide)]
            by_cases hl : part.length < 1 ∨ 4 < part.length
            · rw [if_pos hl]
              by_cases h16 : 16 < w.length
              · rw [if_pos h16]
              · rw [if_neg h16]
                rcases hl with hl | hl
                · have : part = [] := List.eq_nil_of_length_eq_zero (by omega)
                  subst this
                  rfl
                · by_cases hpp : plainS part = false
                  · rw [if_pos hpp]
                  · rw [if_neg hpp, if_pos hl]
            · rw [if_neg hl, if_neg (show ¬ (w = [] ∨ 1 < w.length ∧ w.head? = some 48) by rintro (h | h); exact h0 h; exact hz h)]
              have hpn : part ≠ [] := by intro e; subst e; simp at hl
              have hpp := all_not part hq hpn
              by_cases h16 : 16 < w.length
              · rw [if_pos h16]
                exact (long_big w part (4 - part.length) hd h16 hz (by omega) neg).symm
              · rw [if_neg h16, hpp, if_neg (show ¬ (true = false) by decide), if_neg (by omega)]
                exact tail_dig w part neg hd hq h0
          · have hq' : part.all dig = false := by simpa using hq
            have hpp : plainS part = false := by unfold plainS; rw [hq']; rfl
            rw [hq', Bool.and_false, if_pos rfl, hpp, if_pos rfl]
            by_cases h16 : 16 < w.length
            · rw [if_pos h16]
            · rw [if_neg h16]
    · have hd' : w.all dig = false := by simpa using hd
      have hp : plainS w = false := by unfold plainS; rw [hd']; rfl
      rw [hp, hd', if_pos rfl, Bool.false_and, if_pos rfl]
theorem dig_of (u : Nat) (h : u < 10) : (UInt8.ofNat (48 + u)).toNat = 48 + u := by
  rw [UInt8.toNat_ofNat']; omega
theorem dig_dig (u : Nat) (h : u < 10) : dig (UInt8.ofNat (48 + u)) = true := by
  unfold dig; rw [dig_of u h]; simp; omega
theorem dec_spec (u : Nat) : (decDigits u).all dig = true ∧ decDigits u ≠ [] ∧ ((decDigits u).length = 1 ∨ ∀ c, (decDigits u).head? = some c → c ≠ 48) ∧ dval 0 (decDigits u) = u ∧ (1 ≤ u → ∀ c, (decDigits u).head? = some c → c ≠ 48) := by
  induction u using Nat.strongRecOn with
  | _ u ih =>
    rw [decDigits]
    by_cases h : u < 10
    · rw [dif_pos h]
      refine ⟨by rw [List.all_cons, dig_dig u h]; rfl, by simp, .inl rfl, ?_, ?_⟩
      · show dstep 0 _ = u
        unfold dstep; rw [dig_of u h]; omega
      · intro h1 c hc e
        simp only [List.head?_cons, Option.some.injEq] at hc
        have := dig_of u h
        rw [hc, e] at this
        have e48 : (48 : UInt8).toNat = 48 := rfl
        omega
    · rw [dif_neg h]
      obtain ⟨i1, i2, _, i4, i5⟩ := ih (u / 10) (by omega)
      have hd := i5 (by omega)
      have hh : ∀ c, (decDigits (u / 10) ++ [UInt8.ofNat (48 + u % 10)]).head? = some c → c ≠ 48 := by
        intro c hc
        cases e : decDigits (u / 10) with
        | nil => exact absurd e i2
        | cons a r =>
          rw [e] at hc hd
          simp only [List.cons_append, List.head?_cons, Option.some.injEq] at hc
          exact hd c (by rw [← hc]; rfl)
      refine ⟨?_, by simp, .inr hh, ?_, fun _ => hh⟩
      · rw [List.all_append, i1, List.all_cons, dig_dig _ (by omega)]
        rfl
      · rw [dval_snoc, i4, dig_of _ (by omega)]; omega
theorem dval_base (l : List UInt8) : ∀ a, dval a l = a * 10 ^ l.length + dval 0 l := by
  induction l with
  | nil => intro a; simp [dval]
  | cons c r ih =>
    intro a
    show dval (dstep a c) r = a * 10 ^ (r.length + 1) + dval (dstep 0 c) r
    rw [ih (dstep a c), ih (dstep 0 c)]
    unfold dstep
    rw [Nat.pow_succ, Nat.add_mul, Nat.zero_mul, Nat.zero_add, Nat.mul_comm (10 ^ r.length) 10, ← Nat.mul_assoc, Nat.add_assoc]
theorem rep_snoc (k : Nat) : Lib.repeatL [48] (k + 1) = Lib.repeatL [48] k ++ [48] := by
  induction k with
  | zero => rfl
  | succ k ih =>
    show (48 : UInt8) :: Lib.repeatL [48] (k + 1) = (48 :: Lib.repeatL [48] k) ++ [48]
    rw [ih]
    rfl
theorem rtrim_split (n : Nat) : ∀ D : List UInt8, D.length = n → ∃ k, D = rtrim D ++ Lib.repeatL [48] k := by
  induction n with
  | zero =>
    intro D h
    have := List.eq_nil_of_length_eq_zero h
    subst this
    exact ⟨0, rfl⟩
  | succ n ih =>
    intro D h
    rcases List.eq_nil_or_concat D with e | ⟨y, c, e⟩
    · subst e; simp at h
    · rw [List.concat_eq_append] at e
      subst e
      rw [rtrim_snoc]
      by_cases hc : c = 48
      · subst hc
        rw [if_pos rfl]
        obtain ⟨k, hk⟩ := ih y (by simpa using h)
        refine ⟨k + 1, ?_⟩
        rw [rep_snoc, ← List.append_assoc, ← hk]
      · rw [if_neg hc]
        exact ⟨0, by simp [Lib.repeatL]⟩
theorem rep_len (k : Nat) : (Lib.repeatL [48] k).length = k := by rw [Lib.repeatL_length]; simp
theorem four (r : Nat) (h : r < 10000) : ((decDigits (10000 + r)).drop 1).all dig = true ∧ ((decDigits (10000 + r)).drop 1).length = 4 ∧ dval 0 ((decDigits (10000 + r)).drop 1) = r := by
  obtain ⟨a1, a2, _, a4, a5⟩ := dec_spec (10000 + r)
  have hh := a5 (by omega)
  cases e : decDigits (10000 + r) with
  | nil => exact absurd e a2
  | cons c t =>
    rw [e] at a1 a4 hh
    have hc48 := hh c rfl
    simp only [List.all_cons, Bool.and_eq_true] at a1
    have hc := a1.1
    simp only [dig, Bool.and_eq_true, decide_eq_true_eq] at hc
    have hc' : c.toNat ≠ 48 := fun h => hc48 (UInt8.toNat_inj.1 h)
    have hb : dval 0 (c :: t) = dstep 0 c * 10 ^ t.length + dval 0 t := dval_base t (dstep 0 c)
    have hlt := dval_lt t a1.2 0
    rw [Nat.zero_add, Nat.one_mul] at hlt
    have hd : dstep 0 c = c.toNat - 48 := by unfold dstep; omega
    rw [a4, hd] at hb
    have hlen : t.length = 4 := by
      rcases Nat.lt_trichotomy t.length 4 with h1 | h1 | h1
      · have : 10 ^ t.length ≤ 10 ^ 3 := Nat.pow_le_pow_right (by decide) (by omega)
        have h2 : (c.toNat - 48) * 10 ^ t.length ≤ 9 * 10 ^ 3 := Nat.mul_le_mul (by omega) this
        omega
      · exact h1
      · have : 10 ^ 5 ≤ 10 ^ t.length := Nat.pow_le_pow_right (by decide) (by omega)
        have h2 : 1 * 10 ^ 5 ≤ (c.toNat - 48) * 10 ^ t.length := Nat.mul_le_mul (by omega) this
        omega
    rw [hlen] at hb hlt
    refine ⟨a1.2, hlen, ?_⟩
    show dval 0 t = r
    have : (c.toNat - 48) * 10 ^ 4 = (c.toNat - 48) * 10000 := rfl
    omega
theorem cutAt_none (c : UInt8) (l : List UInt8) (h : ∀ d, d ∈ l → d ≠ c) : cutAt c l = none := by
  induction l with
  | nil => rfl
  | cons a r ih =>
    unfold cutAt
    rw [if_neg (h a (List.mem_cons_self ..)), ih (fun d hd => h d (List.mem_cons_of_mem _ hd))]
theorem cutAt_app (c : UInt8) (l r : List UInt8) (h : ∀ d, d ∈ l → d ≠ c) : cutAt c (l ++ c :: r) = some (l, r) := by
  induction l with
  | nil => show cutAt c (c :: r) = _; unfold cutAt; rw [if_pos rfl]
  | cons a s ih =>
    show cutAt c (a :: (s ++ c :: r)) = _
    unfold cutAt
    rw [if_neg (h a (List.mem_cons_self ..)), ih (fun d hd => h d (List.mem_cons_of_mem _ hd))]
theorem dig_ne (l : List UInt8) (h : l.all dig = true) (c : UInt8) (hc : dig c = false) : ∀ d, d ∈ l → d ≠ c := by
  intro d hd e
  have := List.all_eq_true.1 h d hd
  rw [e, hc] at this
  cases this
theorem head_ne (u : Nat) : ¬ (1 < (decDigits u).length ∧ (decDigits u).head? = some 48) := by
  obtain ⟨_, _, h, _, _⟩ := dec_spec u
  rintro ⟨h1, h2⟩
  rcases h with h | h
  · omega
  · exact h 48 h2 rfl
theorem ref_whole (q : Nat) (neg : Bool) : refU (decDigits q) neg = fin (q * 10000) neg := by
  obtain ⟨a1, a2, _, a4, _⟩ := dec_spec q
  unfold refU
  rw [cutAt_none 46 _ (dig_ne _ a1 46 (by decide))]
  simp only
  rw [a1, if_neg (show ¬ (true = false) by decide), if_neg (show ¬ (decDigits q = [] ∨ 1 < (decDigits q).length ∧ (decDigits q).head? = some 48) by rintro (h | h); exact a2 h; exact head_ne q h), a4]
theorem ref_point (q r : Nat) (h0 : 0 < r) (h1 : r < 10000) (neg : Bool) : refU (decDigits q ++ 46 :: rtrim ((decDigits (10000 + r)).drop 1)) neg = fin (q * 10000 + r) neg := by
  obtain ⟨a1, a2, _, a4, _⟩ := dec_spec q
  obtain ⟨b1, b2, b3⟩ := four r h1
  obtain ⟨D, hD⟩ : ∃ D, (decDigits (10000 + r)).drop 1 = D := ⟨_, rfl⟩
  rw [hD] at b1 b2 b3 ⊢
  obtain ⟨k, hk⟩ := rtrim_split D.length D rfl
  obtain ⟨Pt, hP⟩ : ∃ Pt, rtrim D = Pt := ⟨_, rfl⟩
  rw [hP] at hk ⊢
  have l1 : Pt.length + k = 4 := by rw [hk, List.length_append, rep_len] at b2; exact b2
  have d1 : dval 0 Pt * 10 ^ k = r := by rw [hk, dval_app, dval_zeros] at b3; exact b3
  have p1 : Pt.all dig = true := by rw [hk, List.all_append, Bool.and_eq_true] at b1; exact b1.1
  have p0 : 1 ≤ Pt.length := by
    cases Pt with
    | nil => simp [dval] at d1; omega
    | cons a s => simp
  unfold refU
  rw [cutAt_app 46 _ _ (dig_ne _ a1 46 (by decide))]
  simp only
  rw [a1, p1, if_neg (show ¬ ((true && true) = false) by decide), if_neg (show ¬ (Pt.length < 1 ∨ 4 < Pt.length) by omega), if_neg (show ¬ (decDigits q = [] ∨ 1 < (decDigits q).length ∧ (decDigits q).head? = some 48) by rintro (h | h); exact a2 h; exact head_ne q h)]
  congr 1
  rw [dval_app, dval_base, a4, show 4 - Pt.length = k by omega, Nat.add_mul, d1, Nat.mul_assoc, ← Nat.pow_add, l1]
/-- what is printed is read again -/
theorem parse_print (a : Int) (h0 : -9223372036854775808 ≤ a) (h1 : a ≤ 9223372036854775807) : parseS (printS a) = (a, true) := by
  obtain ⟨U, hU⟩ : ∃ U, decDigits (a.natAbs / 10000) ++ (if 0 < a.natAbs % 10000 then 46 :: rtrim ((decDigits (10000 + a.natAbs % 10000)).drop 1) else []) = U := ⟨_, rfl⟩
  have href : ∀ neg, unsS U neg = fin a.natAbs neg := by
    intro neg
    rw [uns_ref, ← hU]
    by_cases c : 0 < a.natAbs % 10000
    · rw [if_pos c, ref_point _ _ c (by omega)]
      congr 1
      omega
    · rw [if_neg c, List.append_nil, ref_whole]
      congr 1
      omega
  have hfin : ∀ neg, neg = decide (a < 0) → fin a.natAbs neg = (a, true) := by
    intro neg hn
    subst hn
    unfold fin sgnS
    rw [if_pos (by omega)]
    by_cases c : a < 0
    · rw [decide_eq_true c, if_pos rfl, if_pos (by omega), show -((a.natAbs : Nat) : Int) = a by omega]
    · rw [decide_eq_false c, if_neg (by decide), if_pos (by omega), show ((a.natAbs : Nat) : Int) = a by omega]
  unfold parseS printS
  rw [hU]
  by_cases c : a < 0
  · rw [if_pos c]
    have e : dropHead 45 ([45] ++ U) = some U := rfl
    rw [e]
    simp only
    rw [href, hfin true (decide_eq_true c).symm]
  · rw [if_neg c, List.nil_append]
    have e : dropHead 45 U = none := by
      obtain ⟨a1, a2, _, _, _⟩ := dec_spec (a.natAbs / 10000)
      cases ed : decDigits (a.natAbs / 10000) with
      | nil => exact absurd ed a2
      | cons x t =>
        rw [ed] at hU a1
        rw [← hU]
        have hx : x ≠ 45 := dig_ne _ a1 45 (by decide) x (List.mem_cons_self ..)
        show dropHead 45 (x :: _) = none
        exact if_neg hx
    rw [e]
    simp only
    rw [href, hfin false (decide_eq_false c).symm]
end Go.Proofs.YtfnbflhoaemmeaaGreatDoor.EFix
