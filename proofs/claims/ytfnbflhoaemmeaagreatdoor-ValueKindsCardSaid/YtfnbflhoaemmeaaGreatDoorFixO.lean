/- The reference's Parse, told as what fixnum.Parse says. Condition: a text of at most a thousand bytes. -/
import Derived.Test.YtfnbflhoaemmeaaGreatDoorFixN
import Derived.Test.YtfnbflhoaemmeaaGreatDoorFixT
import Derived.Test.YtfnbflhoaemmeaaGreatDoorRp
namespace Go.Proofs.YtfnbflhoaemmeaaGreatDoor.Ext
open Go.RowKit Go.Lib Go.Proofs.YtfnbflhoaemmeaaGreatDoorW.PrintWords Go.Proofs.YtfnbflhoaemmeaaGreatDoor.EFix
set_option linter.unusedVariables false
/-- the reference's times(w, 10) -/
def t10 (V : List Int) : List Int := tR V (oneL 10) 6
theorem ten_dig : dig6 (oneL 10) := one_dig 10 (by decide)
theorem t10_ok (V : List Int) (h : dig6 V) (hl : V.length = 6) : dig6 (t10 V) ∧ (t10 V).length = 6 := times_dig V (oneL 10) h ten_dig
/-- a number, or one far beyond -/
def cap (N : Nat) (V : List Int) : Prop := dig6 V ∧ V.length = 6 ∧ ((N < 79228162514264337593543950336 ∧ val6 V = (N : Int)) ∨ (79228162514264337593543950336 ≤ N ∧ 79228162514264337593543950336 ≤ val6 V ∧ val6 V < 158456325028528675187087900672))
theorem val_hi (V : List Int) (h : dig6 V) (hv : val6 V < 340282366920938463463374607431768211456) : V.getD 4 0 = 0 ∧ V.getD 5 0 = 0 := by
  unfold val6 at hv
  have h0 := h 0; have h1 := h 1; have h2 := h 2; have h3 := h 3; have h4 := h 4; have h5 := h 5
  omega
theorem val_ten (V : List Int) (h : dig6 V) (hv : val6 V < 340282366920938463463374607431768211456) : val6 (t10 V) = val6 V * 10 := by
  obtain ⟨h4, h5⟩ := val_hi V h hv
  have e := val_times V (oneL 10) h ten_dig h4 h5
  have o0 : (oneL 10).getD 0 0 = 10 := rfl
  have o1 : (oneL 10).getD 1 0 = 0 := rfl
  rw [o0, o1] at e
  show val6 (tR V (oneL 10) 6) = _
  rw [e]
  unfold val6
  rw [h4, h5]
  omega
theorem val_norm (X : List Int) (h : dig6 X) (hl : X.length = 6) (hv : val6 X < 340282366920938463463374607431768211456) :
    (val6 X < 79228162514264337593543950336 ∧ val6 (normW X) = val6 X) ∨ (79228162514264337593543950336 ≤ val6 X ∧ 79228162514264337593543950336 ≤ val6 (normW X) ∧ val6 (normW X) < 158456325028528675187087900672) := by
  obtain ⟨h4, h5⟩ := val_hi X h hv
  have h0 := h 0; have h1 := h 1; have h2 := h 2; have h3 := h 3
  unfold normW
  by_cases c : X.getD 3 0 = 0
  · rw [if_pos c]
    left
    refine ⟨?_, rfl⟩
    unfold val6
    rw [c, h4, h5]
    omega
  · rw [if_neg c]
    right
    have e : val6 (((X.set 4 0).set 5 0).set 3 1) = X.getD 0 0 + X.getD 1 0 * 4294967296 + X.getD 2 0 * 18446744073709551616 + 79228162514264337593543950336 := by
      have l1 : (X.set 4 0).length = 6 := by simpa using hl
      have l2 : ((X.set 4 0).set 5 0).length = 6 := by simpa using hl
      unfold val6
      simp only [set_getD _ _ _ _ (show 3 < ((X.set 4 0).set 5 0).length by omega), set_getD _ _ _ _ (show 5 < (X.set 4 0).length by omega), set_getD _ _ _ _ (show 4 < X.length by omega)]
      simp
    rw [e]
    unfold val6
    rw [h4, h5]
    omega
theorem cap_step (N : Nat) (V : List Int) (d : Nat) (h : cap N V) (hd : d ≤ 9) : cap (N * 10 + d) (digW t10 V (d : Int)) := by
  obtain ⟨h1, h2, h3⟩ := h
  have hv : val6 V < 158456325028528675187087900672 := by omega
  have hv0 : 0 ≤ val6 V := by omega
  obtain ⟨t1, t2⟩ := t10_ok V h1 h2
  have e10 := val_ten V h1 (by omega)
  have hone := one_dig d (by omega)
  have ed : (d : Int).toNat = d := Int.toNat_natCast d
  have eo := val_one d
  have ep := val_plus (t10 V) (oneL d) t1 hone (by rw [e10, eo]; omega)
  have hPd := plus_dig (t10 V) (oneL d) 6
  have hPl := plusR_len (t10 V) (oneL d) 6
  unfold digW
  rw [ed]
  obtain ⟨X, hX⟩ : ∃ X, plusR (t10 V) (oneL d) 6 = X := ⟨_, rfl⟩
  rw [hX] at ep hPd hPl ⊢
  rw [e10, eo] at ep
  have hn := val_norm X hPd hPl (by omega)
  refine ⟨norm_dig X hPd, norm_len X hPl, ?_⟩
  omega
theorem cap_pow (N : Nat) (V : List Int) (h : cap N V) : ∀ k, k ≤ 4 → dig6 (tpow t10 V k) ∧ (tpow t10 V k).length = 6 ∧ val6 (tpow t10 V k) = val6 V * 10 ^ k
  | 0, _ => ⟨h.1, h.2.1, by show val6 V = val6 V * 10 ^ 0; rw [Int.pow_zero, Int.mul_one]⟩
  | k + 1, hk => by
    obtain ⟨a1, a2, a3⟩ := cap_pow N V h k (by omega)
    obtain ⟨b1, b2⟩ := t10_ok _ a1 a2
    refine ⟨b1, b2, ?_⟩
    have hv0 : 0 ≤ val6 V := by have := h.2.2; omega
    have hv : val6 V < 158456325028528675187087900672 := by have := h.2.2; omega
    have hp : (10 : Int) ^ k ≤ 1000 := by
      have h1 : (10 : Nat) ^ k ≤ 10 ^ 3 := Nat.pow_le_pow_right (by decide) (by omega)
      have e : ((10 ^ k : Nat) : Int) = (10 : Int) ^ k := by rw [Int.natCast_pow]; rfl
      rw [← e]
      exact Int.ofNat_le.2 h1
    have hp0 : 0 ≤ (10 : Int) ^ k := Int.pow_nonneg (by decide)
    have hb : val6 V * 10 ^ k ≤ 158456325028528675187087900672 * 1000 := Int.mul_le_mul (by omega) hp hp0 (by decide)
    show val6 (t10 (tpow t10 V k)) = val6 V * 10 ^ (k + 1)
    rw [val_ten _ a1 (by rw [a3]; omega), a3, Int.pow_succ, Int.mul_assoc]
theorem cap_fin (N : Nat) (V : List Int) (h : cap N V) (k : Nat) (hk : k ≤ 4) (neg : Bool) : fixL (tpow t10 V k) neg = fin (N * 10 ^ k) neg := by
  obtain ⟨a1, a2, a3⟩ := cap_pow N V h k hk
  rw [fix_val _ neg a1, a3]
  unfold fin
  have hp1 : 1 ≤ 10 ^ k := Nat.one_le_pow _ _ (by decide)
  rcases h.2.2 with ⟨h1, h2⟩ | ⟨h1, h2, h3⟩
  · have e : val6 V * 10 ^ k = ((N * 10 ^ k : Nat) : Int) := by rw [h2, Int.natCast_mul, Int.natCast_pow]; rfl
    rw [e]
    by_cases c : N * 10 ^ k < 18446744073709551616
    · rw [if_pos (by omega), if_pos c]
      unfold sgnI sgnS
      obtain ⟨u, hu⟩ : ∃ u, N * 10 ^ k = u := ⟨_, rfl⟩
      rw [hu]
      cases neg
      · simp only [Bool.false_eq_true, if_false]
        by_cases c2 : u ≤ 9223372036854775807
        · rw [if_pos c2, if_pos (by omega)]
        · rw [if_neg c2, if_neg (by omega)]
      · simp only [if_true]
        by_cases c2 : u ≤ 9223372036854775808
        · rw [if_pos c2, if_pos (by omega)]
        · rw [if_neg c2, if_neg (by omega)]
    · rw [if_neg (by omega), if_neg c]
  · have hN : N ≤ N * 10 ^ k := Nat.le_mul_of_pos_right _ hp1
    have e : ((10 ^ k : Nat) : Int) = (10 : Int) ^ k := by rw [Int.natCast_pow]; rfl
    have h1k : (1 : Int) ≤ 10 ^ k := by rw [← e]; exact Int.ofNat_le.2 hp1
    have hV : val6 V * 1 ≤ val6 V * 10 ^ k := Int.mul_le_mul_of_nonneg_left h1k (by omega)
    rw [if_neg (by omega), if_neg (by omega)]
/-- what is no number: no digits alone, and no digits around one point -/
def bad (t : List UInt8) : Prop := t.all dig = false ∧ ∀ w p, t = w ++ 46 :: p → w.all dig = true → p.all dig = false
def good (t : List UInt8) : Option (List Int × Option Nat) → Prop
  | none => bad t
  | some (V, none) => t.all dig = true ∧ cap (dval 0 t) V
  | some (V, some j) => ∃ w p, t = w ++ 46 :: p ∧ w.length = j ∧ w.all dig = true ∧ p.all dig = true ∧ cap (dval 0 (w ++ p)) V
theorem dig46 : dig 46 = false := by decide
theorem cap0 : cap 0 z6 := ⟨z_dig, rfl, .inl ⟨by decide, rfl⟩⟩
theorem dig_nat (c : UInt8) : dig c = true ↔ ¬ ((c.toNat : Int) < 48 ∨ 57 < (c.toNat : Int)) := by
  unfold dig
  rw [Bool.and_eq_true, decide_eq_true_eq, decide_eq_true_eq]
  omega
theorem good_step (t : List UInt8) (c : UInt8) (st : List Int × Option Nat) (i : Nat) (hi : t.length = i) (h : good t (some st)) : good (t ++ [c]) (pStep t10 st i (c.toNat : Int)) := by
  obtain ⟨V, pt⟩ := st
  unfold pStep
  by_cases c1 : (c.toNat : Int) = 46 ∧ (V, pt).2 = none
  · rw [if_pos c1]
    obtain ⟨c46, hpt⟩ := c1
    dsimp only at hpt
    subst hpt
    have ec : c = 46 := UInt8.toNat_inj.1 (by have : (46 : UInt8).toNat = 46 := rfl; omega)
    subst ec
    exact ⟨t, [], rfl, hi, h.1, rfl, by rw [List.append_nil]; exact h.2⟩
  · rw [if_neg c1]
    by_cases c2 : (c.toNat : Int) < 48 ∨ 57 < (c.toNat : Int)
    · rw [if_pos c2]
      have hc : dig c = false := by
        cases hd : dig c with
        | false => rfl
        | true => exact absurd c2 ((dig_nat c).1 hd)
      cases pt with
      | none =>
        refine ⟨by rw [List.all_append, List.all_cons, hc, Bool.false_and, Bool.and_false], fun w p e hw => ?_⟩
        exfalso
        have hm : (46 : UInt8) ∈ t ++ [c] := by rw [e]; simp
        rcases List.mem_append.1 hm with hm | hm
        · have := List.all_eq_true.1 h.1 46 hm
          rw [dig46] at this
          cases this
        · have := List.mem_singleton.1 hm
          subst this
          exact c1 ⟨rfl, rfl⟩
      | some j =>
        obtain ⟨w, p, e, hw, hwd, hpd, _⟩ := h
        refine ⟨?_, fun w' p' e' hw' => ?_⟩
        · rw [e]
          simp [dig46]
        · have e1 : (t ++ [c]) = w ++ 46 :: (p ++ [c]) := by rw [e]; simp
          have k1 := cutAt_app 46 w (p ++ [c]) (dig_ne w hwd 46 dig46)
          have k2 := cutAt_app 46 w' p' (dig_ne w' hw' 46 dig46)
          rw [← e1] at k1
          rw [← e', k1] at k2
          injection k2 with k2
          injection k2 with _ k3
          rw [← k3, List.all_append, List.all_cons, hc, Bool.false_and, Bool.and_false]
    · rw [if_neg c2]
      have hc : dig c = true := (dig_nat c).2 c2
      have h9 : c.toNat - 48 ≤ 9 := by omega
      have ecast : ((c.toNat : Int) - 48) = ((c.toNat - 48 : Nat) : Int) := by omega
      cases pt with
      | none =>
        refine ⟨by rw [List.all_append, List.all_cons, hc, h.1]; rfl, ?_⟩
        rw [dval_snoc]
        have := cap_step _ V (c.toNat - 48) h.2 h9
        rw [← ecast] at this
        exact this
      | some j =>
        obtain ⟨w, p, e, hw, hwd, hpd, hcap⟩ := h
        refine ⟨w, p ++ [c], by rw [e]; simp, hw, hwd, by rw [List.all_append, List.all_cons, hc, hpd]; rfl, ?_⟩
        rw [← List.append_assoc, dval_snoc]
        have := cap_step _ V (c.toNat - 48) hcap h9
        rw [← ecast] at this
        exact this
theorem bad_step (t : List UInt8) (c : UInt8) (h : bad t) : bad (t ++ [c]) := by
  refine ⟨by rw [List.all_append, h.1, Bool.false_and], fun w p e hw => ?_⟩
  rcases List.eq_nil_or_concat p with hp | ⟨q, d, hp⟩
  · subst hp
    have := (List.append_inj' e rfl).1
    have h1 := h.1
    rw [this, hw] at h1
    cases h1
  · rw [List.concat_eq_append] at hp
    subst hp
    have e2 : t ++ [c] = (w ++ 46 :: q) ++ [d] := by rw [e]; simp
    have := (List.append_inj' e2 rfl).1
    have := h.2 w q this hw
    rw [List.all_append, this, Bool.false_and]
theorem pSt_good (x : ByteArray) : ∀ i, i ≤ x.size → good ((by_ x).take i) (pSt t10 x i)
  | 0, _ => ⟨rfl, cap0⟩
  | i + 1, hi => by
    have ih := pSt_good x i (by omega)
    have hl : i < (by_ x).length := by rw [by_len]; omega
    have e : (by_ x).take (i + 1) = (by_ x).take i ++ [(by_ x)[i]] := by rw [List.take_add_one, List.getElem?_eq_getElem hl]; rfl
    have eb := bt_by x i hl
    rw [e]
    show good _ (match pSt t10 x i with | none => none | some st => pStep t10 st i (bt x i))
    cases hp : pSt t10 x i with
    | none =>
      rw [hp] at ih
      exact bad_step _ _ ih
    | some st =>
      rw [hp] at ih
      dsimp only
      rw [eb]
      exact good_step _ _ st i (by rw [List.length_take]; omega) ih
theorem endP_ref (x : ByteArray) (hx : x.size ≤ 1000) (neg : Bool) : endP t10 x neg = refU (by_ x) neg := by
  have h := pSt_good x x.size (Nat.le_refl _)
  rw [List.take_of_length_le (by rw [by_len]; exact Nat.le_refl _)] at h
  have hlen := by_len x
  unfold endP refU
  cases hp : pSt t10 x x.size with
  | none =>
    rw [hp] at h
    cases hcut : cutAt 46 (by_ x) with
    | none => dsimp only; rw [if_pos h.1]
    | some q =>
      obtain ⟨w, part⟩ := q
      dsimp only
      by_cases hw : w.all dig = true
      · have := h.2 w part (cutAt_len' 46 _ _ hcut) hw
        rw [this, Bool.and_false, if_pos rfl]
      · have hw' : w.all dig = false := by simpa using hw
        rw [hw', Bool.false_and, if_pos rfl]
  | some st =>
    obtain ⟨V, pt⟩ := st
    rw [hp] at h
    cases pt with
    | none =>
      obtain ⟨h1, h2⟩ := h
      rw [cutAt_none 46 _ (dig_ne _ h1 46 dig46)]
      dsimp only
      rw [h1, if_neg (show ¬ (true = false) by decide)]
      by_cases c0 : x.size = 0
      · rw [if_pos (.inl c0), if_pos (.inl (List.eq_nil_of_length_eq_zero (by omega)))]
      · have n0 : by_ x ≠ [] := fun e => c0 (by rw [← hlen, e]; rfl)
        by_cases c1 : 1 < x.size ∧ bt x 0 = 48
        · rw [if_pos (.inr c1), if_pos (.inr ⟨by omega, (head_by x c1.1).1 c1.2⟩)]
        · rw [if_neg (show ¬ (x.size = 0 ∨ 1 < x.size ∧ bt x 0 = 48) by rintro (h | h); exact c0 h; exact c1 h), if_neg (show ¬ (by_ x = [] ∨ 1 < (by_ x).length ∧ (by_ x).head? = some 48) by
            rintro (h | h)
            · exact n0 h
            · exact c1 ⟨by omega, (head_by x (by omega)).2 h.2⟩)]
          exact cap_fin _ V h2 4 (by omega) neg
    | some j =>
      obtain ⟨w, p, e, hw, hwd, hpd, hcap⟩ := h
      rw [e, cutAt_app 46 w p (dig_ne w hwd 46 dig46)]
      dsimp only
      have el : x.size = j + p.length + 1 := by rw [← hlen, e, List.length_append, List.length_cons, hw]; omega
      rw [hwd, hpd, if_neg (show ¬ ((true && true) = false) by decide)]
      by_cases cb : p.length < 1 ∨ 4 < p.length
      · rw [if_pos (show x.size < j + 2 ∨ j + 5 < x.size by omega), if_pos cb]
      · rw [if_neg (show ¬ (x.size < j + 2 ∨ j + 5 < x.size) by omega), if_neg cb]
        have hh : 1 < j → ((bt x 0 = 48) ↔ w.head? = some 48) := fun hj => by
          rw [head_by x (by omega), e]
          cases w with
          | nil => simp at hw; omega
          | cons a r => simp
        by_cases c0 : j = 0
        · rw [if_pos (.inl c0), if_pos (.inl (List.eq_nil_of_length_eq_zero (by omega)))]
        · have n0 : w ≠ [] := fun e => c0 (by rw [← hw, e]; rfl)
          by_cases c1 : 1 < j ∧ bt x 0 = 48
          · rw [if_pos (.inr c1), if_pos (.inr ⟨by omega, (hh c1.1).1 c1.2⟩)]
          · rw [if_neg (show ¬ (j = 0 ∨ 1 < j ∧ bt x 0 = 48) by rintro (h | h); exact c0 h; exact c1 h), if_neg (show ¬ (w = [] ∨ 1 < w.length ∧ w.head? = some 48) by
              rintro (h | h)
              · exact n0 h
              · exact c1 ⟨by omega, (hh (by omega)).2 h.2⟩)]
            rw [show x.size - j - 1 = p.length by omega]
            exact cap_fin _ V hcap (4 - p.length) (by omega) neg
theorem refP_parse (x : ByteArray) (hx : x.size ≤ 1000) : refP t10 x = parseS (by_ x) := by
  unfold refP parseS
  have hlen := by_len x
  by_cases c : 0 < x.size ∧ bt x 0 = 45
  · rw [if_pos c]
    have h0 : 0 < (by_ x).length := by omega
    have eb := bt_by x 0 h0
    have hd : dropHead 45 (by_ x) = some ((by_ x).drop 1) := by
      cases e : by_ x with
      | nil => rw [e] at h0; simp at h0
      | cons a r =>
        have ha : a = 45 := by
          have h1 : bt x ((0 : Nat) : Int) = 45 := c.2
          rw [h1] at eb
          simp only [e, List.getElem_cons_zero] at eb
          exact UInt8.toNat_inj.1 (by have : (45 : UInt8).toNat = 45 := rfl; omega)
        subst ha
        rfl
    rw [hd]
    dsimp only
    rw [uns_ref, ← by_drop x 1]
    exact endP_ref _ (by rw [ByteArray.size_extract]; omega) true
  · rw [if_neg c]
    have hd : dropHead 45 (by_ x) = none := by
      cases e : by_ x with
      | nil => rfl
      | cons a r =>
        have h0 : 0 < (by_ x).length := by rw [e]; simp
        have eb := bt_by x 0 h0
        simp only [e, List.getElem_cons_zero] at eb
        refine if_neg (fun ha => c ⟨by omega, ?_⟩)
        subst ha
        exact eb
    rw [hd]
    dsimp only
    rw [uns_ref]
    exact endP_ref x hx false
/-- the reference's Parse -/
theorem refParse_calls (hc : ∀ V w, dig6 V → V.length = 6 → Calls Tryz.prog 72 #[.agg (cs6 V), .int .u64 10] w fun e w' => e = .returned (.agg (cs6 (t10 V))) ∧ Below w.heap.size w w') (x : ByteArray) (hx : x.size ≤ 1000) (w : World) :
    Calls Tryz.prog 46 #[.string x] w fun e w' => e = .returned (.tuple #[.int .i64 (parseS (by_ x)).1, .bool (parseS (by_ x)).2]) ∧ Below w.heap.size w w' := by
  have h := refP_walk t10 t10_ok hc x hx w
  rw [refP_parse x hx] at h
  exact h
end Go.Proofs.YtfnbflhoaemmeaaGreatDoor.Ext
