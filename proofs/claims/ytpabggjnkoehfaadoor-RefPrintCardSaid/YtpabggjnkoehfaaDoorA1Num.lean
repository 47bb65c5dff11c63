/- A number's text: strconv's reading and printing of it agree with the reference's loop over its digits. Plain lists; condition: the bound is below 10^15. -/
import Derived.Lib.ItoaNum
import Derived.Lib.ParseIntB
namespace Go.Proofs.YtpabggjnkoehfaaDoor.A1
open Go.Lib
def isDig (c : UInt8) : Prop := 48 ≤ c.toNat ∧ c.toNat ≤ 57
instance (c : UInt8) : Decidable (isDig c) := by unfold isDig; infer_instance
def dstep (a : Nat) (c : UInt8) : Nat := a * 10 + (c.toNat - 48)
def dval (a : Nat) (l : List UInt8) : Nat := l.foldl dstep a
theorem dval_snoc (a : Nat) (l : List UInt8) (c : UInt8) : dval a (l ++ [c]) = dval a l * 10 + (c.toNat - 48) := by
  unfold dval; rw [List.foldl_append]; rfl
theorem dval_ge (l : List UInt8) : ∀ a, a ≤ dval a l := by
  induction l with
  | nil => intro a; exact Nat.le_refl _
  | cons c r ih =>
    intro a
    have := ih (dstep a c)
    show a ≤ dval (dstep a c) r
    unfold dstep at *; omega
/-- digits, one or more, no 0 ahead but for 0 -/
def canon (l : List UInt8) : Prop := l ≠ [] ∧ (∀ c, c ∈ l → isDig c) ∧ (l.length = 1 ∨ ∀ c, l.head? = some c → c.toNat ≠ 48)
instance (l : List UInt8) : Decidable (canon l) := by
  unfold canon
  cases l with
  | nil => exact isFalse (fun h => h.1 rfl)
  | cons c r =>
    have : Decidable (∀ d, (c :: r).head? = some d → d.toNat ≠ 48) := decidable_of_iff (c.toNat ≠ 48) (by simp)
    infer_instance
theorem dig_of (u : Nat) (h : u < 10) : (UInt8.ofNat (48 + u)).toNat = 48 + u := by
  rw [UInt8.toNat_ofNat']; omega
theorem ofNat_dig (c : UInt8) (h : isDig c) : UInt8.ofNat (48 + (c.toNat - 48)) = c := by
  unfold isDig at h
  rw [show 48 + (c.toNat - 48) = c.toNat by omega]
  exact UInt8.ofNat_toNat
theorem dec_canon (u : Nat) : canon (decDigits u) ∧ dval 0 (decDigits u) = u ∧ (1 ≤ u → ∀ c, (decDigits u).head? = some c → c.toNat ≠ 48) := by
  induction u using Nat.strongRecOn with
  | _ u ih =>
    rw [decDigits]
    by_cases h : u < 10
    · rw [dif_pos h]
      refine ⟨⟨by simp, ?_, .inl rfl⟩, ?_, ?_⟩
      · intro c hc
        rw [List.mem_singleton.1 hc]
        unfold isDig; rw [dig_of u h]; omega
      · show dstep 0 _ = u
        unfold dstep; rw [dig_of u h]; omega
      · intro h1 c hc
        simp only [List.head?_cons, Option.some.injEq] at hc
        rw [← hc, dig_of u h]; omega
    · rw [dif_neg h]
      obtain ⟨⟨i1, i2, _⟩, i4, i5⟩ := ih (u / 10) (by omega)
      have hd := i5 (by omega)
      have hh : ∀ c, (decDigits (u / 10) ++ [UInt8.ofNat (48 + u % 10)]).head? = some c → c.toNat ≠ 48 := by
        intro c hc
        cases e : decDigits (u / 10) with
        | nil => exact absurd e i1
        | cons a r =>
          rw [e] at hc hd
          simp only [List.cons_append, List.head?_cons, Option.some.injEq] at hc
          exact hd c (by rw [← hc]; rfl)
      refine ⟨⟨by simp, ?_, .inr hh⟩, ?_, fun _ => hh⟩
      · intro c hc
        rcases List.mem_append.1 hc with hc | hc
        · exact i2 c hc
        · rw [List.mem_singleton.1 hc]
          unfold isDig; rw [dig_of _ (by omega)]; omega
      · rw [dval_snoc, i4, dig_of _ (by omega)]; omega
theorem canon_dec (n : Nat) : ∀ l : List UInt8, l.length = n → canon l → decDigits (dval 0 l) = l := by
  induction n with
  | zero => intro l hl hc; exact absurd (List.eq_nil_of_length_eq_zero hl) hc.1
  | succ n ih =>
    intro l hl hc
    rcases List.eq_nil_or_concat l with h | ⟨l', c, h⟩
    · exact absurd h hc.1
    · rw [List.concat_eq_append] at h
      subst h
      have hcd : isDig c := hc.2.1 c (by simp)
      rw [dval_snoc]
      by_cases h0 : l' = []
      · subst h0
        have : dval 0 [] = 0 := rfl
        rw [this, Nat.zero_mul, Nat.zero_add, decDigits]
        unfold isDig at hcd
        rw [dif_pos (by omega), ofNat_dig c hcd]; rfl
      · have hl' : l'.length = n := by simpa using hl
        have hpos : 0 < l'.length := List.length_pos_iff.2 h0
        have hh : ∀ d, l'.head? = some d → d.toNat ≠ 48 := by
          rcases hc.2.2 with h1 | h1
          · simp at h1; exact absurd h1 h0
          · intro d hd
            refine h1 d ?_
            cases l' with
            | nil => cases hd
            | cons a r => simpa using hd
        have hc' : canon l' := ⟨h0, fun d hd => hc.2.1 d (List.mem_append_left _ hd), .inr hh⟩
        have e := ih l' hl' hc'
        have hv : 1 ≤ dval 0 l' := by
          cases l' with
          | nil => exact absurd rfl h0
          | cons a r =>
            have ha := hh a rfl
            have hb : isDig a := hc'.2.1 a (List.mem_cons_self ..)
            unfold isDig at hb
            have := dval_ge r (dstep 0 a)
            show 1 ≤ dval (dstep 0 a) r
            unfold dstep at *; omega
        unfold isDig at hcd
        rw [decDigits, dif_neg (by omega)]
        have e1 : (dval 0 l' * 10 + (c.toNat - 48)) / 10 = dval 0 l' := by omega
        have e2 : (dval 0 l' * 10 + (c.toNat - 48)) % 10 = c.toNat - 48 := by omega
        rw [e1, e2, e, ofNat_dig c hcd]
theorem parse_ok (M : Nat) (hM : 1000000000000000 ≤ M) (l : List UInt8) : ∀ a, (∀ c, c ∈ l → isDig c) → dval a l < 1000000000000000 → parseUintM M a l = .ok (dval a l) := by
  induction l with
  | nil => intro a _ _; rfl
  | cons c r ih =>
    intro a hd hv
    have hc := hd c (List.mem_cons_self ..)
    have hv' : dval (dstep a c) r < 1000000000000000 := hv
    have hge : a * 10 + (c.toNat - 48) ≤ dval (dstep a c) r := dval_ge r (dstep a c)
    unfold parseUintM
    unfold isDig at hc
    rw [if_pos hc, if_neg (by omega), if_neg (by omega)]
    exact ih (dstep a c) (fun d h => hd d (List.mem_cons_of_mem _ h)) hv'
theorem dval_lt (l : List UInt8) (hd : ∀ c, c ∈ l → isDig c) : ∀ a, dval a l < (a + 1) * 10 ^ l.length := by
  induction l with
  | nil => intro a; show a < (a + 1) * 1; omega
  | cons c r ih =>
    intro a
    have h := ih (fun d h => hd d (List.mem_cons_of_mem _ h)) (dstep a c)
    have hc := hd c (List.mem_cons_self ..)
    unfold isDig at hc
    show dval (dstep a c) r < (a + 1) * 10 ^ (r.length + 1)
    refine Nat.lt_of_lt_of_le h ?_
    rw [Nat.pow_succ, Nat.mul_comm (10 ^ r.length) 10, ← Nat.mul_assoc]
    refine Nat.mul_le_mul_right _ ?_
    unfold dstep; omega
theorem dec_len (n : Nat) : ∀ u, u < 10 ^ (n + 1) → (decDigits u).length ≤ n + 1 := by
  induction n with
  | zero =>
    intro u h
    rw [decDigits, dif_pos (by simpa using h)]
    exact Nat.le_refl _
  | succ n ih =>
    intro u h
    rw [decDigits]
    by_cases h1 : u < 10
    · rw [dif_pos h1]; simp
    · rw [dif_neg h1, List.length_append]
      have e := ih (u / 10) (by rw [Nat.pow_succ] at h; omega)
      simp only [List.length_singleton]
      omega
/-- the reference's reading of a number -/
def numS (l : List UInt8) (most : Int) : Int := if canon l ∧ l.length ≤ 15 ∧ (dval 0 l : Int) ≤ most then (dval 0 l : Int) else -1
def numberF (s : List UInt8) (most : Int) : Int :=
  match Lib.parseUintB 62 s with
  | .ok u => if Lib.decDigits u = s ∧ (u : Int) ≤ most then u else -1
  | _ => -1
theorem number_eq (l : List UInt8) (most : Int) (hm : most < 1000000000000000) : numberF l most = numS l most := by
  unfold numS
  by_cases hc : canon l ∧ l.length ≤ 15
  · have hp : parseUintB 62 l = .ok (dval 0 l) := by
      unfold parseUintB
      rw [if_neg hc.1.1]
      refine parse_ok _ (by decide) l 0 hc.1.2.1 ?_
      have h := dval_lt l hc.1.2.1 0
      have : 10 ^ l.length ≤ 10 ^ 15 := Nat.pow_le_pow_right (by omega) hc.2
      omega
    have hd := canon_dec l.length l rfl hc.1
    unfold numberF
    rw [hp]
    show (if decDigits (dval 0 l) = l ∧ (dval 0 l : Int) ≤ most then ((dval 0 l : Nat) : Int) else -1) = _
    by_cases h : (dval 0 l : Int) ≤ most
    · rw [if_pos ⟨hd, h⟩, if_pos ⟨hc.1, hc.2, h⟩]
    · rw [if_neg (fun x => h x.2), if_neg (fun x => h x.2.2)]
  · rw [if_neg (fun x => hc ⟨x.1, x.2.1⟩)]
    unfold numberF
    cases hp : parseUintB 62 l with
    | ok u =>
      show (if decDigits u = l ∧ (u : Int) ≤ most then (u : Int) else -1) = -1
      by_cases h : decDigits u = l ∧ (u : Int) ≤ most
      · exfalso
        refine hc ⟨by rw [← h.1]; exact (dec_canon u).1, ?_⟩
        rw [← h.1]
        exact dec_len 14 u (by have := h.2; omega)
      · rw [if_neg h]
    | _ => rfl
end Go.Proofs.YtpabggjnkoehfaaDoor.A1
