/- Writing references: the program's printed function and the reference's answer alike. Conditions: enough rounds; sheets' names below 1,000 bytes. -/
import Derived.Test.YtpabggjnkoehfaaDoorA1Par
import Derived.Test.YtpabggjnkoehfaaDoorERef6
namespace Go.Proofs.YtpabggjnkoehfaaDoor.ERef
open Go.RowKit Go.Lib Go.Proofs.YtpabggjnkoehfaaDoorW.PrintWords Go.Proofs.YtpabggjnkoehfaaDoorW.PrintLast Go.Proofs.YtpabggjnkoehfaaDoor.Ext Go.Proofs.YtpabggjnkoehfaaDoor.A1
theorem by_app (a b : ByteArray) : by_ (a ++ b) = by_ a ++ by_ b := by
  unfold by_
  simp [ByteArray.data_append]
theorem son_one (n : Int) : by_ (strOfNums [n]) = [UInt8.ofNat n.toNat] := rfl
theorem son_size (n : Int) : (strOfNums [n]).size = 1 := rfl
theorem colname_eq (k : Nat) : (∀ n b, a1_ColName.j0 k n b = counterpaneref5_ColName.j0 k n b) ∧ ∀ n s, a1_ColName.l0 k n s = counterpaneref5_ColName.l0 k n s := by
  induction k with
  | zero => exact ⟨fun _ _ => rfl, fun _ _ => rfl⟩
  | succ k ih =>
    refine ⟨fun n b => ?_, fun n s => ?_⟩
    · rw [a1_ColName.j0, counterpaneref5_ColName.j0, ih.2]
    · rw [a1_ColName.l0, counterpaneref5_ColName.l0]
      simp only [ih.2]
theorem colname_ref (k : Nat) (n : Int) : counterpaneref5_ColName.f k n = a1_ColName.f k n := by
  unfold counterpaneref5_ColName.f a1_ColName.f
  rw [(colname_eq k).1, (colname_eq k).1]
theorem colname_l (m : Nat) : ∀ (k n : Nat) (s : ByteArray), n < 26 ^ m → m ≤ 9 → m + 1 ≤ k → s.size + m ≤ 1000 →
    ∃ r, a1_ColName.l0 k n s = some r ∧ s.size ≤ r.size ∧ r.size ≤ s.size + m ∧ (0 < n → 0 < r.size) := by
  induction m with
  | zero =>
    intro k n s hn hm hk hs
    obtain ⟨k, rfl⟩ : ∃ m, k = m + 1 := ⟨k - 1, by omega⟩
    rw [a1_ColName.l0, if_neg (by omega)]
    exact ⟨s, rfl, by omega, by omega, by omega⟩
  | succ m ih =>
    intro k n s hn hm hk hs
    obtain ⟨k, rfl⟩ : ∃ m, k = m + 1 := ⟨k - 1, by omega⟩
    have hp : 26 ^ (m + 1) = 26 ^ m * 26 := Nat.pow_succ ..
    have hb : 26 ^ m ≤ 26 ^ 8 := Nat.pow_le_pow_right (by omega) (by omega)
    have h8 : 26 ^ 8 = 208827064576 := by decide
    rw [a1_ColName.l0]
    by_cases h : (n : Int) > 0
    · have h1 : wrap64 ((n : Int) - 1) = ((n - 1 : Nat) : Int) := by rw [wr _ (by omega) (by omega)]; omega
      have h2 : wrap64 (Int.tdiv ((n - 1 : Nat) : Int) 26) = (((n - 1) / 26 : Nat) : Int) := by
        rw [show Int.tdiv ((n - 1 : Nat) : Int) 26 = (((n - 1) / 26 : Nat) : Int) from rfl, wr _ (by omega) (by omega)]
      rw [if_pos h, Option.bind_some, h1, h2, son_size, if_pos (by omega)]
      generalize ((wrap64 (65 + wrap64 (Int.tmod ((n - 1 : Nat) : Int) 26))) % 256) = c
      obtain ⟨r, e, q1, q2, _⟩ := ih k ((n - 1) / 26) (strOfNums [(wrap64 (65 + Int.tmod ((n - 1 : Nat) : Int) 26)) % 256] ++ s) (by omega) (by omega) (by omega) (by rw [ByteArray.size_append, son_size]; omega)
      rw [ByteArray.size_append, son_size] at q1 q2
      exact ⟨r, e, by omega, by omega, by omega⟩
    · rw [if_neg h]
      exact ⟨s, rfl, by omega, by omega, by omega⟩
theorem colname_f (k : Nat) (hk : 20 ≤ k) (n : Int) : ∃ r, a1_ColName.f k n = some r ∧ r.size ≤ 9 ∧ (0 < r.size ↔ 0 ≤ n ∧ n < 2199023255552) := by
  obtain ⟨k, rfl⟩ : ∃ m, k = m + 1 := ⟨k - 1, by omega⟩
  unfold a1_ColName.f
  have J : a1_ColName.j0 (k + 1) n true = some ⟨#[]⟩ := by rw [a1_ColName.j0, if_pos rfl]
  by_cases h : n < 0
  · rw [if_pos h, J]
    exact ⟨_, rfl, by decide, ⟨fun q => absurd q (by decide), by omega⟩⟩
  · rw [if_neg h]
    by_cases h1 : n ≥ 2199023255552
    · rw [decide_eq_true h1, J]
      exact ⟨_, rfl, by decide, ⟨fun q => absurd q (by decide), by omega⟩⟩
    · rw [decide_eq_false h1, a1_ColName.j0, if_neg (by simp), wr _ (by omega) (by omega)]
      have h9 : 26 ^ 9 = 5429503678976 := by decide
      obtain ⟨r, e, _, q2, q3⟩ := colname_l 9 k (n + 1).toNat ⟨#[]⟩ (by omega) (by omega) (by omega) (by decide)
      rw [show (((n + 1).toNat : Nat) : Int) = n + 1 by omega] at e
      exact ⟨r, e, q2, ⟨fun _ => by omega, fun _ => q3 (by omega)⟩⟩
/-! numbers -/
theorem wu (x : Int) (h1 : 0 ≤ x) (h2 : x < 18446744073709551616) : IntKind.u64.wrap x = x := by
  simp only [IntKind.wrap, IntKind.bits, IntKind.signed, Bool.false_and]
  rw [if_neg (by simp)]
  omega
theorem dec_step (k n : Nat) (s : ByteArray) (hn : n < 1000000000000000000) (hs : s.size ≤ 1000) (h : 0 < n ∨ by_ s = []) :
    ∃ t, counterpaneref1_dec.l0 (k + 1) n s = counterpaneref1_dec.l0 k ((n / 10 : Nat) : Int) t ∧ by_ t = UInt8.ofNat (48 + n % 10) :: by_ s := by
  have hd : Int.tdiv (n : Int) 10 = ((n / 10 : Nat) : Int) := rfl
  have hm : Int.tmod (n : Int) 10 = ((n % 10 : Nat) : Int) := rfl
  have e : counterpaneref1_dec.l0 (k + 1) n s = counterpaneref1_dec.l0 k ((n / 10 : Nat) : Int) (strOfNums [(IntKind.u64.wrap (48 + Int.tmod (n : Int) 10)) % 256] ++ s) := by
    rw [counterpaneref1_dec.l0, hd, wu ((n / 10 : Nat) : Int) (by omega) (by omega)]
    by_cases q : (n : Int) > 0
    · rw [if_pos q, Option.bind_some, son_size, if_pos (by omega)]
    · have : s.toList = ([] : List UInt8) := by
        rw [ByteArray.toList_eq]
        rcases h with h | h
        · omega
        · exact h
      rw [if_neg q, if_pos this, Option.bind_some, son_size, if_pos (by omega)]
  refine ⟨_, e, ?_⟩
  rw [by_app, son_one, hm, wu _ (by omega) (by omega)]
  show UInt8.ofNat _ :: by_ s = _
  congr 2
  omega
theorem dec_end (k : Nat) (s : ByteArray) (h : by_ s ≠ []) : counterpaneref1_dec.l0 (k + 1) 0 s = some s := by
  rw [counterpaneref1_dec.l0, if_neg (by omega), if_neg (by rw [ByteArray.toList_eq]; exact h)]
theorem dec_l (m : Nat) : ∀ (k n : Nat) (s : ByteArray), 0 < n ∨ by_ s = [] → n < 10 ^ (m + 1) → m ≤ 15 → m + 2 ≤ k → s.size + m + 1 ≤ 1000 →
    ∃ r, counterpaneref1_dec.l0 k n s = some r ∧ by_ r = decDigits n ++ by_ s := by
  have small : ∀ (k n : Nat) (s : ByteArray), 0 < n ∨ by_ s = [] → n < 10 → 2 ≤ k → s.size + 1 ≤ 1000 →
    ∃ r, counterpaneref1_dec.l0 k n s = some r ∧ by_ r = decDigits n ++ by_ s := by
    intro k n s h0 hn hk hs
    obtain ⟨k, rfl⟩ : ∃ m, k = m + 2 := ⟨k - 2, by omega⟩
    obtain ⟨t, e, ht⟩ := dec_step (k + 1) n s (by omega) (by omega) h0
    refine ⟨t, ?_, ?_⟩
    · rw [e, show n / 10 = 0 by omega]
      exact dec_end k t (by rw [ht]; simp)
    · rw [ht, decDigits, dif_pos hn, show 48 + n % 10 = 48 + n by omega]
      rfl
  induction m with
  | zero =>
    intro k n s h0 hn hm hk hs
    exact small k n s h0 (by simpa using hn) (by omega) (by omega)
  | succ m ih =>
    intro k n s h0 hn hm hk hs
    by_cases h : n < 10
    · exact small k n s h0 h (by omega) (by omega)
    · obtain ⟨k, rfl⟩ : ∃ m, k = m + 1 := ⟨k - 1, by omega⟩
      have hp : 10 ^ (m + 1 + 1) = 10 ^ (m + 1) * 10 := Nat.pow_succ ..
      have hb : 10 ^ (m + 1) ≤ 10 ^ 16 := Nat.pow_le_pow_right (by omega) (by omega)
      have h8 : 10 ^ 16 = 10000000000000000 := by decide
      obtain ⟨t, e, ht⟩ := dec_step k n s (by omega) (by omega) h0
      have hts : t.size = s.size + 1 := by rw [← by_len, ht, List.length_cons, by_len]
      obtain ⟨r, e2, hr⟩ := ih k (n / 10) t (.inl (by omega)) (by omega) (by omega) (by omega) (by omega)
      refine ⟨r, by rw [e, e2], ?_⟩
      rw [hr, ht]
      conv => rhs; rw [decDigits, dif_neg h]
      simp
theorem Dec_f (k : Nat) (hk : 30 ≤ k) (n : Int) (h0 : 0 ≤ n) (h1 : n < 10000000000000000) : ∃ r, counterpaneref1_Dec.f k n = some r ∧ by_ r = itoa n := by
  unfold counterpaneref1_Dec.f counterpaneref1_dec.f
  have h16 : 10 ^ (15 + 1) = 10000000000000000 := by decide
  obtain ⟨r, e, hr⟩ := dec_l 15 k n.toNat ⟨#[]⟩ (.inr rfl) (by omega) (by omega) (by omega) (by decide)
  rw [show ((n.toNat : Nat) : Int) = n by omega] at e
  rw [wu _ h0 (by omega), e]
  refine ⟨r, rfl, ?_⟩
  rw [hr]
  unfold itoa
  rw [if_neg (by omega)]
  show _ ++ ([] : List UInt8) = _
  simp
/-! the texts of references -/
theorem itoa_len (n : Int) (h0 : 0 ≤ n) (h1 : n < 10000000000000) : (itoa n).length ≤ 21 := by
  unfold itoa
  rw [if_neg (by omega)]
  have h13 : 10 ^ (12 + 1) = 10000000000000 := by decide
  have := dec_len 12 n.toNat (by omega)
  omega
/-- may a reference be -/
def mayS (a : ByteArray) (r c : Int) : Prop := (by_ a = [] ∨ 0 ≤ ownerS (by_ a)) ∧ 0 ≤ r ∧ r < 2199023255552 ∧ 0 ≤ c ∧ c < 2199023255552
instance (a : ByteArray) (r c : Int) : Decidable (mayS a r c) := by unfold mayS; infer_instance
/-- a reference's text -/
def printS (a : ByteArray) (r : Int) (col : ByteArray) (ra ca : Bool) : List UInt8 :=
  (if by_ a = [] then [] else by_ a ++ [33]) ++ ((if ca then [36] else []) ++ (by_ col ++ ((if ra then [36] else []) ++ itoa (r + 1))))
theorem may_f (k : Nat) (a : ByteArray) (r c : Int) (ra ca : Bool) (ha : a.size ≤ 1000) (hk : 2 * a.size + 25 ≤ k) : counterpaneref5_MayRef.f k a r c ra ca = some (decide (mayS a r c)) := by
  unfold counterpaneref5_MayRef.f
  have rest : (by_ a = [] ∨ 0 ≤ ownerS (by_ a)) → (if r ≥ 0 then (if r < 2199023255552 then (if c ≥ 0 then (some (decide (c < 2199023255552))) else (some false)) else (some false)) else (some false)) = some (decide (mayS a r c)) := by
    intro h
    by_cases h1 : r ≥ 0
    · rw [if_pos h1]
      by_cases h2 : r < 2199023255552
      · rw [if_pos h2]
        by_cases h3 : c ≥ 0
        · rw [if_pos h3]
          congr 1
          refine decide_eq_decide.2 ⟨fun q => ⟨h, h1, h2, h3, q⟩, fun q => q.2.2.2.2⟩
        · rw [if_neg h3, decide_eq_false (fun q => h3 q.2.2.2.1)]
      · rw [if_neg h2, decide_eq_false (fun q => h2 q.2.2.1)]
    · rw [if_neg h1, decide_eq_false (fun q => h1 q.2.1)]
  have ht : a.toList = by_ a := by rw [ByteArray.toList_eq]; rfl
  rw [ht, refid_f k a ha hk, Option.bind_some]
  by_cases h : by_ a = []
  · rw [if_pos h]
    exact rest (.inl h)
  · rw [if_neg h]
    by_cases h1 : 0 ≤ ownerS (by_ a)
    · rw [if_pos (decide_eq_true h1)]
      exact rest (.inr h1)
    · rw [if_neg (by simpa using h1), decide_eq_false (fun q => q.1.elim h h1)]
theorem sign_f (v : Bool) : ∃ s, a1_sign.f v = some s ∧ by_ s = (if v then [36] else []) ∧ s.size ≤ 1 := by
  cases v
  · exact ⟨⟨#[]⟩, rfl, rfl, by decide⟩
  · exact ⟨⟨#[36]⟩, rfl, rfl, by decide⟩
theorem print_f (k : Nat) (hk : 30 ≤ k) (a : ByteArray) (r c : Int) (ra ca : Bool) (ha : a.size ≤ 1000) :
    ∃ col p, a1_ColName.f k c = some col ∧ a1_Print.f k a r c ra ca = some p ∧ p.size ≤ a.size + 60 ∧ by_ p = if mayS a r c then printS a r col ra ca else [] := by
  obtain ⟨k, rfl⟩ : ∃ m, k = m + 1 := ⟨k - 1, by omega⟩
  obtain ⟨col, hc, hcs, hcp⟩ := colname_f (k + 1) (by omega) c
  have hcl := by_len col
  unfold a1_Print.f
  rw [hc, Option.bind_some]
  have ht : ∀ x : ByteArray, x.toList = by_ x := fun x => by rw [ByteArray.toList_eq]; rfl
  rw [ht, ht]
  have J : a1_Print.j0 (k + 1) col true a r c ra ca = some ⟨#[]⟩ := by rw [a1_Print.j0, if_pos rfl]
  have bad : ¬ mayS a r c → ∃ col' p, some col = some col' ∧ (some (⟨#[]⟩ : ByteArray) : Option ByteArray) = some p ∧ p.size ≤ a.size + 60 ∧ by_ p = if mayS a r c then printS a r col' ra ca else [] := by
    intro h
    exact ⟨col, _, rfl, rfl, Nat.zero_le _, by rw [if_neg h]; rfl⟩
  have good : mayS a r c → ∃ col' p, some col = some col' ∧ a1_Print.j0 (k + 1) col false a r c ra ca = some p ∧ p.size ≤ a.size + 60 ∧ by_ p = if mayS a r c then printS a r col' ra ca else [] := by
    intro h
    obtain ⟨s1, e1, b1, z1⟩ := sign_f ca
    obtain ⟨s2, e2, b2, z2⟩ := sign_f ra
    have hr0 := h.2.1
    have hr1 := h.2.2.1
    have hf : strconv_FormatInt.f (wrap64 (r + 1)) 10 = some ⟨(Lib.itoa (r + 1)).toArray⟩ := by
      rw [wr _ (by omega) (by omega)]
      unfold strconv_FormatInt.f
      rw [if_pos ⟨rfl, by omega, by omega⟩]
    have hz := itoa_len (r + 1) (by omega) (by omega)
    rw [a1_Print.j0, if_neg (by simp), e1, Option.bind_some, if_pos (by omega), e2, Option.bind_some]
    have hm := mk_size (Lib.itoa (r + 1))
    simp only [ByteArray.size_append]
    rw [if_pos (by omega), hf, Option.bind_some, hm, if_pos (by omega), ht]
    by_cases hn : by_ a = []
    · rw [if_pos hn]
      refine ⟨col, _, rfl, rfl, by simp only [ByteArray.size_append, mk_size]; omega, ?_⟩
      rw [if_pos h]
      unfold printS
      rw [if_pos hn]
      simp only [by_app, b1, b2, by_mk, List.append_assoc, List.nil_append]
    · have h33 : (⟨#[33]⟩ : ByteArray).size = 1 := rfl
      rw [if_neg hn, if_pos (by omega), h33, if_pos (by omega)]
      refine ⟨col, _, rfl, rfl, by simp only [ByteArray.size_append, mk_size, h33]; omega, ?_⟩
      rw [if_pos h]
      unfold printS
      rw [if_neg hn]
      have b33 : by_ (⟨#[33]⟩ : ByteArray) = [33] := rfl
      simp only [by_app, b1, b2, by_mk, b33, List.append_assoc]
  by_cases h1 : by_ col = []
  · rw [if_pos h1, J]
    refine bad fun h => ?_
    have := hcp.2 ⟨h.2.2.2.1, h.2.2.2.2⟩
    rw [h1] at hcl
    simp at hcl
    omega
  · rw [if_neg h1]
    have hcc := hcp.1 (by rw [← hcl]; exact List.length_pos_iff.2 h1)
    by_cases h2 : r < 0
    · rw [if_pos h2, J]; exact bad fun h => by have := h.2.1; omega
    · rw [if_neg h2]
      by_cases h3 : r ≥ 2199023255552
      · rw [if_pos h3, J]; exact bad fun h => by have := h.2.2.1; omega
      · rw [if_neg h3]
        by_cases h4 : by_ a = []
        · rw [if_pos h4]; exact good ⟨.inl h4, by omega, by omega, hcc⟩
        · rw [if_neg h4, id_f a ha, Option.bind_some]
          by_cases h5 : ownerS (by_ a) ≥ 0
          · rw [decide_eq_true h5]; exact good ⟨.inr h5, by omega, by omega, hcc⟩
          · rw [decide_eq_false h5]
            show ∃ col' p, some col = some col' ∧ a1_Print.j0 (k + 1) col true a r c ra ca = some p ∧ _
            rw [J]; exact bad fun h => h.1.elim h4 h5
end Go.Proofs.YtpabggjnkoehfaaDoor.ERef
