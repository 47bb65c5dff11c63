/- The printed functions of the package a1 and of its reference, as functions of the bytes of a text. Conditions: enough rounds; texts below 1,000 bytes. -/
import Derived.Test.YtpabggjnkoehfaaDoorA1Num
import Derived.Test.YtpabggjnkoehfaaDoorERef1
import Derived.Test.YtpabggjnkoehfaaDoorERef4
namespace Go.Proofs.YtpabggjnkoehfaaDoor.ERef
open Go.RowKit Go.Lib Go.Proofs.YtpabggjnkoehfaaDoorW.PrintWords Go.Proofs.YtpabggjnkoehfaaDoorW.PrintLast Go.Proofs.YtpabggjnkoehfaaDoor.Ext Go.Proofs.YtpabggjnkoehfaaDoor.A1
theorem wr (x : Int) (h : -9223372036854775808 ≤ x) (h' : x ≤ 9223372036854775807) : wrap64 x = x := by unfold wrap64; omega
theorem beqd (a b : Int) : (a == b) = decide (a = b) := by by_cases h : a = b <;> simp [h]
/-- a text's bytes -/
def by_ (s : ByteArray) : List UInt8 := s.data.toList
theorem by_len (s : ByteArray) : (by_ s).length = s.size := (Lib.size_eq s).symm
theorem bt_by (s : ByteArray) (j : Nat) (h : j < (by_ s).length) : bt s (j : Int) = (((by_ s)[j]).toNat : Int) := by
  have h' : j < s.size := by rw [← by_len]; exact h
  unfold bt
  rw [dif_pos (by simpa using h')]
  rfl
theorem by_take (s : ByteArray) (j : Nat) : by_ (s.extract 0 j) = (by_ s).take j := by
  unfold by_; rw [Lib.extract_data]; simp
theorem by_drop (s : ByteArray) (j : Nat) : by_ (s.extract j s.size) = (by_ s).drop j := Lib.extract_to_end s j
theorem by_mid (s : ByteArray) (i j : Nat) : by_ (s.extract i j) = ((by_ s).drop i).take (j - i) := Lib.extract_data s i j
theorem by_mk (l : List UInt8) : by_ ⟨l.toArray⟩ = l := rfl
theorem by_inj {s t : ByteArray} (h : by_ s = by_ t) : s = t := by
  apply ByteArray.ext
  unfold by_ at h
  exact Array.toList_inj.1 h
def colGo : Nat → List UInt8 → Option Nat
  | a, [] => some a
  | a, c :: r => if 65 ≤ c.toNat ∧ c.toNat ≤ 90 then colGo (26 * a + (c.toNat - 65) + 1) r else none
def colEnd : Option Nat → Int × Bool
  | none => (0, false)
  | some n => if (n : Int) > 2199023255552 then (0, false) else ((n : Int) - 1, true)
def colS (l : List UInt8) : Int × Bool := if l.length < 1 ∨ 9 < l.length then (0, false) else colEnd (colGo 0 l)
theorem pow27 (j : Nat) (h : j ≤ 9) : 27 ^ j ≤ 7625597484987 := by
  have : 27 ^ j ≤ 27 ^ 9 := Nat.pow_le_pow_right (by omega) h
  have e : 27 ^ 9 = 7625597484987 := by decide
  omega
theorem col_l (x : ByteArray) (hx : x.size ≤ 9) (d : Nat) : ∀ (k j a : Nat), j + d = x.size → d + 1 ≤ k → a < 27 ^ j →
    a1_Col.l0 k x (a : Int) (x.size : Int) j = some (colEnd (colGo a ((by_ x).drop j))) := by
  have hl := by_len x
  induction d with
  | zero =>
    intro k j a hj hk ha
    obtain ⟨k, rfl⟩ : ∃ m, k = m + 1 := ⟨k - 1, by omega⟩
    have hp := pow27 j (by omega)
    rw [a1_Col.l0, if_neg (by omega), List.drop_eq_nil_of_le (by omega)]
    show _ = some (if (a : Int) > 2199023255552 then (0, false) else ((a : Int) - 1, true))
    by_cases h : (a : Int) > 2199023255552
    · rw [if_pos h, if_pos h]
    · rw [if_neg h, if_neg h, wr _ (by omega) (by omega)]
  | succ d ih =>
    intro k j a hj hk ha
    obtain ⟨k, rfl⟩ : ∃ m, k = m + 1 := ⟨k - 1, by omega⟩
    have hp := pow27 j (by omega)
    have hlt : j < (by_ x).length := by omega
    rw [a1_Col.l0, if_pos (by omega), if_pos (by omega), if_pos (by omega), bt_by x j hlt, List.drop_eq_getElem_cons hlt]
    generalize (by_ x)[j] = c
    have hc := c.toNat_lt
    show _ = some (colEnd (if 65 ≤ c.toNat ∧ c.toNat ≤ 90 then colGo (26 * a + (c.toNat - 65) + 1) ((by_ x).drop (j + 1)) else none))
    by_cases h1 : (c.toNat : Int) < 65
    · rw [if_pos h1, if_neg (by omega)]; rfl
    · rw [if_neg h1]
      by_cases h2 : (c.toNat : Int) > 90
      · rw [if_pos h2, if_neg (by omega)]; rfl
      · rw [if_neg h2, if_pos (by omega)]
        have hpow : 27 ^ (j + 1) = 27 ^ j * 27 := Nat.pow_succ ..
        have e := ih k (j + 1) (26 * a + (c.toNat - 65) + 1) (by omega) (by omega) (by omega)
        rw [← e, wr (26 * (a : Int)) (by omega) (by omega), wr (j + 1) (by omega) (by omega), wr (26 * (a : Int) + _) (by omega) (by omega), wr _ (by omega) (by omega)]
        congr 1
        omega
theorem col_f (k : Nat) (hk : 12 ≤ k) (x : ByteArray) : a1_Col.f k x = some (colS (by_ x)) := by
  obtain ⟨k, rfl⟩ : ∃ m, k = m + 2 := ⟨k - 2, by omega⟩
  have hl := by_len x
  unfold a1_Col.f colS
  have J : a1_Col.j0 (k + 2) x true = some (0, false) := by rw [a1_Col.j0, if_pos rfl]
  by_cases h0 : x.toList = ([] : List UInt8)
  · rw [if_pos h0, J]
    rw [ByteArray.toList_eq] at h0
    have : (by_ x).length = 0 := by unfold by_; rw [h0]; rfl
    rw [if_pos (by omega)]
  · rw [if_neg h0]
    have hne : (by_ x).length ≠ 0 := by
      intro h
      refine h0 ?_
      rw [ByteArray.toList_eq]; exact List.eq_nil_of_length_eq_zero h
    by_cases h1 : (x.size : Int) > 9
    · rw [decide_eq_true h1, J, if_pos (by omega)]
    · rw [decide_eq_false h1, if_neg (by omega), a1_Col.j0, if_neg (by simp)]
      have e := col_l x (by omega) x.size (k + 1) 0 0 (by omega) (by omega) (by decide)
      rw [List.drop_zero] at e
      exact e
theorem refcol_l (x : ByteArray) (hx : x.size ≤ 9) (d : Nat) : ∀ (k j a : Nat), j + d = x.size → d + 1 ≤ k → a < 27 ^ j →
    counterpaneref5_Col.l0 k x (a : Int) j = some (colEnd (colGo a ((by_ x).drop j))) := by
  have hl := by_len x
  induction d with
  | zero =>
    intro k j a hj hk ha
    obtain ⟨k, rfl⟩ : ∃ m, k = m + 1 := ⟨k - 1, by omega⟩
    have hp := pow27 j (by omega)
    rw [counterpaneref5_Col.l0, if_neg (by omega), List.drop_eq_nil_of_le (by omega)]
    show _ = some (if (a : Int) > 2199023255552 then (0, false) else ((a : Int) - 1, true))
    by_cases h : (a : Int) > 2199023255552
    · rw [if_pos h, if_pos h]
    · rw [if_neg h, if_neg h, wr _ (by omega) (by omega)]
  | succ d ih =>
    intro k j a hj hk ha
    obtain ⟨k, rfl⟩ : ∃ m, k = m + 1 := ⟨k - 1, by omega⟩
    have hp := pow27 j (by omega)
    have hlt : j < (by_ x).length := by omega
    rw [counterpaneref5_Col.l0, if_pos (by omega), if_pos (by omega), bt_by x j hlt, List.drop_eq_getElem_cons hlt]
    generalize (by_ x)[j] = c
    have hc := c.toNat_lt
    show _ = some (colEnd (if 65 ≤ c.toNat ∧ c.toNat ≤ 90 then colGo (26 * a + (c.toNat - 65) + 1) ((by_ x).drop (j + 1)) else none))
    by_cases h1 : (c.toNat : Int) < 65
    · rw [if_pos h1, if_neg (by omega)]; rfl
    · rw [if_neg h1]
      by_cases h2 : (c.toNat : Int) > 90
      · rw [if_pos h2, if_neg (by omega)]; rfl
      · rw [if_neg h2, if_pos (by omega)]
        have hpow : 27 ^ (j + 1) = 27 ^ j * 27 := Nat.pow_succ ..
        have e := ih k (j + 1) (26 * a + (c.toNat - 65) + 1) (by omega) (by omega) (by omega)
        rw [← e, wr (26 * (a : Int)) (by omega) (by omega), wr (j + 1) (by omega) (by omega), wr (26 * (a : Int) + _) (by omega) (by omega), wr _ (by omega) (by omega)]
        congr 1
        omega
theorem refcol_f (k : Nat) (hk : 12 ≤ k) (x : ByteArray) : counterpaneref5_Col.f k x = some (colS (by_ x)) := by
  obtain ⟨k, rfl⟩ : ∃ m, k = m + 2 := ⟨k - 2, by omega⟩
  have hl := by_len x
  unfold counterpaneref5_Col.f colS
  have J : counterpaneref5_Col.j0 (k + 2) x true = some (0, false) := by rw [counterpaneref5_Col.j0, if_pos rfl]
  by_cases h0 : (x.size : Int) < 1
  · rw [if_pos h0, J, if_pos (by omega)]
  · rw [if_neg h0]
    by_cases h1 : (x.size : Int) > 9
    · rw [decide_eq_true h1, J, if_pos (by omega)]
    · rw [decide_eq_false h1, if_neg (by omega), counterpaneref5_Col.j0, if_neg (by simp)]
      have e := refcol_l x (by omega) x.size (k + 1) 0 0 (by omega) (by omega) (by decide)
      rw [List.drop_zero] at e
      exact e
/-- the reference's loop over digits -/
def numEnd (most : Int) (a : Nat) (l : List UInt8) : Int := if (∀ c, c ∈ l → isDig c) ∧ (dval a l : Int) ≤ most then (dval a l : Int) else -1
theorem numEnd_cons (most : Int) (a : Nat) (c : UInt8) (l : List UInt8) (h : isDig c) : numEnd most a (c :: l) = numEnd most (dstep a c) l := by
  unfold numEnd
  have e : dval a (c :: l) = dval (dstep a c) l := rfl
  rw [e]
  by_cases h1 : ∀ d, d ∈ l → isDig d
  · have h2 : ∀ d, d ∈ c :: l → isDig d := by
      intro d hd
      rcases List.mem_cons.1 hd with rfl | hd
      · exact h
      · exact h1 d hd
    by_cases h3 : (dval (dstep a c) l : Int) ≤ most
    · rw [if_pos ⟨h2, h3⟩, if_pos ⟨h1, h3⟩]
    · rw [if_neg (fun x => h3 x.2), if_neg (fun x => h3 x.2)]
  · rw [if_neg (fun x => h1 (fun d hd => x.1 d (List.mem_cons_of_mem _ hd))), if_neg (fun x => h1 x.1)]
theorem numEnd_bad (most : Int) (a : Nat) (c : UInt8) (l : List UInt8) (h : ¬ isDig c) : numEnd most a (c :: l) = -1 := by
  unfold numEnd
  rw [if_neg (fun x => h (x.1 c (List.mem_cons_self ..)))]
theorem pow10 (j : Nat) (h : j ≤ 15) : 10 ^ j ≤ 1000000000000000 := by
  have : 10 ^ j ≤ 10 ^ 15 := Nat.pow_le_pow_right (by omega) h
  have e : 10 ^ 15 = 1000000000000000 := by decide
  omega
theorem num_l (x : ByteArray) (most : Int) (hx : x.size ≤ 15) (d : Nat) : ∀ (k j a : Nat), j + d = x.size → d + 1 ≤ k → a < 10 ^ j →
    counterpaneref5_num.l0 k x most (a : Int) j = some (numEnd most a ((by_ x).drop j)) := by
  have hl := by_len x
  induction d with
  | zero =>
    intro k j a hj hk ha
    obtain ⟨k, rfl⟩ : ∃ m, k = m + 1 := ⟨k - 1, by omega⟩
    rw [counterpaneref5_num.l0, if_neg (by omega), List.drop_eq_nil_of_le (by omega)]
    show _ = some (if (∀ c, c ∈ ([] : List UInt8) → isDig c) ∧ (a : Int) ≤ most then (a : Int) else -1)
    by_cases h : (a : Int) > most
    · rw [if_pos h, if_neg (fun x => by have := x.2; omega)]
    · rw [if_neg h, if_pos ⟨(fun c hc => by cases hc), by omega⟩]
  | succ d ih =>
    intro k j a hj hk ha
    obtain ⟨k, rfl⟩ : ∃ m, k = m + 1 := ⟨k - 1, by omega⟩
    have hp := pow10 j (by omega)
    have hlt : j < (by_ x).length := by omega
    rw [counterpaneref5_num.l0, if_pos (by omega), if_pos (by omega), bt_by x j hlt, List.drop_eq_getElem_cons hlt]
    generalize (by_ x)[j] = c
    have hc := c.toNat_lt
    by_cases h1 : (c.toNat : Int) < 48
    · rw [if_pos h1, numEnd_bad _ _ _ _ (by unfold isDig; omega)]
    · rw [if_neg h1]
      by_cases h2 : (c.toNat : Int) > 57
      · rw [if_pos h2, numEnd_bad _ _ _ _ (by unfold isDig; omega)]
      · rw [if_neg h2, numEnd_cons _ _ _ _ (by unfold isDig; omega)]
        have hpow : 10 ^ (j + 1) = 10 ^ j * 10 := Nat.pow_succ ..
        have e := ih k (j + 1) (dstep a c) (by omega) (by omega) (by unfold dstep; omega)
        rw [← e, wr (10 * (a : Int)) (by omega) (by omega), wr (j + 1) (by omega) (by omega), wr (10 * (a : Int) + _) (by omega) (by omega)]
        congr 1
        unfold dstep
        omega
theorem num_f (k : Nat) (hk : 20 ≤ k) (x : ByteArray) (most : Int) : counterpaneref5_num.f k x most = some (numS (by_ x) most) := by
  obtain ⟨k, rfl⟩ : ∃ m, k = m + 2 := ⟨k - 2, by omega⟩
  have hl := by_len x
  unfold counterpaneref5_num.f numS
  have J : counterpaneref5_num.j0 (k + 2) x most true = some (-1) := by rw [counterpaneref5_num.j0, if_pos rfl]
  by_cases h0 : (x.size : Int) < 1
  · have : by_ x = [] := List.eq_nil_of_length_eq_zero (by omega)
    rw [if_pos h0, J, if_neg (fun h => h.1.1 this)]
  · rw [if_neg h0]
    by_cases h1 : (x.size : Int) > 15
    · rw [if_pos h1, J, if_neg (fun h => by have := h.2.1; omega)]
    · rw [if_neg h1, if_pos (by omega)]
      have hne : by_ x ≠ [] := fun h => by rw [h] at hl; simp at hl; omega
      have hb := bt_by x 0 (by omega)
      have hL : counterpaneref5_num.j0 (k + 2) x most false = some (numEnd most 0 (by_ x)) := by
        rw [counterpaneref5_num.j0, if_neg (by simp)]
        have e := num_l x most (by omega) x.size (k + 1) 0 0 (by omega) (by omega) (by decide)
        rw [List.drop_zero] at e
        exact e
      have hh : (by_ x).head? = some (by_ x)[0] := List.head?_eq_getElem? .. |>.trans (List.getElem?_eq_getElem (by omega))
      have fin : ∀ P : Prop, [Decidable P] → (canon (by_ x) ↔ (P ∧ ∀ c, c ∈ by_ x → isDig c)) → (if P then numEnd most 0 (by_ x) else -1) = (if canon (by_ x) ∧ (by_ x).length ≤ 15 ∧ (dval 0 (by_ x) : Int) ≤ most then (dval 0 (by_ x) : Int) else -1) := by
        intro P _ hP
        by_cases hp : P
        · rw [if_pos hp]
          unfold numEnd
          by_cases h : (∀ c, c ∈ by_ x → isDig c) ∧ (dval 0 (by_ x) : Int) ≤ most
          · rw [if_pos h, if_pos ⟨hP.2 ⟨hp, h.1⟩, by omega, h.2⟩]
          · rw [if_neg h, if_neg (fun q => h ⟨(hP.1 q.1).2, q.2.2⟩)]
        · rw [if_neg hp, if_neg (fun q => hp (hP.1 q.1).1)]
      by_cases h2 : bt x 0 = 48
      · rw [if_pos h2]
        have hb0 : (by_ x)[0].toNat = 48 := by
          have : bt x ((0 : Nat) : Int) = bt x 0 := rfl
          omega
        rw [← fin (¬ (x.size : Int) > 1) ?_]
        · by_cases h3 : (x.size : Int) > 1
          · rw [decide_eq_true h3, J, if_neg (fun h => h h3)]
          · rw [decide_eq_false h3, hL, if_pos h3]
        · unfold canon
          constructor
          · rintro ⟨_, c2, c3⟩
            refine ⟨?_, c2⟩
            rcases c3 with c3 | c3
            · omega
            · exact absurd hb0 (c3 _ hh)
          · rintro ⟨p, c2⟩
            exact ⟨hne, c2, .inl (by omega)⟩
      · rw [if_neg h2, hL, ← fin True ?_, if_pos trivial]
        unfold canon
        constructor
        · rintro ⟨_, c2, _⟩; exact ⟨trivial, c2⟩
        · rintro ⟨_, c2⟩
          refine ⟨hne, c2, .inr ?_⟩
          intro c hc
          rw [hh] at hc
          injection hc with hc
          rw [← hc]
          have : bt x ((0 : Nat) : Int) = bt x 0 := rfl
          omega
theorem number_f (x : ByteArray) (most : Int) (hx : x.size ≤ 1000) (hm : most < 1000000000000000) : a1_number.f x most = some (numS (by_ x) most) := by
  unfold a1_number.f
  rw [if_pos (by omega)]
  congr 1
  exact number_eq (by_ x) most hm
end Go.Proofs.YtpabggjnkoehfaaDoor.ERef
