/- Columns' names: read again they are the columns. Conditions: enough rounds. -/
import Derived.Test.YtpabggjnkoehfaaDoorA1Prt
namespace Go.Proofs.YtpabggjnkoehfaaDoor.ERef
open Go.RowKit Go.Lib Go.Proofs.YtpabggjnkoehfaaDoorW.PrintWords Go.Proofs.YtpabggjnkoehfaaDoorW.PrintLast Go.Proofs.YtpabggjnkoehfaaDoor.Ext Go.Proofs.YtpabggjnkoehfaaDoor.A1
def isAZ (c : UInt8) : Prop := 65 ≤ c.toNat ∧ c.toNat ≤ 90
theorem colGo_app (x y : List UInt8) : ∀ a, colGo a (x ++ y) = (colGo a x).bind fun b => colGo b y := by
  induction x with
  | nil => intro a; rfl
  | cons c r ih =>
    intro a
    show (if 65 ≤ c.toNat ∧ c.toNat ≤ 90 then colGo (26 * a + (c.toNat - 65) + 1) (r ++ y) else none) = ((if 65 ≤ c.toNat ∧ c.toNat ≤ 90 then colGo (26 * a + (c.toNat - 65) + 1) r else none)).bind _
    by_cases h : 65 ≤ c.toNat ∧ c.toNat ≤ 90
    · rw [if_pos h, if_pos h, ih]
    · rw [if_neg h, if_neg h]; rfl
theorem colname_val (m : Nat) : ∀ (k n : Nat) (s : ByteArray), n < 26 ^ m → m ≤ 9 → m + 1 ≤ k → s.size + m ≤ 1000 →
    ∃ r l, a1_ColName.l0 k n s = some r ∧ by_ r = l ++ by_ s ∧ colGo 0 l = some n ∧ l.length ≤ m ∧ ∀ c, c ∈ l → isAZ c := by
  induction m with
  | zero =>
    intro k n s hn hm hk hs
    obtain ⟨k, rfl⟩ : ∃ m, k = m + 1 := ⟨k - 1, by omega⟩
    rw [a1_ColName.l0, if_neg (by omega)]
    refine ⟨s, [], rfl, rfl, ?_, by simp, fun c h => by cases h⟩
    show some 0 = some n
    congr 1
    omega
  | succ m ih =>
    intro k n s hn hm hk hs
    obtain ⟨k, rfl⟩ : ∃ m, k = m + 1 := ⟨k - 1, by omega⟩
    have hp : 26 ^ (m + 1) = 26 ^ m * 26 := Nat.pow_succ ..
    have hb : 26 ^ m ≤ 26 ^ 8 := Nat.pow_le_pow_right (by omega) (by omega)
    have h8 : 26 ^ 8 = 208827064576 := by decide
    rw [a1_ColName.l0]
    by_cases h : (n : Int) > 0
    · have h1 : wrap64 ((n : Int) - 1) = ((n - 1 : Nat) : Int) := by rw [wr _ (by omega) (by omega)]; omega
      have h2 : wrap64 (Int.tdiv ((n - 1 : Nat) : Int) 26) = (((n - 1) / 26 : Nat) : Int) := by
        rw [show Int.tdiv ((n - 1 : Nat) : Int) 26 = (((n - 1) / 26 : Nat) : Int) from rfl, wr _ (by omega) (by omega)]
      have h3 : (wrap64 (65 + Int.tmod ((n - 1 : Nat) : Int) 26)) % 256 = ((65 + (n - 1) % 26 : Nat) : Int) := by
        rw [show Int.tmod ((n - 1 : Nat) : Int) 26 = (((n - 1) % 26 : Nat) : Int) from rfl, wr _ (by omega) (by omega)]
        omega
      rw [if_pos h, Option.bind_some, h1, h2, son_size, if_pos (by omega)]
      generalize (wrap64 (65 + Int.tmod ((n - 1 : Nat) : Int) 26)) % 256 = c at *
      have hsz : (strOfNums [c] ++ s).size = s.size + 1 := by rw [ByteArray.size_append, son_size]; omega
      obtain ⟨r, l, e, q1, q2, q3, q4⟩ := ih k ((n - 1) / 26) (strOfNums [c] ++ s) (by omega) (by omega) (by omega) (by omega)
      have hd : ∃ d : Nat, d = (n - 1) % 26 := ⟨_, rfl⟩
      obtain ⟨d, hd⟩ := hd
      rw [← hd] at h3
      have hc : (UInt8.ofNat c.toNat).toNat = 65 + d := by
        rw [h3, Int.toNat_natCast, UInt8.toNat_ofNat']; omega
      generalize hu : UInt8.ofNat c.toNat = u at *
      refine ⟨r, l ++ [u], e, ?_, ?_, ?_, ?_⟩
      · rw [q1, by_app, son_one, List.append_assoc, hu]
      · rw [colGo_app, q2, Option.bind_some]
        show (if 65 ≤ u.toNat ∧ u.toNat ≤ 90 then some (26 * ((n - 1) / 26) + (u.toNat - 65) + 1) else none) = _
        rw [hc, if_pos (by omega)]
        congr 1
        omega
      · rw [List.length_append]; simp; omega
      · intro c hc'
        rcases List.mem_append.1 hc' with hc' | hc'
        · exact q4 c hc'
        · rw [List.mem_singleton.1 hc']
          unfold isAZ
          rw [hc]
          omega
    · rw [if_neg h]
      refine ⟨s, [], rfl, rfl, ?_, by simp, fun c h => by cases h⟩
      show some 0 = some n
      congr 1
      omega
/-- a column's name, where there is one -/
theorem colname_is (k : Nat) (hk : 20 ≤ k) (n : Int) (h0 : 0 ≤ n) (h1 : n < 2199023255552) : ∃ r, a1_ColName.f k n = some r ∧ colGo 0 (by_ r) = some (n + 1).toNat ∧ (by_ r).length ≤ 9 ∧ (∀ c, c ∈ by_ r → isAZ c) ∧ by_ r ≠ [] := by
  obtain ⟨k, rfl⟩ : ∃ m, k = m + 1 := ⟨k - 1, by omega⟩
  unfold a1_ColName.f
  rw [if_neg (by omega), decide_eq_false (by omega), a1_ColName.j0, if_neg (by simp), wr _ (by omega) (by omega)]
  have h9 : 26 ^ 9 = 5429503678976 := by decide
  obtain ⟨r, l, e, q1, q2, q3, q4⟩ := colname_val 9 k (n + 1).toNat ⟨#[]⟩ (by omega) (by omega) (by omega) (by decide)
  rw [show (((n + 1).toNat : Nat) : Int) = n + 1 by omega] at e
  have hl : by_ r = l := by rw [q1]; show l ++ [] = l; simp
  refine ⟨r, e, by rw [hl]; exact q2, by rw [hl]; exact q3, by rw [hl]; exact q4, ?_⟩
  rw [hl]
  rintro rfl
  have : some 0 = some (n + 1).toNat := q2
  injection this with this
  omega
theorem colS_name (l : List UInt8) (n : Int) (h0 : 0 ≤ n) (h1 : n < 2199023255552) (h : colGo 0 l = some (n + 1).toNat) (hl : l.length ≤ 9) (hn : l ≠ []) : colS l = (n, true) := by
  have : 0 < l.length := List.length_pos_iff.2 hn
  unfold colS
  rw [if_neg (by omega), h]
  show (if (((n + 1).toNat : Nat) : Int) > 2199023255552 then (0, false) else ((((n + 1).toNat : Nat) : Int) - 1, true)) = _
  rw [if_neg (by omega)]
  congr 1
  omega
end Go.Proofs.YtpabggjnkoehfaaDoor.ERef
