/- The reference's quo, told as a number: the quotient cut. Conditions: digits below 2^32; a divisor of 1 or more, below 2^64. -/
import Derived.Test.YtkcncfikejepdaaDoorQu
namespace Go.Proofs.YtkcncfikejepdaaDoor.Ext
open Go.RowKit Go.Proofs.YtkcncfikejepdaaDoor.EFix
set_option linter.unusedVariables false
theorem val_nn (a : List Int) (ha : dig6 a) : 0 ≤ val6 a ∧ val6 a < 6277101735386680763835789423207666416102355444464034512896 := by
  have h0 := ha 0; have h1 := ha 1; have h2 := ha 2; have h3 := ha 3; have h4 := ha 4; have h5 := ha 5
  unfold val6
  omega
theorem val_inc (q : List Int) (hl : q.length = 6) : val6 (q.set 0 (q.getD 0 0 + 1)) = val6 q + 1 := by
  unfold val6
  simp only [set_getD _ _ _ _ (show 0 < q.length by omega)]
  simp
  omega
theorem mid_bit (lo x hi s K : Nat) (hlo : lo < K) (hs : s < 32) : (lo + K * (x + 4294967296 * hi)) / (K * 2 ^ s) % 2 = x / 2 ^ s % 2 := by
  have hK : 0 < K := by omega
  rw [← Nat.div_div_eq_div_mul, Nat.add_mul_div_left _ _ hK, Nat.div_eq_of_lt hlo, Nat.zero_add]
  have e : 4294967296 * hi = 2 ^ s * (2 * (2 ^ (31 - s) * hi)) := by
    have h1 : (4294967296 : Nat) = 2 ^ s * (2 * 2 ^ (31 - s)) := by
      have : 2 ^ s * (2 * 2 ^ (31 - s)) = 2 ^ (s + (1 + (31 - s))) := by rw [Nat.pow_add, Nat.pow_add, Nat.pow_one]
      rw [this, show s + (1 + (31 - s)) = 32 by omega]
    rw [h1, Nat.mul_assoc, Nat.mul_assoc]
  rw [e, Nat.add_mul_div_left _ _ (Nat.two_pow_pos s)]
  omega
theorem nat_digits (a : List Int) (ha : dig6 a) : ∃ x0 x1 x2 x3 x4 x5 : Nat, a.getD 0 0 = x0 ∧ a.getD 1 0 = x1 ∧ a.getD 2 0 = x2 ∧ a.getD 3 0 = x3 ∧ a.getD 4 0 = x4 ∧ a.getD 5 0 = x5 ∧ x0 < 4294967296 ∧ x1 < 4294967296 ∧ x2 < 4294967296 ∧ x3 < 4294967296 ∧ x4 < 4294967296 ∧ x5 < 4294967296 := by
  have h0 := ha 0; have h1 := ha 1; have h2 := ha 2; have h3 := ha 3; have h4 := ha 4; have h5 := ha 5
  exact ⟨(a.getD 0 0).toNat, (a.getD 1 0).toNat, (a.getD 2 0).toNat, (a.getD 3 0).toNat, (a.getD 4 0).toNat, (a.getD 5 0).toNat, by omega, by omega, by omega, by omega, by omega, by omega, by omega, by omega, by omega, by omega, by omega, by omega⟩
theorem bit_cast (x s : Nat) : ((x : Int) / 2 ^ s) % 2 = ((x / 2 ^ s % 2 : Nat) : Int) := by
  rw [Int.natCast_emod, Int.natCast_ediv, Int.natCast_pow]
  rfl
theorem bit_val (a : List Int) (ha : dig6 a) (A : Nat) (hA : val6 a = (A : Int)) (i : Nat) (hi : i < 192) : bitAt a i = ((A / 2 ^ i % 2 : Nat) : Int) := by
  obtain ⟨x0, x1, x2, x3, x4, x5, e0, e1, e2, e3, e4, e5, b0, b1, b2, b3, b4, b5⟩ := nat_digits a ha
  unfold val6 at hA
  rw [e0, e1, e2, e3, e4, e5] at hA
  have hs : i % 32 < 32 := Nat.mod_lt _ (by decide)
  have hp : 2 ^ i = (2 ^ 32) ^ (i / 32) * 2 ^ (i % 32) := by rw [← Nat.pow_mul, ← Nat.pow_add, Nat.div_add_mod]
  unfold bitAt
  obtain ⟨s, hs'⟩ : ∃ s, i % 32 = s := ⟨_, rfl⟩
  obtain ⟨m, hm⟩ : ∃ m, i / 32 = m := ⟨_, rfl⟩
  rw [hs'] at hs hp ⊢
  rw [hm] at hp ⊢
  have hm6 : m < 6 := by omega
  rw [hp]
  match m, hm6 with
  | 0, _ =>
    rw [e0, bit_cast, ← mid_bit 0 x0 (x1 + x2 * 4294967296 + x3 * 18446744073709551616 + x4 * 79228162514264337593543950336 + x5 * 340282366920938463463374607431768211456) s 1 (by decide) hs]
    congr 3
    omega
  | 1, _ =>
    rw [e1, bit_cast, ← mid_bit x0 x1 (x2 + x3 * 4294967296 + x4 * 18446744073709551616 + x5 * 79228162514264337593543950336) s 4294967296 b0 hs]
    congr 3
    omega
  | 2, _ =>
    rw [e2, bit_cast, ← mid_bit (x0 + x1 * 4294967296) x2 (x3 + x4 * 4294967296 + x5 * 18446744073709551616) s 18446744073709551616 (by omega) hs]
    congr 3
    omega
  | 3, _ =>
    rw [e3, bit_cast, ← mid_bit (x0 + x1 * 4294967296 + x2 * 18446744073709551616) x3 (x4 + x5 * 4294967296) s 79228162514264337593543950336 (by omega) hs]
    congr 3
    omega
  | 4, _ =>
    rw [e4, bit_cast, ← mid_bit (x0 + x1 * 4294967296 + x2 * 18446744073709551616 + x3 * 79228162514264337593543950336) x4 x5 s 340282366920938463463374607431768211456 (by omega) hs]
    congr 3
    omega
  | 5, _ =>
    rw [e5, bit_cast, ← mid_bit (x0 + x1 * 4294967296 + x2 * 18446744073709551616 + x3 * 79228162514264337593543950336 + x4 * 340282366920938463463374607431768211456) x5 0 s 1461501637330902918203684832716283019655932542976 (by omega) hs]
    congr 3
    omega
theorem div_step (T bit n q r : Nat) (hq : T / n = q) (hr : T % n = r) (hn : 0 < n) (hb : bit ≤ 1) :
    (2 * r + bit < n → (2 * T + bit) / n = 2 * q ∧ (2 * T + bit) % n = 2 * r + bit) ∧ (¬ 2 * r + bit < n → (2 * T + bit) / n = 2 * q + 1 ∧ (2 * T + bit) % n = 2 * r + bit - n) := by
  have e := Nat.div_add_mod T n
  rw [hq, hr] at e
  have hrn : r < n := by rw [← hr]; exact Nat.mod_lt _ hn
  constructor
  · intro h
    have e2 : 2 * T + bit = (2 * r + bit) + n * (2 * q) := by rw [← e, Nat.mul_left_comm n 2 q]; omega
    rw [e2, Nat.add_mul_div_left _ _ hn, Nat.div_eq_of_lt h, Nat.zero_add, Nat.add_mul_mod_self_left, Nat.mod_eq_of_lt h]
    exact ⟨rfl, rfl⟩
  · intro h
    have e2 : 2 * T + bit = (2 * r + bit - n) + n * (2 * q + 1) := by
      have e3 : n * (2 * q + 1) = 2 * (n * q) + n := by rw [Nat.mul_add, Nat.mul_left_comm n 2 q, Nat.mul_one]
      rw [e3, ← e]; omega
    have h2 : 2 * r + bit - n < n := by omega
    rw [e2, Nat.add_mul_div_left _ _ hn, Nat.div_eq_of_lt h2, Nat.zero_add, Nat.add_mul_mod_self_left, Nat.mod_eq_of_lt h2]
    exact ⟨rfl, rfl⟩
theorem qS_val (a : List Int) (ha : dig6 a) (A : Nat) (hA : val6 a = (A : Int)) (n : Nat) (hn : 0 < n) (hn2 : n < 18446744073709551616) : ∀ k, k ≤ 192 →
    val6 (qS a (oneL n) k).1 = ((A / 2 ^ (192 - k) / n : Nat) : Int) ∧ val6 (qS a (oneL n) k).2 = ((A / 2 ^ (192 - k) % n : Nat) : Int)
  | 0, _ => by
    have hlt := (val_nn a ha).2
    have : A / 2 ^ 192 = 0 := Nat.div_eq_of_lt (by
      have h192 : (2 : Nat) ^ 192 = 6277101735386680763835789423207666416102355444464034512896 := rfl
      rw [h192]
      omega)
    rw [Nat.sub_zero, this, Nat.zero_div, Nat.zero_mod]
    exact ⟨rfl, rfl⟩
  | k + 1, hk => by
    obtain ⟨h1, h2⟩ := qS_val a ha A hA n hn hn2 k (by omega)
    obtain ⟨s1, s2⟩ := qS_six a (oneL n) k
    have hi : 191 - k < 192 := by omega
    have hb := bit_val a ha A hA (191 - k) hi
    have hT : A / 2 ^ (192 - k) = A / 2 ^ (191 - k) / 2 := by rw [Nat.div_div_eq_div_mul, show (2 : Nat) ^ (191 - k) * 2 = 2 ^ (192 - k) by rw [show 192 - k = (191 - k) + 1 by omega, Nat.pow_succ]]
    have hlt := (val_nn a ha).2
    obtain ⟨T', hT'⟩ : ∃ T', A / 2 ^ (191 - k) = T' := ⟨_, rfl⟩
    have hTA : T' ≤ A := by rw [← hT']; exact Nat.div_le_self _ _
    rw [hT'] at hb hT
    rw [hT] at h1 h2
    rw [show 192 - (k + 1) = 191 - k by omega, hT']
    obtain ⟨T, hTT⟩ : ∃ T, T' / 2 = T := ⟨_, rfl⟩
    rw [hTT] at h1 h2
    obtain ⟨bt', hbt⟩ : ∃ b, T' % 2 = b := ⟨_, rfl⟩
    rw [hbt] at hb
    have hb1 : bt' ≤ 1 := by omega
    have e2 : 2 * T + bt' = T' := by omega
    have hs := div_step T bt' n (T / n) (T % n) rfl rfl hn hb1
    rw [e2] at hs
    have hqT : T / n ≤ T := Nat.div_le_self _ _
    have hrT : T % n < n := Nat.mod_lt _ hn
    show val6 (qStep a (oneL n) (qS a (oneL n) k) (191 - k)).1 = _ ∧ val6 (qStep a (oneL n) (qS a (oneL n) k) (191 - k)).2 = _
    unfold qStep
    rw [hb]
    obtain ⟨⟨q, r⟩, hqr⟩ : ∃ p, qS a (oneL n) k = p := ⟨_, rfl⟩
    rw [hqr] at h1 h2 s1 s2 ⊢
    dsimp only at h1 h2 s1 s2 ⊢
    have v1 := val_tw q 0 s1.1 s1.2 (by decide) (by rw [h1]; omega)
    have v2 := val_tw r (bt' : Int) s2.1 s2.2 (by omega) (by rw [h2]; omega)
    have d1 := tw_six q 0 s1
    have d2 := tw_six r (bt' : Int) s2
    have hone := one_dig n hn2
    have vo := val_one n
    rw [lessL_val _ _ d2.1 hone, v2, vo, h2]
    by_cases c : 2 * (T % n) + bt' < n
    · have c' : ((T % n : Nat) : Int) * 2 + (bt' : Int) < (n : Int) := by omega
      rw [if_pos (decide_eq_true c'), v1, v2, h1, h2, (hs.1 c).1, (hs.1 c).2]
      constructor <;> omega
    · have c' : ¬ ((T % n : Nat) : Int) * 2 + (bt' : Int) < (n : Int) := by omega
      rw [if_neg (by rw [decide_eq_false c']; decide), (hs.2 c).1, (hs.2 c).2]
      dsimp only
      rw [val_inc _ d1.2, v1, h1, val_minus _ _ d2.1 hone (by rw [v2, vo, h2]; omega), v2, vo, h2]
      constructor <;> omega
theorem quo_val (a : List Int) (ha : dig6 a) (n : Nat) (hn : 0 < n) (hn2 : n < 18446744073709551616) : val6 (qS a (oneL n) 192).1 = val6 a / (n : Int) := by
  have hnn := (val_nn a ha).1
  have h := (qS_val a ha (val6 a).toNat (by omega) n hn hn2 192 (Nat.le_refl _)).1
  rw [Nat.sub_self, Nat.pow_zero, Nat.div_one] at h
  rw [h, Int.natCast_ediv, Int.toNat_of_nonneg hnn]
end Go.Proofs.YtkcncfikejepdaaDoor.Ext
