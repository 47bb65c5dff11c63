/- The reference's times, told as a number: where the two highest digits are 0, the product. Conditions: digits below 2^32; a magnitude below 2^64. -/
import Derived.Test.YtfnbflhoaemmeaaGreatDoorWt
import Derived.Test.YtfnbflhoaemmeaaGreatDoorFixV
namespace Go.Proofs.YtfnbflhoaemmeaaGreatDoor.Ext
open Go.RowKit Go.Proofs.YtfnbflhoaemmeaaGreatDoor.EFix
theorem six (R : List Int) (h : R.length = 6) : ∃ r0 r1 r2 r3 r4 r5, R = [r0, r1, r2, r3, r4, r5] := by
  match R, h with
  | [r0, r1, r2, r3, r4, r5], _ => exact ⟨r0, r1, r2, r3, r4, r5, rfl⟩
theorem step0 (a b : List Int) (r0 r1 r2 r3 r4 r5 : Int) (h2 : r2 = 0) : val6 (tOut a b 0 [r0, r1, r2, r3, r4, r5]) = val6 [r0, r1, r2, r3, r4, r5] + (a.getD 0 0 * b.getD 0 0 + a.getD 0 0 * b.getD 1 0 * 4294967296) := by
  subst h2
  have e : val6 (tOut a b 0 [r0, r1, 0, r3, r4, r5]) =
    (0 + (r0 + a.getD 0 0 * b.getD 0 0)) % 4294967296 + ((0 + (r0 + a.getD 0 0 * b.getD 0 0)) / 4294967296 + (r1 + a.getD 0 0 * b.getD 1 0)) % 4294967296 * 4294967296 + (0 + ((0 + (r0 + a.getD 0 0 * b.getD 0 0)) / 4294967296 + (r1 + a.getD 0 0 * b.getD 1 0)) / 4294967296) * 18446744073709551616 + r3 * 79228162514264337593543950336 + r4 * 340282366920938463463374607431768211456 + r5 * 1461501637330902918203684832716283019655932542976 := rfl
  have e2 : val6 [r0, r1, 0, r3, r4, r5] = r0 + r1 * 4294967296 + 0 * 18446744073709551616 + r3 * 79228162514264337593543950336 + r4 * 340282366920938463463374607431768211456 + r5 * 1461501637330902918203684832716283019655932542976 := rfl
  rw [e, e2]
  generalize a.getD 0 0 * b.getD 0 0 = p
  generalize a.getD 0 0 * b.getD 1 0 = q
  omega
theorem step1 (a b : List Int) (r0 r1 r2 r3 r4 r5 : Int) (h2 : r3 = 0) : val6 (tOut a b 1 [r0, r1, r2, r3, r4, r5]) = val6 [r0, r1, r2, r3, r4, r5] + (a.getD 1 0 * b.getD 0 0 + a.getD 1 0 * b.getD 1 0 * 4294967296) * 4294967296 := by
  subst h2
  have e : val6 (tOut a b 1 [r0, r1, r2, 0, r4, r5]) =
    r0 + (0 + (r1 + a.getD 1 0 * b.getD 0 0)) % 4294967296 * 4294967296 + ((0 + (r1 + a.getD 1 0 * b.getD 0 0)) / 4294967296 + (r2 + a.getD 1 0 * b.getD 1 0)) % 4294967296 * 18446744073709551616 + (0 + ((0 + (r1 + a.getD 1 0 * b.getD 0 0)) / 4294967296 + (r2 + a.getD 1 0 * b.getD 1 0)) / 4294967296) * 79228162514264337593543950336 + r4 * 340282366920938463463374607431768211456 + r5 * 1461501637330902918203684832716283019655932542976 := rfl
  have e2 : val6 [r0, r1, r2, 0, r4, r5] = r0 + r1 * 4294967296 + r2 * 18446744073709551616 + 0 * 79228162514264337593543950336 + r4 * 340282366920938463463374607431768211456 + r5 * 1461501637330902918203684832716283019655932542976 := rfl
  rw [e, e2]
  generalize a.getD 1 0 * b.getD 0 0 = p
  generalize a.getD 1 0 * b.getD 1 0 = q
  omega
theorem step2 (a b : List Int) (r0 r1 r2 r3 r4 r5 : Int) (h2 : r4 = 0) : val6 (tOut a b 2 [r0, r1, r2, r3, r4, r5]) = val6 [r0, r1, r2, r3, r4, r5] + (a.getD 2 0 * b.getD 0 0 + a.getD 2 0 * b.getD 1 0 * 4294967296) * 18446744073709551616 := by
  subst h2
  have e : val6 (tOut a b 2 [r0, r1, r2, r3, 0, r5]) =
    r0 + r1 * 4294967296 + (0 + (r2 + a.getD 2 0 * b.getD 0 0)) % 4294967296 * 18446744073709551616 + ((0 + (r2 + a.getD 2 0 * b.getD 0 0)) / 4294967296 + (r3 + a.getD 2 0 * b.getD 1 0)) % 4294967296 * 79228162514264337593543950336 + (0 + ((0 + (r2 + a.getD 2 0 * b.getD 0 0)) / 4294967296 + (r3 + a.getD 2 0 * b.getD 1 0)) / 4294967296) * 340282366920938463463374607431768211456 + r5 * 1461501637330902918203684832716283019655932542976 := rfl
  have e2 : val6 [r0, r1, r2, r3, 0, r5] = r0 + r1 * 4294967296 + r2 * 18446744073709551616 + r3 * 79228162514264337593543950336 + 0 * 340282366920938463463374607431768211456 + r5 * 1461501637330902918203684832716283019655932542976 := rfl
  rw [e, e2]
  generalize a.getD 2 0 * b.getD 0 0 = p
  generalize a.getD 2 0 * b.getD 1 0 = q
  omega
theorem step3 (a b : List Int) (r0 r1 r2 r3 r4 r5 : Int) (h2 : r5 = 0) : val6 (tOut a b 3 [r0, r1, r2, r3, r4, r5]) = val6 [r0, r1, r2, r3, r4, r5] + (a.getD 3 0 * b.getD 0 0 + a.getD 3 0 * b.getD 1 0 * 4294967296) * 79228162514264337593543950336 := by
  subst h2
  have e : val6 (tOut a b 3 [r0, r1, r2, r3, r4, 0]) =
    r0 + r1 * 4294967296 + r2 * 18446744073709551616 + (0 + (r3 + a.getD 3 0 * b.getD 0 0)) % 4294967296 * 79228162514264337593543950336 + ((0 + (r3 + a.getD 3 0 * b.getD 0 0)) / 4294967296 + (r4 + a.getD 3 0 * b.getD 1 0)) % 4294967296 * 340282366920938463463374607431768211456 + (0 + ((0 + (r3 + a.getD 3 0 * b.getD 0 0)) / 4294967296 + (r4 + a.getD 3 0 * b.getD 1 0)) / 4294967296) * 1461501637330902918203684832716283019655932542976 := rfl
  have e2 : val6 [r0, r1, r2, r3, r4, 0] = r0 + r1 * 4294967296 + r2 * 18446744073709551616 + r3 * 79228162514264337593543950336 + r4 * 340282366920938463463374607431768211456 + 0 * 1461501637330902918203684832716283019655932542976 := rfl
  rw [e, e2]
  generalize a.getD 3 0 * b.getD 0 0 = p
  generalize a.getD 3 0 * b.getD 1 0 = q
  omega
theorem step45 (a b : List Int) (r0 r1 r2 r3 r4 r5 : Int) (h4 : a.getD 4 0 = 0) (h5 : a.getD 5 0 = 0) (b4 : 0 ≤ r4 ∧ r4 < 4294967296) (b5 : 0 ≤ r5 ∧ r5 < 4294967296) :
    tOut a b 5 (tOut a b 4 [r0, r1, r2, r3, r4, r5]) = [r0, r1, r2, r3, r4, r5] := by
  have e4 : tOut a b 4 [r0, r1, r2, r3, r4, r5] = [r0, r1, r2, r3, (0 + (r4 + a.getD 4 0 * b.getD 0 0)) % 4294967296, ((0 + (r4 + a.getD 4 0 * b.getD 0 0)) / 4294967296 + (r5 + a.getD 4 0 * b.getD 1 0)) % 4294967296] := rfl
  rw [e4, h4, Int.zero_mul, Int.zero_mul, show (0 + (r4 + 0)) % 4294967296 = r4 by omega, show ((0 + (r4 + 0)) / 4294967296 + (r5 + 0)) % 4294967296 = r5 by omega]
  have e5 : tOut a b 5 [r0, r1, r2, r3, r4, r5] = [r0, r1, r2, r3, r4, (0 + (r5 + a.getD 5 0 * b.getD 0 0)) % 4294967296] := rfl
  rw [e5, h5, Int.zero_mul, show (0 + (r5 + 0)) % 4294967296 = r5 by omega]
theorem times_dig (a b : List Int) (ha : dig6 a) (hb : dig6 b) : dig6 (tR a b 6) ∧ (tR a b 6).length = 6 := ⟨(tR_ok a b ha hb 6).1, (tR_ok a b ha hb 6).2.1⟩
theorem val_times (a b : List Int) (ha : dig6 a) (hb : dig6 b) (h4 : a.getD 4 0 = 0) (h5 : a.getD 5 0 = 0) :
    val6 (tR a b 6) = (a.getD 0 0 * b.getD 0 0 + a.getD 0 0 * b.getD 1 0 * 4294967296) + (a.getD 1 0 * b.getD 0 0 + a.getD 1 0 * b.getD 1 0 * 4294967296) * 4294967296 + (a.getD 2 0 * b.getD 0 0 + a.getD 2 0 * b.getD 1 0 * 4294967296) * 18446744073709551616 + (a.getD 3 0 * b.getD 0 0 + a.getD 3 0 * b.getD 1 0 * 4294967296) * 79228162514264337593543950336 := by
  have v0 : val6 (tR a b 0) = 0 := rfl
  have n0 : tR a b 1 = tOut a b 0 (tR a b 0) := rfl
  have n1 : tR a b 2 = tOut a b 1 (tR a b 1) := rfl
  have n2 : tR a b 3 = tOut a b 2 (tR a b 2) := rfl
  have n3 : tR a b 4 = tOut a b 3 (tR a b 3) := rfl
  have n4 : tR a b 6 = tOut a b 5 (tOut a b 4 (tR a b 4)) := rfl
  obtain ⟨_, l0, z0⟩ := tR_ok a b ha hb 0
  obtain ⟨_, l1, z1⟩ := tR_ok a b ha hb 1
  obtain ⟨_, l2, z2⟩ := tR_ok a b ha hb 2
  obtain ⟨_, l3, z3⟩ := tR_ok a b ha hb 3
  obtain ⟨d4, l4, _⟩ := tR_ok a b ha hb 4
  generalize tR a b 0 = R0 at *
  generalize tR a b 1 = R1 at *
  generalize tR a b 2 = R2 at *
  generalize tR a b 3 = R3 at *
  generalize tR a b 4 = R4 at *
  have s0 : val6 R1 = val6 R0 + (a.getD 0 0 * b.getD 0 0 + a.getD 0 0 * b.getD 1 0 * 4294967296) := by
    obtain ⟨r0, r1, r2, r3, r4, r5, rfl⟩ := six R0 l0
    rw [n0]; exact step0 a b r0 r1 r2 r3 r4 r5 (z0 2 (by omega))
  have s1 : val6 R2 = val6 R1 + (a.getD 1 0 * b.getD 0 0 + a.getD 1 0 * b.getD 1 0 * 4294967296) * 4294967296 := by
    obtain ⟨r0, r1, r2, r3, r4, r5, e⟩ := six R1 l1
    rw [n1, e]; exact step1 a b r0 r1 r2 r3 r4 r5 (by have := z1 3 (by omega); rw [e] at this; exact this)
  have s2 : val6 R3 = val6 R2 + (a.getD 2 0 * b.getD 0 0 + a.getD 2 0 * b.getD 1 0 * 4294967296) * 18446744073709551616 := by
    obtain ⟨r0, r1, r2, r3, r4, r5, e⟩ := six R2 l2
    rw [n2, e]; exact step2 a b r0 r1 r2 r3 r4 r5 (by have := z2 4 (by omega); rw [e] at this; exact this)
  have s3 : val6 R4 = val6 R3 + (a.getD 3 0 * b.getD 0 0 + a.getD 3 0 * b.getD 1 0 * 4294967296) * 79228162514264337593543950336 := by
    obtain ⟨r0, r1, r2, r3, r4, r5, e⟩ := six R3 l3
    rw [n3, e]; exact step3 a b r0 r1 r2 r3 r4 r5 (by have := z3 5 (by omega); rw [e] at this; exact this)
  have s4 : tOut a b 5 (tOut a b 4 R4) = R4 := by
    obtain ⟨r0, r1, r2, r3, r4, r5, e⟩ := six R4 l4
    have q4 := d4 4
    have q5 := d4 5
    rw [e] at q4 q5 ⊢
    exact step45 a b r0 r1 r2 r3 r4 r5 h4 h5 q4 q5
  rw [n4, s4, s3, s2, s1, s0, v0]
  omega
end Go.Proofs.YtfnbflhoaemmeaaGreatDoor.Ext
