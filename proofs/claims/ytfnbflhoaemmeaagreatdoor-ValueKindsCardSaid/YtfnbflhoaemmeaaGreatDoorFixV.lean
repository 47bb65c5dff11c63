/- The reference's sums, told as numbers: what plus, minus, less and fix make of six digits; the reference's Sum is the sum. Conditions: int64s, at most a thousand. -/
import Derived.Test.YtfnbflhoaemmeaaGreatDoorRsD
import Derived.Test.YtfnbflhoaemmeaaGreatDoorFixQ
namespace Go.Proofs.YtfnbflhoaemmeaaGreatDoor.Ext
open Go.RowKit Go.Proofs.YtfnbflhoaemmeaaGreatDoor.EFix
def val6 (l : List Int) : Int := l.getD 0 0 + l.getD 1 0 * 4294967296 + l.getD 2 0 * 18446744073709551616 + l.getD 3 0 * 79228162514264337593543950336 + l.getD 4 0 * 340282366920938463463374607431768211456 + l.getD 5 0 * 1461501637330902918203684832716283019655932542976
theorem set_getD (l : List Int) (m i : Nat) (x : Int) (h : m < l.length) : (l.set m x).getD i 0 = if i = m then x else l.getD i 0 := by
  rw [List.getD_eq_getElem?_getD, List.getElem?_set]
  by_cases e : i = m
  · subst e; rw [if_pos rfl, if_pos rfl, if_pos h]; rfl
  · rw [if_neg (fun h => e h.symm), if_neg e, List.getD_eq_getElem?_getD]
theorem plusR_at (a b : List Int) : ∀ m i, m ≤ 6 → i < m → (plusR a b m).getD i 0 = (a.getD i 0 + b.getD i 0 + plusC a b i) % 4294967296
  | 0, i, _, h => by omega
  | m + 1, i, hm, h => by
    rw [plusR, set_getD _ _ _ _ (by rw [plusR_len]; omega)]
    by_cases e : i = m
    · subst e; rw [if_pos rfl]
    · rw [if_neg e]; exact plusR_at a b m i (by omega) (by omega)
theorem minusR_at (a b : List Int) : ∀ m i, m ≤ 6 → i < m → (minusR a b m).getD i 0 = (a.getD i 0 + 4294967296 - b.getD i 0 - minusC a b i) % 4294967296
  | 0, i, _, h => by omega
  | m + 1, i, hm, h => by
    rw [minusR, set_getD _ _ _ _ (by rw [minusR_len]; omega)]
    by_cases e : i = m
    · subst e; rw [if_pos rfl]
    · rw [if_neg e]; exact minusR_at a b m i (by omega) (by omega)
theorem val_plus (a b : List Int) (ha : dig6 a) (hb : dig6 b) (h : val6 a + val6 b < 6277101735386680763835789423207666416102355444464034512896) : val6 (plusR a b 6) = val6 a + val6 b := by
  have p : ∀ i, i < 6 → _ := fun i hi => plusR_at a b 6 i (by omega) hi
  have a0 := ha 0; have a1 := ha 1; have a2 := ha 2; have a3 := ha 3; have a4 := ha 4; have a5 := ha 5
  have b0 := hb 0; have b1 := hb 1; have b2 := hb 2; have b3 := hb 3; have b4 := hb 4; have b5 := hb 5
  have c1 : plusC a b 1 = (a.getD 0 0 + b.getD 0 0 + plusC a b 0) / 4294967296 := rfl
  have c2 : plusC a b 2 = (a.getD 1 0 + b.getD 1 0 + plusC a b 1) / 4294967296 := rfl
  have c3 : plusC a b 3 = (a.getD 2 0 + b.getD 2 0 + plusC a b 2) / 4294967296 := rfl
  have c4 : plusC a b 4 = (a.getD 3 0 + b.getD 3 0 + plusC a b 3) / 4294967296 := rfl
  have c5 : plusC a b 5 = (a.getD 4 0 + b.getD 4 0 + plusC a b 4) / 4294967296 := rfl
  have c0 : plusC a b 0 = 0 := rfl
  unfold val6 at h ⊢
  rw [p 0 (by omega), p 1 (by omega), p 2 (by omega), p 3 (by omega), p 4 (by omega), p 5 (by omega)]
  generalize plusC a b 5 = C5 at *
  generalize plusC a b 4 = C4 at *
  generalize plusC a b 3 = C3 at *
  generalize plusC a b 2 = C2 at *
  generalize plusC a b 1 = C1 at *
  generalize plusC a b 0 = C0 at *
  generalize a.getD 0 0 = A0 at *
  generalize a.getD 1 0 = A1 at *
  generalize a.getD 2 0 = A2 at *
  generalize a.getD 3 0 = A3 at *
  generalize a.getD 4 0 = A4 at *
  generalize a.getD 5 0 = A5 at *
  generalize b.getD 0 0 = B0 at *
  generalize b.getD 1 0 = B1 at *
  generalize b.getD 2 0 = B2 at *
  generalize b.getD 3 0 = B3 at *
  generalize b.getD 4 0 = B4 at *
  generalize b.getD 5 0 = B5 at *
  omega
theorem lessL_val (a b : List Int) (ha : dig6 a) (hb : dig6 b) : lessL a b 6 = decide (val6 a < val6 b) := by
  have a0 := ha 0; have a1 := ha 1; have a2 := ha 2; have a3 := ha 3; have a4 := ha 4; have a5 := ha 5
  have b0 := hb 0; have b1 := hb 1; have b2 := hb 2; have b3 := hb 3; have b4 := hb 4; have b5 := hb 5
  unfold val6
  simp only [lessL]
  generalize a.getD 0 0 = A0 at *
  generalize a.getD 1 0 = A1 at *
  generalize a.getD 2 0 = A2 at *
  generalize a.getD 3 0 = A3 at *
  generalize a.getD 4 0 = A4 at *
  generalize a.getD 5 0 = A5 at *
  generalize b.getD 0 0 = B0 at *
  generalize b.getD 1 0 = B1 at *
  generalize b.getD 2 0 = B2 at *
  generalize b.getD 3 0 = B3 at *
  generalize b.getD 4 0 = B4 at *
  generalize b.getD 5 0 = B5 at *
  by_cases e5 : A5 = B5
  · rw [if_pos e5]
    by_cases e4 : A4 = B4
    · rw [if_pos e4]
      by_cases e3 : A3 = B3
      · rw [if_pos e3]
        by_cases e2 : A2 = B2
        · rw [if_pos e2]
          by_cases e1 : A1 = B1
          · rw [if_pos e1]
            by_cases e0 : A0 = B0
            · rw [if_pos e0]; symm; exact decide_eq_false (by omega)
            · rw [if_neg e0]; exact decide_eq_decide.mpr (by omega)
          · rw [if_neg e1]; exact decide_eq_decide.mpr (by omega)
        · rw [if_neg e2]; exact decide_eq_decide.mpr (by omega)
      · rw [if_neg e3]; exact decide_eq_decide.mpr (by omega)
    · rw [if_neg e4]; exact decide_eq_decide.mpr (by omega)
  · rw [if_neg e5]; exact decide_eq_decide.mpr (by omega)
theorem val_minus (a b : List Int) (ha : dig6 a) (hb : dig6 b) (h : val6 b ≤ val6 a) : val6 (minusR a b 6) = val6 a - val6 b := by
  have p : ∀ i, i < 6 → _ := fun i hi => minusR_at a b 6 i (by omega) hi
  have a0 := ha 0; have a1 := ha 1; have a2 := ha 2; have a3 := ha 3; have a4 := ha 4; have a5 := ha 5
  have b0 := hb 0; have b1 := hb 1; have b2 := hb 2; have b3 := hb 3; have b4 := hb 4; have b5 := hb 5
  have c1 : minusC a b 1 = 1 - (a.getD 0 0 + 4294967296 - b.getD 0 0 - minusC a b 0) / 4294967296 := rfl
  have c2 : minusC a b 2 = 1 - (a.getD 1 0 + 4294967296 - b.getD 1 0 - minusC a b 1) / 4294967296 := rfl
  have c3 : minusC a b 3 = 1 - (a.getD 2 0 + 4294967296 - b.getD 2 0 - minusC a b 2) / 4294967296 := rfl
  have c4 : minusC a b 4 = 1 - (a.getD 3 0 + 4294967296 - b.getD 3 0 - minusC a b 3) / 4294967296 := rfl
  have c5 : minusC a b 5 = 1 - (a.getD 4 0 + 4294967296 - b.getD 4 0 - minusC a b 4) / 4294967296 := rfl
  have c0 : minusC a b 0 = 0 := rfl
  unfold val6 at h ⊢
  rw [p 0 (by omega), p 1 (by omega), p 2 (by omega), p 3 (by omega), p 4 (by omega), p 5 (by omega)]
  generalize minusC a b 5 = C5 at *
  generalize minusC a b 4 = C4 at *
  generalize minusC a b 3 = C3 at *
  generalize minusC a b 2 = C2 at *
  generalize minusC a b 1 = C1 at *
  generalize minusC a b 0 = C0 at *
  generalize a.getD 0 0 = A0 at *
  generalize a.getD 1 0 = A1 at *
  generalize a.getD 2 0 = A2 at *
  generalize a.getD 3 0 = A3 at *
  generalize a.getD 4 0 = A4 at *
  generalize a.getD 5 0 = A5 at *
  generalize b.getD 0 0 = B0 at *
  generalize b.getD 1 0 = B1 at *
  generalize b.getD 2 0 = B2 at *
  generalize b.getD 3 0 = B3 at *
  generalize b.getD 4 0 = B4 at *
  generalize b.getD 5 0 = B5 at *
  omega
theorem fix_val (l : List Int) (neg : Bool) (hl : dig6 l) : fixL l neg = if val6 l < 18446744073709551616 then sgnI (val6 l) neg else (0, false) := by
  have a0 := hl 0; have a1 := hl 1; have a2 := hl 2; have a3 := hl 3; have a4 := hl 4; have a5 := hl 5
  unfold fixL
  by_cases h : l.getD 2 0 = 0 ∧ l.getD 3 0 = 0 ∧ l.getD 4 0 = 0 ∧ l.getD 5 0 = 0
  · rw [if_pos h]
    have e : val6 l = l.getD 0 0 + l.getD 1 0 * 4294967296 := by unfold val6; rw [h.1, h.2.1, h.2.2.1, h.2.2.2]; omega
    rw [e, if_pos (by omega)]
  · rw [if_neg h, if_neg]
    unfold val6
    generalize l.getD 0 0 = A0 at *
    generalize l.getD 1 0 = A1 at *
    generalize l.getD 2 0 = A2 at *
    generalize l.getD 3 0 = A3 at *
    generalize l.getD 4 0 = A4 at *
    generalize l.getD 5 0 = A5 at *
    omega
theorem val_one (n : Nat) : val6 (oneL n) = (n : Int) := by
  have : val6 (oneL n) = ((n : Nat) : Int) % 4294967296 + ((n : Nat) : Int) / 4294967296 * 4294967296 + 0 * 18446744073709551616 + 0 * 79228162514264337593543950336 + 0 * 340282366920938463463374607431768211456 + 0 * 1461501637330902918203684832716283019655932542976 := rfl
  rw [this]
  omega
end Go.Proofs.YtfnbflhoaemmeaaGreatDoor.Ext
