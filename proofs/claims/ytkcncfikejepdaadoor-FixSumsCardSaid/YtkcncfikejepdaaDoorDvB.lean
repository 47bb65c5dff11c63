/- The plain law of Div64's general walk: one digit's words, and the whole. -/
import Derived.Test.YtkcncfikejepdaaDoorFixR
import Derived.Lib.ItoaNum
import Derived.Test.YtkcncfikejepdaaDoorDiv
import Derived.Laws.BitsLemmas
namespace Go.Proofs.YtkcncfikejepdaaDoor.EFix
set_option linter.unusedVariables false
theorem kn_mul (y1 y0 q r u : Nat) (h : q * y1 + r = u) : q * (y1 * 4294967296 + y0) + r * 4294967296 = u * 4294967296 + q * y0 := by
  rw [← h, Nat.mul_add, ← Nat.mul_assoc, Nat.add_mul]
  omega
theorem kn_lin {Z a b P x : Nat} (e : Z + a = b + P) (h : a + x < P) : b + x < Z := by omega
theorem kn_lin2 {Z a b P x : Nat} (e : Z + a = b + P) (h : P ≤ a + x) : Z ≤ b + x := by omega
/-- the test says that the guess is too great -/
theorem kn_down (y1 y0 u x q r : Nat) (h : q * y1 + r = u) (hu : u < y1 * 4294967296 + y0) (hx : x < 4294967296) (ht : 4294967296 ≤ q ∨ r * 4294967296 + x < q * y0) :
    (u * 4294967296 + x) / (y1 * 4294967296 + y0) < q := by
  have e := kn_mul y1 y0 q r u h
  have hy : 0 < y1 * 4294967296 + y0 := by omega
  rw [Nat.div_lt_iff_lt_mul hy]
  rcases ht with ht | ht
  · obtain ⟨Y, hY⟩ : ∃ Y, y1 * 4294967296 + y0 = Y := ⟨_, rfl⟩
    rw [hY] at hu ⊢
    have h1 := Nat.mul_le_mul_right Y ht
    clear e h hY ht
    obtain ⟨Z, hZ⟩ : ∃ Z, q * Y = Z := ⟨_, rfl⟩
    rw [hZ] at h1 ⊢
    have h2 : Y * 4294967296 ≤ Z := by rw [Nat.mul_comm]; exact h1
    have h3 : (u + 1) * 4294967296 ≤ Y * 4294967296 := Nat.mul_le_mul_right _ hu
    rw [Nat.add_mul, Nat.one_mul] at h3
    exact Nat.lt_of_lt_of_le (Nat.add_lt_add_left hx _) (Nat.le_trans h3 h2)
  · obtain ⟨Z, hZ⟩ : ∃ Z, q * (y1 * 4294967296 + y0) = Z := ⟨_, rfl⟩
    obtain ⟨P, hP⟩ : ∃ P, q * y0 = P := ⟨_, rfl⟩
    rw [hZ, hP] at e
    rw [hP] at ht
    rw [hZ]
    clear hZ hP h hu hy hx
    exact kn_lin e ht
/-- the test says that the guess is not too great -/
theorem kn_fits (y1 y0 u x q r : Nat) (h : q * y1 + r = u) (hy : 0 < y1 * 4294967296 + y0) (ht : q * y0 ≤ r * 4294967296 + x) : q ≤ (u * 4294967296 + x) / (y1 * 4294967296 + y0) := by
  have e := kn_mul y1 y0 q r u h
  rw [Nat.le_div_iff_mul_le hy]
  obtain ⟨Z, hZ⟩ : ∃ Z, q * (y1 * 4294967296 + y0) = Z := ⟨_, rfl⟩
  obtain ⟨P, hP⟩ : ∃ P, q * y0 = P := ⟨_, rfl⟩
  rw [hZ, hP] at e
  rw [hP] at ht
  rw [hZ]
  clear hZ hP h hy
  exact kn_lin2 e ht
/-- the rest has come to B: no more to take away -/
theorem kn_break (y1 y0 u x q r : Nat) (h : q * y1 + r = u) (hy : 0 < y1 * 4294967296 + y0) (h0 : y0 < 4294967296) (hq : q ≤ 4294967296) (hr : 4294967296 ≤ r) : q ≤ (u * 4294967296 + x) / (y1 * 4294967296 + y0) := by
  refine kn_fits y1 y0 u x q r h hy ?_
  have h1 : q * y0 ≤ 4294967296 * y0 := Nat.mul_le_mul_right _ hq
  omega
/-- the first guess is no less than the digit, and at most B + 1 -/
theorem kn_first (y1 y0 u x : Nat) (hy1 : 2147483648 ≤ y1) (h0 : y0 < 4294967296) (hu : u < y1 * 4294967296 + y0) (hx : x < 4294967296) :
    (u * 4294967296 + x) / (y1 * 4294967296 + y0) ≤ u / y1 ∧ u / y1 ≤ 4294967297 := by
  constructor
  · have h1 : (u * 4294967296 + x) / (y1 * 4294967296 + y0) ≤ (u * 4294967296 + x) / (y1 * 4294967296) := Nat.div_le_div_left (by omega) (by omega)
    have h2 : (u * 4294967296 + x) / (y1 * 4294967296) = u / y1 := by
      rw [Nat.mul_comm y1, ← Nat.div_div_eq_div_mul]
      congr 1
      omega
    omega
  · have h1 : u / y1 < 4294967298 := by
      rw [Nat.div_lt_iff_lt_mul (by omega)]
      omega
    omega
/-- two digits: the whole quotient -/
theorem kn_two (u x1 x0 y : Nat) (hy : 0 < y) (hx0 : x0 < 4294967296) : (u * 18446744073709551616 + x1 * 4294967296 + x0) / y = (u * 4294967296 + x1) / y * 4294967296 + ((u * 4294967296 + x1) % y * 4294967296 + x0) / y := by
  have e := Nat.div_add_mod (u * 4294967296 + x1) y
  obtain ⟨q, hq⟩ : ∃ q, (u * 4294967296 + x1) / y = q := ⟨_, rfl⟩
  obtain ⟨r, hr⟩ : ∃ r, (u * 4294967296 + x1) % y = r := ⟨_, rfl⟩
  rw [hq, hr] at e
  rw [hq, hr]
  have e2 : u * 18446744073709551616 + x1 * 4294967296 + x0 = (r * 4294967296 + x0) + y * (q * 4294967296) := by
    rw [← Nat.mul_assoc]
    omega
  rw [e2, Nat.add_mul_div_left _ _ hy]
  omega
theorem kn_digit (u x y : Nat) (hu : u < y) (hx : x < 4294967296) : (u * 4294967296 + x) / y < 4294967296 := by
  rw [Nat.div_lt_iff_lt_mul (by omega)]
  omega
/-- the divisor moved up to 64 bits -/
theorem norm_y (y : Nat) (h1 : 1 ≤ y) (h2 : y < 18446744073709551616) : Lib.bitLen y ≤ 64 ∧ 1 ≤ Lib.bitLen y ∧ 9223372036854775808 ≤ y * 2 ^ (64 - Lib.bitLen y) ∧ y * 2 ^ (64 - Lib.bitLen y) < 18446744073709551616 := by
  obtain ⟨a1, a2, a3⟩ := Lib.bitLenAux_bounds 64 y h2 (by omega)
  have e : Lib.bitLen y = Lib.bitLenAux 64 y := rfl
  rw [← e] at a1 a2 a3
  obtain ⟨L, hL⟩ : ∃ L, Lib.bitLen y = L := ⟨_, rfl⟩
  rw [hL] at a1 a2 a3 ⊢
  have hL64 : L ≤ 64 := by
    rcases Nat.lt_or_ge 64 L with h | h
    · exfalso
      have h3 : 2 ^ 64 ≤ 2 ^ (L - 1) := Nat.pow_le_pow_right (by decide) (by omega)
      have h4 : (2 : Nat) ^ 64 = 18446744073709551616 := rfl
      rw [h4] at h3
      omega
    · exact h
  refine ⟨hL64, a1, ?_, ?_⟩
  · have h3 : 2 ^ (L - 1) * 2 ^ (64 - L) ≤ y * 2 ^ (64 - L) := Nat.mul_le_mul_right _ a2
    rw [← Nat.pow_add, show L - 1 + (64 - L) = 63 by omega] at h3
    exact h3
  · have h3 : y * 2 ^ (64 - L) < 2 ^ L * 2 ^ (64 - L) := Nat.mul_lt_mul_of_pos_right a3 (Nat.two_pow_pos _)
    rw [← Nat.pow_add, show L + (64 - L) = 64 by omega] at h3
    exact h3
/-- the dividend moved up as far: its high word, its low word -/
theorem shift_split (hi lo s : Nat) (hs : s ≤ 64) : (hi * 18446744073709551616 + lo) * 2 ^ s = (hi * 2 ^ s + lo / 2 ^ (64 - s)) * 18446744073709551616 + lo * 2 ^ s % 18446744073709551616 := by
  have h64 : (18446744073709551616 : Nat) = 2 ^ (64 - s) * 2 ^ s := by rw [← Nat.pow_add, show 64 - s + s = 64 by omega]
  have h1 : lo * 2 ^ s / 18446744073709551616 = lo / 2 ^ (64 - s) := by rw [h64]; exact Nat.mul_div_mul_right _ _ (Nat.two_pow_pos s)
  have h2 := Nat.div_add_mod (lo * 2 ^ s) 18446744073709551616
  rw [h1] at h2
  rw [Nat.add_mul, Nat.add_mul, Nat.mul_right_comm hi]
  omega
/-- both moved: the same quotient -/
theorem shift_div (U y s : Nat) : U * 2 ^ s / (y * 2 ^ s) = U / y := Nat.mul_div_mul_right _ _ (Nat.two_pow_pos s)
end Go.Proofs.YtkcncfikejepdaaDoor.EFix
namespace Go.Proofs.YtkcncfikejepdaaDoor.Ext
open Go.RowKit Go.Proofs.YtkcncfikejepdaaDoorW.PrintWords Go.Proofs.YtkcncfikejepdaaDoor.EFix
theorem cast_shl (x s : Nat) : (x : Int) * 2 ^ s = ((x * 2 ^ s : Nat) : Int) := by rw [Int.natCast_mul, Int.natCast_pow]; rfl
theorem cast_shr (x s : Nat) : (x : Int) / 2 ^ s = ((x / 2 ^ s : Nat) : Int) := by rw [Int.natCast_ediv, Int.natCast_pow]; rfl
theorem shl_fits (x s : Nat) (h : x * 2 ^ s < 18446744073709551616) : IntKind.u64.wrap ((x : Int) * 2 ^ s) = ((x * 2 ^ s : Nat) : Int) := by rw [cast_shl]; exact wraps_u64 _ (by omega) (by omega)
theorem shl_cut (x s : Nat) : IntKind.u64.wrap ((x : Int) * 2 ^ s) = ((x * 2 ^ s % 18446744073709551616 : Nat) : Int) := by rw [cast_shl, wrap_u64]; omega
theorem or_shift (hi r s : Nat) (hs : s ≤ 64) (h : hi * 2 ^ s < 18446744073709551616) (hr : r < 2 ^ s) : bits .or .u64 ((hi * 2 ^ s : Nat) : Int) (r : Int) = ((hi * 2 ^ s + r : Nat) : Int) := by
  have e : ((2 ^ s : Nat) : Int) = (2 : Int) ^ s := by rw [Int.natCast_pow]; rfl
  have hp : (2 : Nat) ^ s ≤ 2 ^ 64 := Nat.pow_le_pow_right (by decide) hs
  have h64 : (2 : Nat) ^ 64 = 18446744073709551616 := rfl
  rw [h64] at hp
  have h64' : (2 : Int) ^ 64 = 18446744073709551616 := rfl
  have hm : ((hi * 2 ^ s : Nat) : Int) % 2 ^ s = 0 := by rw [← cast_shl]; exact Int.mul_emod_left _ _
  have := bits_join .u64 64 (by decide) wraps_u64 s ((hi * 2 ^ s : Nat) : Int) (r : Int) (Int.natCast_nonneg _) hm (by rw [h64']; exact Int.ofNat_lt.2 h) (Int.natCast_nonneg _) (by rw [← e]; exact Int.ofNat_lt.2 hr) (by rw [h64']; exact Int.ofNat_lt.2 (Nat.lt_of_lt_of_le hr hp))
  rw [this, Int.natCast_add]
end Go.Proofs.YtkcncfikejepdaaDoor.Ext
namespace Go.Proofs.YtkcncfikejepdaaDoor.Ext
open Go.RowKit Go.Proofs.YtkcncfikejepdaaDoorW.PrintWords Go.Proofs.YtkcncfikejepdaaDoor.EFix
set_option linter.unusedVariables false
/-- what a guess keeps: it is no less than the digit -/
def Kn (y1 y0 u x q r : Nat) : Prop := q * y1 + r = u ∧ (u * 4294967296 + x) / (y1 * 4294967296 + y0) ≤ q ∧ q ≤ 4294967297 ∧ r < 4294967296
/-- the divisor's halves, the dividend's bounds -/
def KnB (y1 y0 u x : Nat) : Prop := 2147483648 ≤ y1 ∧ y1 < 4294967296 ∧ y0 < 4294967296 ∧ u < y1 * 4294967296 + y0 ∧ x < 4294967296
theorem kn_start {y1 y0 u x : Nat} (b : KnB y1 y0 u x) : Kn y1 y0 u x (u / y1) (u % y1) := by
  obtain ⟨b1, b2, b3, b4, b5⟩ := b
  obtain ⟨h1, h2⟩ := kn_first y1 y0 u x b1 b3 b4 b5
  have h3 : u % y1 < y1 := Nat.mod_lt _ (by omega)
  refine ⟨?_, h1, h2, by omega⟩
  rw [Nat.mul_comm]
  exact Nat.div_add_mod u y1
theorem kn_ybound {q y0 : Nat} (h : q ≤ 4294967297) (h0 : y0 < 4294967296) : q * y0 < 18446744073709551616 := by
  have := Nat.mul_le_mul h (show y0 ≤ 4294967295 by omega)
  omega
theorem kn_fits2 {y1 y0 u x q r : Nat} (b : KnB y1 y0 u x) (k : Kn y1 y0 u x q r) (ht : ¬ (r * 4294967296 + x < q * y0)) : q = (u * 4294967296 + x) / (y1 * 4294967296 + y0) := by
  obtain ⟨b1, b2, b3, b4, b5⟩ := b
  obtain ⟨k1, k2, k3, k4⟩ := k
  exact Nat.le_antisymm (kn_fits y1 y0 u x q r k1 (by omega) (by omega)) k2
/-- the guess was too great: one less -/
theorem kn_less {y1 y0 u x q r : Nat} (b : KnB y1 y0 u x) (k : Kn y1 y0 u x q r) (ht : 4294967296 ≤ q ∨ r * 4294967296 + x < q * y0) :
    1 ≤ q ∧ (q - 1) * y1 + (r + y1) = u ∧ (u * 4294967296 + x) / (y1 * 4294967296 + y0) ≤ q - 1 ∧ q - 1 ≤ 4294967296 := by
  obtain ⟨b1, b2, b3, b4, b5⟩ := b
  obtain ⟨k1, k2, k3, k4⟩ := k
  have h := kn_down y1 y0 u x q r k1 b4 b5 ht
  obtain ⟨D, hD⟩ : ∃ D, (u * 4294967296 + x) / (y1 * 4294967296 + y0) = D := ⟨_, rfl⟩
  rw [hD] at h k2 ⊢
  clear ht hD
  refine ⟨by omega, ?_, by omega, by omega⟩
  rw [Nat.sub_mul, Nat.one_mul]
  have : y1 ≤ q * y1 := Nat.le_mul_of_pos_left _ (by omega)
  omega
theorem kn_next {y1 y0 u x q r : Nat} (b : KnB y1 y0 u x) (k : Kn y1 y0 u x q r) (ht : 4294967296 ≤ q ∨ r * 4294967296 + x < q * y0) (hr : ¬ (4294967296 ≤ r + y1)) : Kn y1 y0 u x (q - 1) (r + y1) := by
  obtain ⟨h0, h1, h2, h3⟩ := kn_less b k ht
  exact ⟨h1, h2, by omega, by omega⟩
theorem kn_stop {y1 y0 u x q r : Nat} (b : KnB y1 y0 u x) (k : Kn y1 y0 u x q r) (ht : 4294967296 ≤ q ∨ r * 4294967296 + x < q * y0) (hr : 4294967296 ≤ r + y1) : q - 1 = (u * 4294967296 + x) / (y1 * 4294967296 + y0) := by
  obtain ⟨h0, h1, h2, h3⟩ := kn_less b k ht
  obtain ⟨b1, b2, b3, b4, b5⟩ := b
  exact Nat.le_antisymm (kn_break y1 y0 u x (q - 1) (r + y1) h1 (by omega) b3 h3 hr) h2
/-- the words -/
theorem w_mul (q y : Nat) (h : q * y < 18446744073709551616) : IntKind.u64.wrap ((q : Int) * (y : Int)) = (q : Int) * (y : Int) := by
  rw [← Int.natCast_mul]
  exact wraps_u64 _ (by omega) (by omega)
theorem w_first (u y1 : Nat) : (u : Int) - ((u / y1 : Nat) : Int) * (y1 : Int) = ((u % y1 : Nat) : Int) := by
  have := Nat.div_add_mod u y1
  rw [← Int.natCast_mul]
  rw [Nat.mul_comm] at this
  omega
/-- the rest behind a digit -/
theorem w_rest {u x q Y : Nat} (hY : 0 < Y) (hy : Y < 18446744073709551616) (h : q = (u * 4294967296 + x) / Y) :
    IntKind.u64.wrap (IntKind.u64.wrap (IntKind.u64.wrap ((u : Int) * 4294967296) + (x : Int)) - IntKind.u64.wrap ((q : Int) * (Y : Int))) = (((u * 4294967296 + x) % Y : Nat) : Int) := by
  have e := Nat.div_add_mod (u * 4294967296 + x) Y
  rw [← h, Nat.mul_comm] at e
  have hm : (u * 4294967296 + x) % Y < Y := Nat.mod_lt _ hY
  obtain ⟨m, hmm⟩ : ∃ m, (u * 4294967296 + x) % Y = m := ⟨_, rfl⟩
  rw [hmm] at e hm
  rw [hmm, ← Int.natCast_mul]
  obtain ⟨P, hP⟩ : ∃ P, q * Y = P := ⟨_, rfl⟩
  rw [hP] at e
  rw [hP]
  simp only [wrap_u64]
  omega
theorem w_two {d1 d0 RQ : Nat} (e : d1 * 4294967296 + d0 = RQ) (h : RQ < 18446744073709551616) : IntKind.u64.wrap (IntKind.u64.wrap ((d1 : Int) * 4294967296) + (d0 : Int)) = (RQ : Int) := by
  simp only [wrap_u64]
  omega
theorem w_two2 {d1 d0 RQ : Nat} (e : d1 * 4294967296 + d0 = RQ) (h : RQ < 18446744073709551616) : IntKind.u64.wrap ((d1 : Int) * 4294967296 + (d0 : Int)) = (RQ : Int) := by
  simp only [wrap_u64]
  omega
/-- the whole: the two digits, and the rest moved back -/
theorem kn_whole {hi lo y s Y U Wd x1 x0 D1 D0 V : Nat} (hs : s ≤ 64) (hy : 0 < y) (hY : y * 2 ^ s = Y) (hU : hi * 2 ^ s + lo / 2 ^ (64 - s) = U) (hW : lo * 2 ^ s % 18446744073709551616 = Wd)
    (e1 : Wd / 4294967296 = x1) (e0 : Wd % 4294967296 = x0) (d1 : D1 = (U * 4294967296 + x1) / Y) (v : V = (U * 4294967296 + x1) % Y) (d0 : D0 = (V * 4294967296 + x0) / Y) :
    D1 * 4294967296 + D0 = (hi * 18446744073709551616 + lo) / y ∧ (V * 4294967296 + x0) % Y = (hi * 18446744073709551616 + lo) % y * 2 ^ s := by
  have h := shift_split hi lo s hs
  rw [hU, hW] at h
  have hp : 0 < 2 ^ s := Nat.two_pow_pos s
  have hY0 : 0 < Y := by rw [← hY]; exact Nat.mul_pos hy hp
  have e2 : U * 18446744073709551616 + Wd = U * 18446744073709551616 + x1 * 4294967296 + x0 := by omega
  constructor
  · have k := kn_two U x1 x0 Y hY0 (by omega)
    have g := shift_div (hi * 18446744073709551616 + lo) y s
    rw [hY, h, e2] at g
    rw [← v, ← d1, ← d0] at k
    exact k.symm.trans g
  · have g := Nat.mul_mod_mul_right (2 ^ s) (hi * 18446744073709551616 + lo) y
    rw [hY, h, e2] at g
    have e3 := Nat.div_add_mod (U * 4294967296 + x1) Y
    rw [← v, ← d1] at e3
    have e4 : U * 18446744073709551616 + x1 * 4294967296 + x0 = (V * 4294967296 + x0) + Y * (D1 * 4294967296) := by
      have e5 : Y * (D1 * 4294967296) = Y * D1 * 4294967296 := (Nat.mul_assoc _ _ _).symm
      clear g h e2
      omega
    have e6 : ((V * 4294967296 + x0) + Y * (D1 * 4294967296)) % Y = (V * 4294967296 + x0) % Y := Nat.add_mul_mod_self_left _ _ _
    rw [← e4] at e6
    exact e6.symm.trans g
end Go.Proofs.YtkcncfikejepdaaDoor.Ext
