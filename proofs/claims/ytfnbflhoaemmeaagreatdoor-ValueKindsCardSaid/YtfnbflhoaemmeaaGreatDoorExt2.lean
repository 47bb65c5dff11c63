/- Mul64 (the product of two words), signed and abs in plain words. Conditions: arguments that are words. -/
import Derived.Test.YtfnbflhoaemmeaaGreatDoorPar
namespace Go.Proofs.YtfnbflhoaemmeaaGreatDoor.Ext
open Go.Shelf Go.RowKit Go.Sort Go.Lib Go.Proofs.YtfnbflhoaemmeaaGreatDoorW.PrintWords Go.Proofs.YtfnbflhoaemmeaaGreatDoorW.PrintLast Go.Proofs.YtfnbflhoaemmeaaGreatDoor.EFxA
set_option linter.unusedVariables false
def signed3.f (a0 : Int) (a1 : Bool) : Option (Int × Bool) := if 0 ≤ a0 ∧ a0 < 18446744073709551616 then some (if a1 then (if a0 ≤ 9223372036854775808 then (-a0, true) else (0, false)) else (if a0 ≤ 9223372036854775807 then (a0, true) else (0, false))) else none
theorem signed3_eq (a0 : Int) (a1 : Bool) (h0 : 0 ≤ a0) (h1 : a0 < 18446744073709551616) : fixnum_signed.f 3 a0 a1 = some (if a1 then (if a0 ≤ 9223372036854775808 then (-a0, true) else (0, false)) else (if a0 ≤ 9223372036854775807 then (a0, true) else (0, false))) := by
  cases a1
  · unfold fixnum_signed.f
    rw [if_neg (by decide)]
    by_cases c : a0 > 9223372036854775807
    · rw [decide_eq_true c, fixnum_signed.j0, if_pos rfl, fixnum_signed.j1, if_pos rfl, if_neg (by decide), if_neg (by omega)]
    · rw [decide_eq_false c, fixnum_signed.j0, if_neg (by decide), if_neg (by decide), fixnum_signed.j1, if_neg (by decide), if_neg (by decide), if_neg (by decide), if_pos (by omega)]
      have : wrap64 a0 = a0 := by rw [wrap64]; omega
      rw [this]
  · unfold fixnum_signed.f
    rw [if_pos rfl, fixnum_signed.j0, if_neg (by decide), if_pos rfl, if_pos rfl]
    by_cases c : a0 > 9223372036854775808
    · rw [decide_eq_true c, fixnum_signed.j1, if_pos rfl, if_neg (by omega)]
    · rw [decide_eq_false c, fixnum_signed.j1, if_neg (by decide), if_pos rfl, if_pos (by omega)]
      have : wrap64 (IntKind.u64.wrap (-a0)) = -a0 := by rw [wrap_u64, wrap64]; omega
      rw [this]
theorem signed3.calls (a0 : Int) (a1 : Bool) (r1 : Int) (r2 : Bool) (w : World) (h : signed3.f a0 a1 = some (r1, r2)) :
    Calls Tryz.prog 71 #[.int .u64 a0, .bool a1] w fun e w' => e = .returned (.tuple #[.int .i64 r1, .bool r2]) ∧ Drawn0 w w' := by
  unfold signed3.f at h
  by_cases hs : 0 ≤ a0 ∧ a0 < 18446744073709551616
  · rw [if_pos hs, ← signed3_eq a0 a1 hs.1 hs.2] at h
    exact fixnum_signed.calls 3 a0 a1 r1 r2 w h
  · rw [if_neg hs] at h; cases h
def mul64.f (a b : Int) : Option (Int × Int) := if (0 ≤ a ∧ a < 18446744073709551616) ∧ 0 ≤ b ∧ b < 18446744073709551616 then some (a * b / 18446744073709551616, a * b % 18446744073709551616) else none
theorem split_mul (a1 a0 b1 b0 : Int) : (a1 * 4294967296 + a0) * (b1 * 4294967296 + b0) = a1 * b1 * 18446744073709551616 + (a1 * b0 + a0 * b1) * 4294967296 + a0 * b0 := by
  rw [Int.add_mul, Int.mul_add, Int.mul_add, Int.add_mul]
  have e1 : a1 * 4294967296 * (b1 * 4294967296) = a1 * b1 * 18446744073709551616 := by
    rw [Int.mul_assoc, Int.mul_left_comm 4294967296 b1, ← Int.mul_assoc a1 b1]; rfl
  have e2 : a1 * 4294967296 * b0 = a1 * b0 * 4294967296 := by rw [Int.mul_assoc, Int.mul_comm 4294967296 b0, ← Int.mul_assoc]
  have e3 : a0 * (b1 * 4294967296) = a0 * b1 * 4294967296 := by rw [← Int.mul_assoc]
  rw [e1, e2, e3]
  omega
theorem mul_le (x y : Int) (h0 : 0 ≤ x) (h1 : x ≤ 4294967295) (g0 : 0 ≤ y) (g1 : y ≤ 4294967295) : 0 ≤ x * y ∧ x * y ≤ 18446744065119617025 :=
  ⟨Int.mul_nonneg h0 g0, Int.le_trans (Int.mul_le_mul h1 g1 g0 (by omega)) (by omega)⟩
theorem mul64_eq (a b : Int) (h0 : 0 ≤ a) (h1 : a < 18446744073709551616) (g0 : 0 ≤ b) (g1 : b < 18446744073709551616) : bits_Mul64.f a b = some (a * b / 18446744073709551616, a * b % 18446744073709551616) := by
  unfold bits_Mul64.f
  have ha : bits .and .u64 a 4294967295 = a % 4294967296 := and_32 a h0 h1
  have hb : bits .and .u64 b 4294967295 = b % 4294967296 := and_32 b g0 g1
  have hw : ∀ x, bits .and .u64 (IntKind.u64.wrap x) 4294967295 = IntKind.u64.wrap x % 4294967296 := fun x => and_32 _ (by rw [wrap_u64]; omega) (by rw [wrap_u64]; omega)
  rw [ha, hb]
  simp only [hw]
  obtain ⟨a1, hA1⟩ : ∃ x, a / 4294967296 = x := ⟨_, rfl⟩
  obtain ⟨a0, hA0⟩ : ∃ x, a % 4294967296 = x := ⟨_, rfl⟩
  obtain ⟨b1, hB1⟩ : ∃ x, b / 4294967296 = x := ⟨_, rfl⟩
  obtain ⟨b0, hB0⟩ : ∃ x, b % 4294967296 = x := ⟨_, rfl⟩
  have ea : a = a1 * 4294967296 + a0 := by omega
  have eb : b = b1 * 4294967296 + b0 := by omega
  have p11 := mul_le a1 b1 (by omega) (by omega) (by omega) (by omega)
  have p10 := mul_le a1 b0 (by omega) (by omega) (by omega) (by omega)
  have p01 := mul_le a0 b1 (by omega) (by omega) (by omega) (by omega)
  have p00 := mul_le a0 b0 (by omega) (by omega) (by omega) (by omega)
  have e := split_mul a1 a0 b1 b0
  rw [← ea, ← eb] at e
  rw [hA1, hA0, hB1, hB0, e]
  generalize a1 * b1 = P11 at *
  generalize a1 * b0 = P10 at *
  generalize a0 * b1 = P01 at *
  generalize a0 * b0 = P00 at *
  clear e ea eb hA1 hA0 hB1 hB0 hw ha hb
  have w11 : IntKind.u64.wrap P11 = P11 := wraps_u64 _ (by omega) (by omega)
  have w10 : IntKind.u64.wrap P10 = P10 := wraps_u64 _ (by omega) (by omega)
  have w01 : IntKind.u64.wrap P01 = P01 := wraps_u64 _ (by omega) (by omega)
  have w00 : IntKind.u64.wrap P00 = P00 := wraps_u64 _ (by omega) (by omega)
  rw [w11, w10, w01, w00]
  obtain ⟨t, ht⟩ : ∃ t, P10 + P00 / 4294967296 = t := ⟨_, rfl⟩
  have wt : IntKind.u64.wrap t = t := wraps_u64 _ (by omega) (by omega)
  rw [ht, wt, wraps_u64 (P11 + t / 4294967296) (by omega) (by omega), wraps_u64 (t % 4294967296 + P01) (by omega) (by omega)]
  rw [wraps_u64 (P11 + t / 4294967296 + (t % 4294967296 + P01) / 4294967296) (by omega) (by omega), wrap_u64]
  simp only [Option.some.injEq, Prod.mk.injEq]
  constructor
  · omega
  · trivial
theorem mul64.calls (a b r1 r2 : Int) (w : World) (h : mul64.f a b = some (r1, r2)) :
    Calls Tryz.prog 108 #[.int .u64 a, .int .u64 b] w fun e w' => e = .returned (.tuple #[.int .u64 r1, .int .u64 r2]) ∧ Drawn0 w w' := by
  unfold mul64.f at h
  by_cases hs : (0 ≤ a ∧ a < 18446744073709551616) ∧ 0 ≤ b ∧ b < 18446744073709551616
  · rw [if_pos hs, ← mul64_eq a b hs.1.1 hs.1.2 hs.2.1 hs.2.2] at h
    exact bits_Mul64.calls a b r1 r2 w h
  · rw [if_neg hs] at h; cases h
def add64.f (x y c : Int) : Option (Int × Int) := if (0 ≤ x ∧ x < 18446744073709551616) ∧ (0 ≤ y ∧ y < 18446744073709551616) ∧ 0 ≤ c ∧ c ≤ 1 then some ((x + y + c) % 18446744073709551616, (x + y + c) / 18446744073709551616) else none
theorem run_f25 (x y c : Int) (hx : 0 ≤ x) (hy : 0 ≤ y) (h0 : 0 ≤ c) (h1 : c ≤ 1) (w : World) :
    (callFunc 107 #[.int .u64 x, .int .u64 y, .int .u64 c]).run Tryz.prog w = .ok (.value (.tuple #[.int .u64 ((x + y + c) % 18446744073709551616), .int .u64 ((x + y + c) / 18446744073709551616)])) w := by
  rw [run_callFunc_extern Tryz.func107 (by kernel_rfl) (by kernel_rfl) (by kernel_rfl) (e := add64Entry) (by kernel_rfl), run_add64 x y c hx hy h0 h1]
  rfl
theorem add64_event {ops : Array Oper} {rest : List Oper} {o : Oper} {a : Act} {Q : Exit → Act → World → Prop} {W : World} (N : Option Tmp) (hd : o.dst = N) (hg : o.guard = none) {ars : Array Operand} {ts : Array TypeId}
    (hop : o.op = .call { callee := .value (.func 107), args := ars, argTypes := ts }) (x y c r1 r2 : Int) (hargs : ars.map a.eval = #[.int .u64 x, .int .u64 y, .int .u64 c]) (h : add64.f x y c = some (r1, r2))
    (hk : wpList Tryz.prog ops Q rest (a.put N (.tuple #[.int .u64 r1, .int .u64 r2])) W) : wpList Tryz.prog ops Q (o :: rest) a W := by
  unfold add64.f at h
  by_cases hs : (0 ≤ x ∧ x < 18446744073709551616) ∧ (0 ≤ y ∧ y < 18446744073709551616) ∧ 0 ≤ c ∧ c ≤ 1
  · rw [if_pos hs] at h
    simp only [Option.some.injEq, Prod.mk.injEq] at h
    obtain ⟨rfl, rfl⟩ := h
    subst hd
    refine Kd.event_run hg ?_ hk
    have he := run_f25 x y c hs.1.1 hs.2.1.1 hs.2.2.1 hs.2.2.2 W
    unfold execOp
    simp [hop, resolve, Deferred.ofValue, invoke, Act.eval, hargs, he]
  · rw [if_neg hs] at h; cases h
end Go.Proofs.YtfnbflhoaemmeaaGreatDoor.Ext
