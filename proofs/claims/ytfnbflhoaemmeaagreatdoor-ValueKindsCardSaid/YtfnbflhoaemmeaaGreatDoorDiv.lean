/- math/bits.Div64 where the high word is 0, and at the divisor 10000. Conditions: those of its hypotheses (no panic). -/
import Derived.Test.YtfnbflhoaemmeaaGreatDoorEFxA1
import Derived.Test.YtfnbflhoaemmeaaGreatDoorWGuard
import Derived.RegionTactic
import Derived.ChangeAlike
import Derived.Laws.BitsLemmas
namespace Go.Proofs.YtfnbflhoaemmeaaGreatDoor.Ext
open Go.RowKit Go.Proofs.YtfnbflhoaemmeaaGreatDoorW.PrintWords Go.Proofs.YtfnbflhoaemmeaaGreatDoorW.PrintLast Go.Proofs.YtfnbflhoaemmeaaGreatDoorW.PrintMore
attribute [local go_sem] max2_int min2_int max_two min_two max_three min_three max_four min_four
set_option linter.unusedVariables false
set_option linter.unusedSimpArgs false
set_option maxHeartbeats 1600000 in
set_option maxRecDepth 100000 in
theorem len_10000 (w : World) : Calls Tryz.prog 139 #[.int .u64 10000] w fun e w' => e = .returned (.int .i64 14) ∧ w' = w := by
  go_enter Tryz.func139, Tryz.ntmps139
  go_wp2
  go_ret
  exact ⟨by first | rfl | (simp; done) | (simp; decide +kernel), by first | rfl | trivial⟩
set_option maxHeartbeats 1600000 in
set_option maxRecDepth 100000 in
theorem lead_10000 (w : World) : Calls Tryz.prog 128 #[.int .u64 10000] w fun e w' => e = .returned (.int .i64 50) ∧ w' = w := by
  go_enter Tryz.func128, Tryz.ntmps128
  go_wp2_with (first | ((with_reducible refine gate_callee (f := 139) rfl ?_); refine goesL_ (some 4) rfl rfl Tryz.func139 (by kernel_rfl) rfl #[.int .u64 10000] rfl (by (try simp only [List.map_toArray, List.map_cons, List.map_nil]); first | done | rfl) ?_; (with_reducible refine (len_10000 _).mono ?_); rintro e w10 ⟨rfl, rfl⟩; refine ⟨_, rfl, ?_⟩))
  go_ret
  exact ⟨by first | rfl | (simp; done) | (simp; decide +kernel), by first | rfl | trivial⟩
theorem wraps_u64 (n : Int) (h0 : 0 ≤ n) (h1 : n < 18446744073709551616) : IntKind.u64.wrap n = n := by
  simp [IntKind.wrap, IntKind.bits, IntKind.signed]; omega
theorem wrap_u64 (n : Int) : IntKind.u64.wrap n = n % 18446744073709551616 := by simp [IntKind.wrap, IntKind.bits, IntKind.signed]
theorem or_50 (a b : Int) (h0 : 0 ≤ a) (h1 : a < 16384) (g0 : 0 ≤ b) (g1 : b < 1125899906842624) : bits .or .u64 (a * 1125899906842624) b = a * 1125899906842624 + b :=
  bits_join .u64 64 (by decide) wraps_u64 50 (a * 1125899906842624) b (by omega) (by omega) (by omega) g0 (by omega) (by omega)
theorem and_32 (a : Int) (h0 : 0 ≤ a) (h1 : a < 18446744073709551616) : bits .and .u64 a 4294967295 = a % 4294967296 :=
  bits_mask .u64 64 (by decide) wraps_u64 32 (by decide) a h0 h1
set_option maxHeartbeats 1600000 in
set_option maxRecDepth 100000 in
theorem div_lo (lo y : Int) (w : World) (h : 0 < y) (hy : y < 18446744073709551616) (h0 : 0 ≤ lo) (h1 : lo < 18446744073709551616) :
    Calls Tryz.prog 109 #[.int .u64 0, .int .u64 lo, .int .u64 y] w fun e w' => e = .returned (.tuple #[.int .u64 (lo / y), .int .u64 (lo % y)]) ∧ Drawn0 w w' := by
  have c0 : (y == 0) = false := beq_eq_false_iff_ne.mpr (by omega)
  have c0' : (y = 0) = False := eq_false (by omega)
  have c1 : decide (y ≤ 0) = false := decide_eq_false (by omega)
  have q1 : IntKind.u64.wrap (lo.tdiv y) = lo / y := by
    rw [Int.tdiv_eq_ediv_of_nonneg h0, wraps_u64 _ (Int.ediv_nonneg h0 (by omega)) (Int.lt_of_le_of_lt (Int.ediv_le_self y h0) h1)]
  have q2 : IntKind.u64.wrap (lo.tmod y) = lo % y := by
    rw [Int.tmod_eq_emod_of_nonneg h0, wraps_u64 _ (Int.emod_nonneg _ (by omega)) (Int.lt_trans (Int.emod_lt_of_pos _ h) hy)]
  have q3 : lo.tdiv y = lo / y := Int.tdiv_eq_ediv_of_nonneg h0
  have q5 : IntKind.u64.wrap (lo / y) = lo / y := wraps_u64 _ (Int.ediv_nonneg h0 (by omega)) (Int.lt_of_le_of_lt (Int.ediv_le_self y h0) h1)
  have q6 : IntKind.u64.wrap (lo % y) = lo % y := wraps_u64 _ (Int.emod_nonneg _ (by omega)) (Int.lt_trans (Int.emod_lt_of_pos _ h) hy)
  have q4 : lo.tmod y = lo % y := Int.tmod_eq_emod_of_nonneg h0
  go_enter Tryz.func109, Tryz.ntmps109
  go_wp2
  go_region
  all_goals go_wp2
  all_goals go_ret2
  all_goals exact ⟨by first | rfl | (simp [q1, q2]; done) | (simp [*]; done), by repeat (first | exact Drawn0.refl _ | apply Drawn0.step)⟩
set_option maxHeartbeats 1600000 in
set_option maxRecDepth 100000 in
theorem div_10000 (hi lo : Int) (w : World) (h : 0 < hi) (hy : hi < 10000) (h0 : 0 ≤ lo) (h1 : lo < 18446744073709551616) :
    Calls Tryz.prog 109 #[.int .u64 hi, .int .u64 lo, .int .u64 10000] w fun e w' => e = .returned (.tuple #[.int .u64 ((hi * 18446744073709551616 + lo) / 10000), .int .u64 ((hi * 18446744073709551616 + lo) % 10000)]) ∧ Drawn0 w w' := by
  have c0 : (hi == 0) = false := beq_eq_false_iff_ne.mpr (by omega)
  have c0' : (hi = 0) = False := eq_false (by omega)
  have c1 : decide (10000 ≤ hi) = false := decide_eq_false (by omega)
  obtain ⟨U, hU⟩ : ∃ U, U = hi * 1125899906842624 + lo / 16384 := ⟨_, rfl⟩
  obtain ⟨T, hT⟩ : ∃ T, T = (lo % 16384) * 1125899906842624 := ⟨_, rfl⟩
  obtain ⟨T1, hT1⟩ : ∃ T1, T1 = (lo % 16384) * 262144 := ⟨_, rfl⟩
  obtain ⟨Q1, hQ1⟩ : ∃ x, x = U / 2621440000 := ⟨_, rfl⟩
  obtain ⟨R1, hR1⟩ : ∃ x, x = U - Q1 * 2621440000 := ⟨_, rfl⟩
  obtain ⟨V1, hV1⟩ : ∃ x, x = R1 * 4294967296 + T1 := ⟨_, rfl⟩
  obtain ⟨Q0, hQ0⟩ : ∃ x, x = V1 / 2621440000 := ⟨_, rfl⟩
  obtain ⟨R0, hR0⟩ : ∃ x, x = V1 - Q0 * 2621440000 := ⟨_, rfl⟩
  have f1 : bits .or .u64 (hi * 1125899906842624) (lo / 16384) = U := by rw [hU]; exact or_50 hi (lo / 16384) (by omega) (by omega) (by omega) (by omega)
  have f2 : IntKind.u64.wrap (lo * 1125899906842624) = T := by rw [wrap_u64, hT]; omega
  have f3 : T / 4294967296 = T1 := by omega
  have f4 : bits .and .u64 T 4294967295 = 0 := by rw [and_32 T (by omega) (by omega)]; omega
  have f5 : bits .and .u64 11258999068426240000 4294967295 = 0 := by rw [and_32 _ (by omega) (by omega)]; rfl
  have f6 : U.tdiv 2621440000 = Q1 := by rw [Int.tdiv_eq_ediv_of_nonneg (by omega), hQ1]
  have f7 : IntKind.u64.wrap Q1 = Q1 := wraps_u64 _ (by omega) (by omega)
  have f8 : IntKind.u64.wrap (Q1 * 2621440000) = Q1 * 2621440000 := wraps_u64 _ (by omega) (by omega)
  have f9 : IntKind.u64.wrap (U - Q1 * 2621440000) = R1 := by rw [← hR1]; exact wraps_u64 _ (by omega) (by omega)
  have r1 : 0 ≤ R1 ∧ R1 < 2621440000 := by omega
  have f10 : decide (4294967296 ≤ Q1) = false := decide_eq_false (by omega)
  have f11 : IntKind.u64.wrap (4294967296 * R1) = R1 * 4294967296 := by rw [wraps_u64 _ (by omega) (by omega)]; omega
  have f12 : IntKind.u64.wrap (R1 * 4294967296 + T1) = V1 := by rw [← hV1]; exact wraps_u64 _ (by omega) (by omega)
  have f13 : decide (V1 < 0) = false := decide_eq_false (by omega)
  have f14 : IntKind.u64.wrap (IntKind.u64.wrap (IntKind.u64.wrap (U * 4294967296) + T1) - IntKind.u64.wrap (Q1 * 11258999068426240000)) = V1 := by
    simp only [wrap_u64]
    omega
  have f15 : V1.tdiv 2621440000 = Q0 := by rw [Int.tdiv_eq_ediv_of_nonneg (by omega), hQ0]
  have f16 : IntKind.u64.wrap Q0 = Q0 := wraps_u64 _ (by omega) (by omega)
  have f17 : IntKind.u64.wrap (Q0 * 2621440000) = Q0 * 2621440000 := wraps_u64 _ (by omega) (by omega)
  have f18 : IntKind.u64.wrap (V1 - Q0 * 2621440000) = R0 := by rw [← hR0]; exact wraps_u64 _ (by omega) (by omega)
  have r0 : 0 ≤ R0 ∧ R0 < 2621440000 := by omega
  have f20 : decide (4294967296 ≤ Q0) = false := decide_eq_false (by omega)
  have f21 : IntKind.u64.wrap (4294967296 * R0) = R0 * 4294967296 := by rw [wraps_u64 _ (by omega) (by omega)]; omega
  have f22 : IntKind.u64.wrap (R0 * 4294967296) = R0 * 4294967296 := by rw [wraps_u64 _ (by omega) (by omega)]
  have f23 : decide (R0 * 4294967296 < 0) = false := decide_eq_false (by omega)
  have res : IntKind.u64.wrap (IntKind.u64.wrap (Q1 * 4294967296) + Q0) = (hi * 18446744073709551616 + lo) / 10000 := by
    simp only [wrap_u64]
    omega
  have res2 : IntKind.u64.wrap (IntKind.u64.wrap (IntKind.u64.wrap (V1 * 4294967296)) - IntKind.u64.wrap (Q0 * 11258999068426240000)) / 1125899906842624 = (hi * 18446744073709551616 + lo) % 10000 := by
    simp only [wrap_u64]
    omega
  clear hU hT hT1 hQ1 hR1 hV1 hQ0 hR0 r1 r0
  go_enter Tryz.func109, Tryz.ntmps109
  go_upto_block 0 with (first
    | ((with_reducible refine gate_callee (f := 128) rfl ?_); refine goesL_ (some 35) rfl rfl Tryz.func128 (by kernel_rfl) rfl #[.int .u64 10000] rfl (by (try simp only [List.map_toArray, List.map_cons, List.map_nil]); first | done | rfl) ?_; (with_reducible refine (lead_10000 _).mono ?_); rintro e w10 ⟨rfl, rfl⟩; refine ⟨_, rfl, ?_⟩))
  go_wp2
  go_loopg [15, 16] 1 (fun kq v15 v16 w' => v15 = .int .u64 Q1 ∧ v16 = .int .u64 R1 ∧ Drawn0 w10 w')
  case atStart => exact ⟨by first | rfl | (simp [*]; done), by first | rfl | (simp [*]; done), by repeat (first | exact Drawn0.refl _ | apply Drawn0.step)⟩
  case round =>
    obtain ⟨rfl, rfl, HD⟩ := hrel
    go_wp2
    go_loopg [16, 18] 1 (fun kq v16 v18 w' => v16 = .int .u64 R0 ∧ v18 = .int .u64 Q0 ∧ Drawn0 w10 w')
    case atStart => exact ⟨by first | rfl | (simp [*]; done), by first | rfl | (simp [*]; done), by repeat (first | exact HD | exact Drawn0.refl _ | apply Drawn0.step)⟩
    case round =>
      obtain ⟨rfl, rfl, HD⟩ := hrel
      go_wp2
      go_ret2
      exact ⟨by first | rfl | (simp [res, res2]; done), by repeat (first | exact HD | exact Drawn0.refl _ | apply Drawn0.step)⟩
end Go.Proofs.YtfnbflhoaemmeaaGreatDoor.Ext
