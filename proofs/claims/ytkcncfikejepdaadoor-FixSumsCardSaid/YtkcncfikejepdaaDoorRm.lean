/- The reference's Mul and Div: what fixnum's say. Conditions: int64s; a divisor other than 0. -/
import Derived.Test.YtkcncfikejepdaaDoorFixZ
import Derived.Test.YtkcncfikejepdaaDoorFixT
import Derived.WalkKit
namespace Go.Proofs.YtkcncfikejepdaaDoor.Ext
open Go.RowKit Go.Proofs.YtkcncfikejepdaaDoorW.PrintWords Go.Proofs.YtkcncfikejepdaaDoorW.PrintLast Go.Proofs.YtkcncfikejepdaaDoorW.PrintMore Go.Proofs.YtkcncfikejepdaaDoor.EFix
attribute [local go_sem] max2_int min2_int max_two min_two max_three min_three max_four min_four
set_option linter.unusedVariables false
set_option linter.unusedSimpArgs false
theorem oneL_calls (u : Nat) (W : World) (h : u < 18446744073709551616) : Calls Tryd.prog 27 #[.int .u64 (u : Int)] W fun e w' => e = .returned (.agg (cs6 (oneL u))) ∧ Below W.heap.size W w' := one_calls (u : Int) W (by omega) (by omega)
theorem prod4 (a0 a1 b0 b1 : Int) : (a0 * b0 + a0 * b1 * 4294967296) + (a1 * b0 + a1 * b1 * 4294967296) * 4294967296 = (a0 + a1 * 4294967296) * (b0 + b1 * 4294967296) := by
  have e : (a0 + a1 * 4294967296) * (b0 + b1 * 4294967296) = a0 * b0 + a0 * (b1 * 4294967296) + (a1 * 4294967296 * b0 + a1 * 4294967296 * (b1 * 4294967296)) := by rw [Int.add_mul, Int.mul_add, Int.mul_add]
  have e1 : a0 * (b1 * 4294967296) = a0 * b1 * 4294967296 := (Int.mul_assoc _ _ _).symm
  have e2 : a1 * 4294967296 * b0 = a1 * b0 * 4294967296 := Int.mul_right_comm _ _ _
  have e3 : a1 * 4294967296 * (b1 * 4294967296) = a1 * b1 * 4294967296 * 4294967296 := by rw [← Int.mul_assoc, Int.mul_right_comm a1 4294967296 b1]
  rw [e, e1, e2, e3]
  omega
theorem val_prod (x y : Nat) (hx : x < 18446744073709551616) (hy : y < 18446744073709551616) : val6 (tR (oneL x) (oneL y) 6) = ((x * y : Nat) : Int) := by
  have e := val_times (oneL x) (oneL y) (one_dig x hx) (one_dig y hy) rfl rfl
  have x0 : (oneL x).getD 0 0 = (x : Int) % 4294967296 := rfl
  have x1 : (oneL x).getD 1 0 = (x : Int) / 4294967296 := rfl
  have x2 : (oneL x).getD 2 0 = 0 := rfl
  have x3 : (oneL x).getD 3 0 = 0 := rfl
  have y0 : (oneL y).getD 0 0 = (y : Int) % 4294967296 := rfl
  have y1 : (oneL y).getD 1 0 = (y : Int) / 4294967296 := rfl
  rw [e, x0, x1, x2, x3, y0, y1, Int.zero_mul, Int.zero_mul, Int.natCast_mul]
  have p := prod4 ((x : Int) % 4294967296) ((x : Int) / 4294967296) ((y : Int) % 4294967296) ((y : Int) / 4294967296)
  rw [show (x : Int) % 4294967296 + (x : Int) / 4294967296 * 4294967296 = (x : Int) by omega, show (y : Int) % 4294967296 + (y : Int) / 4294967296 * 4294967296 = (y : Int) by omega] at p
  omega
theorem sgn_eq (u : Nat) (neg : Bool) : sgnI (u : Int) neg = sgnS u neg := by
  unfold sgnI sgnS
  cases neg
  · simp only [Bool.false_eq_true, if_false]
    by_cases c2 : u ≤ 9223372036854775807
    · rw [if_pos c2, if_pos (by omega)]
    · rw [if_neg c2, if_neg (by omega)]
  · simp only [if_true]
    by_cases c2 : u ≤ 9223372036854775808
    · rw [if_pos c2, if_pos (by omega)]
    · rw [if_neg c2, if_neg (by omega)]
theorem refMul_eq (a b : Int) : (if ((a.natAbs * b.natAbs : Nat) : Int) / ((10000 : Nat) : Int) < 18446744073709551616 then sgnI (((a.natAbs * b.natAbs : Nat) : Int) / ((10000 : Nat) : Int)) (decide (a < 0) != decide (b < 0)) else (0, false)) = mulS a b := by
  unfold mulS
  obtain ⟨x, hx⟩ : ∃ x, a.natAbs * b.natAbs = x := ⟨_, rfl⟩
  rw [hx, show (x : Int) / ((10000 : Nat) : Int) = ((x / 10000 : Nat) : Int) by omega]
  by_cases c : x / 10000 < 18446744073709551616
  · rw [if_pos (by omega), if_neg (by omega), sgn_eq]
  · rw [if_neg (by omega), if_pos (by omega)]
theorem refDiv_eq (a b : Int) (h : b ≠ 0) : (if ((a.natAbs * 10000 : Nat) : Int) / ((b.natAbs : Nat) : Int) < 18446744073709551616 then sgnI (((a.natAbs * 10000 : Nat) : Int) / ((b.natAbs : Nat) : Int)) (decide (a < 0) != decide (b < 0)) else (0, false)) = divS a b := by
  unfold divS
  obtain ⟨x, hx⟩ : ∃ x, a.natAbs * 10000 = x := ⟨_, rfl⟩
  obtain ⟨y, hy⟩ : ∃ y, b.natAbs = y := ⟨_, rfl⟩
  have hy0 : 0 < y := by omega
  rw [hx, hy, ← Int.natCast_ediv]
  have key : x / y < 18446744073709551616 ↔ x / 18446744073709551616 < y := by
    rw [Nat.div_lt_iff_lt_mul hy0, Nat.div_lt_iff_lt_mul (by decide), Nat.mul_comm]
  by_cases c : x / y < 18446744073709551616
  · have := key.1 c
    rw [if_pos (by omega), if_neg (by omega), sgn_eq]
  · have : ¬ x / 18446744073709551616 < y := fun h => c (key.2 h)
    rw [if_neg (by omega), if_pos (by omega)]
set_option maxHeartbeats 8000000 in
set_option maxRecDepth 100000 in
theorem refMul_calls (a b : Int) (ha : -9223372036854775808 ≤ a ∧ a ≤ 9223372036854775807) (hb0 : -9223372036854775808 ≤ b ∧ b ≤ 9223372036854775807) (w : World) :
    Calls Tryd.prog 23 #[.int .i64 a, .int .i64 b] w fun e w' => e = .returned (.tuple #[.int .i64 (mulS a b).1, .bool (mulS a b).2]) ∧ Below w.heap.size w w' := by
  have honeA := fun w => oneL_calls a.natAbs w (by omega)
  have hXd := one_dig a.natAbs (by omega)
  have hTd := one_dig (b.natAbs) (by omega)
  have hYv := val_prod a.natAbs (b.natAbs) (by omega) (by omega)
  have hYd := times_dig (oneL a.natAbs) (oneL (b.natAbs)) hXd hTd
  have htimes := fun w => times_calls (oneL a.natAbs) (((b.natAbs : Nat)) : Int) hXd (by omega) (by omega) w
  rw [Int.toNat_natCast] at htimes
  obtain ⟨X, hX⟩ : ∃ X, oneL a.natAbs = X := ⟨_, rfl⟩
  rw [hX] at honeA htimes hYd hYv
  obtain ⟨Y, hY⟩ : ∃ Y, tR X (oneL (b.natAbs)) 6 = Y := ⟨_, rfl⟩
  rw [hY] at htimes hYd hYv
  have hquo := fun w => quo_calls Y (((10000 : Nat)) : Int) hYd.1 hYd.2 (by omega) (by omega) w
  have hZv := quo_val Y hYd.1 (10000) (by omega) (by omega)
  have hZ6 := (qS_six Y (oneL (10000)) 192).1
  rw [Int.toNat_natCast] at hquo
  obtain ⟨Z, hZ⟩ : ∃ Z, (qS Y (oneL (10000)) 192).1 = Z := ⟨_, rfl⟩
  rw [hZ] at hquo hZv hZ6
  obtain ⟨sg, hsg⟩ : ∃ s, (!(decide (a < 0) == decide (b < 0))) = s := ⟨_, rfl⟩
  have hfix := fun w => fix_calls Z sg hZ6.1 w
  have he : fixL Z sg = mulS a b := by
    rw [fix_val _ _ hZ6.1, hZv, hYv, ← hsg]
    exact refMul_eq a b
  rw [he] at hfix
  obtain ⟨⟨R1, R2⟩, hR⟩ : ∃ r, mulS a b = r := ⟨_, rfl⟩
  rw [hR] at hfix
  rw [hR]
  dsimp only at hfix ⊢
  have HSG : Aside0 True := ⟨trivial⟩
  have HB := Aside0.mk (Below.refl w.heap.size w)
  
  
  clear hX hY hZ hR hYv hZv he hXd hTd hYd hZ6
  go_enter Tryd.func23, Tryd.ntmps23
  go_wp2_with (first
    | ((with_reducible refine gate_callee (f := 28) rfl ?_); refine goesL_ (some 7) rfl rfl Tryd.func28 (by kernel_rfl) rfl #[.int .i64 a] rfl (by (try simp only [List.map_toArray, List.map_cons, List.map_nil]); first | done | rfl) ?_; (refine (abs_calls a ha.1 ha.2 _).mono ?_); rintro e w1 ⟨rfl, rfl⟩; refine ⟨_, rfl, ?_⟩)
    | ((with_reducible refine gate_callee (f := 27) rfl ?_); refine goesL_ (some 8) rfl rfl Tryd.func27 (by kernel_rfl) rfl #[.int .u64 ((a.natAbs : Nat) : Int)] rfl (by (try simp only [List.map_toArray, List.map_cons, List.map_nil]); first | done | rfl) ?_; (refine (honeA _).mono ?_); rintro e w1 ⟨rfl, hb⟩; refine ⟨_, rfl, ?_⟩; have n1_ := Aside0.mk (below_step (by repeat (first | (with_reducible first | exact HB.out | apply below_alloc | apply below_drew | apply pw_below_drewN | apply below_drew1) | exact HB.out)) hb); clear HB; have HB := n1_; clear n1_; clear hb)
    | ((with_reducible refine gate_callee (f := 28) rfl ?_); refine goesL_ (some 10) rfl rfl Tryd.func28 (by kernel_rfl) rfl #[.int .i64 b] rfl (by (try simp only [List.map_toArray, List.map_cons, List.map_nil]); first | done | rfl) ?_; (refine (abs_calls b hb0.1 hb0.2 _).mono ?_); rintro e w1 ⟨rfl, rfl⟩; refine ⟨_, rfl, ?_⟩)
    | ((with_reducible refine gate_callee (f := 43) rfl ?_); refine goesL_ (some 11) rfl rfl Tryd.func43 (by kernel_rfl) rfl #[.agg (cs6 X), .int .u64 ((b.natAbs : Nat) : Int)] rfl (by (try simp only [List.map_toArray, List.map_cons, List.map_nil]); first | done | rfl) ?_; (refine (htimes _).mono ?_); rintro e w1 ⟨rfl, hb⟩; refine ⟨_, rfl, ?_⟩; have n1_ := Aside0.mk (below_step (by repeat (first | (with_reducible first | exact HB.out | apply below_alloc | apply below_drew | apply pw_below_drewN | apply below_drew1) | exact HB.out)) hb); clear HB; have HB := n1_; clear n1_; clear hb)
    | ((with_reducible refine gate_callee (f := 45) rfl ?_); refine goesL_ (some 12) rfl rfl Tryd.func45 (by kernel_rfl) rfl #[.agg (cs6 Y), .int .u64 10000] rfl (by (try simp only [List.map_toArray, List.map_cons, List.map_nil]); first | done | rfl) ?_; (refine (hquo _).mono ?_); rintro e w1 ⟨rfl, hb⟩; refine ⟨_, rfl, ?_⟩; have n1_ := Aside0.mk (below_step (by repeat (first | (with_reducible first | exact HB.out | apply below_alloc | apply below_drew | apply pw_below_drewN | apply below_drew1) | exact HB.out)) hb); clear HB; have HB := n1_; clear n1_; clear hb)
    | ((with_reducible refine gate_callee (f := 30) rfl ?_); refine goesL_ (some 18) rfl rfl Tryd.func30 (by kernel_rfl) rfl #[.agg (cs6 Z), .bool sg] rfl (by (try simp only [List.map_toArray, List.map_cons, List.map_nil]); first | done | rfl) ?_; (refine (hfix _).mono ?_); rintro e w1 ⟨rfl, hb⟩; refine ⟨_, rfl, ?_⟩; have n1_ := Aside0.mk (below_step (by repeat (first | (with_reducible first | exact HB.out | apply below_alloc | apply below_drew | apply pw_below_drewN | apply below_drew1) | exact HB.out)) hb); clear HB; have HB := n1_; clear n1_; clear hb))
  go_ret2
  exact ⟨by first | rfl | (simp; done) | (simp [*]; done), (by repeat (first | (with_reducible first | exact HB.out | apply below_alloc | apply below_drew | apply pw_below_drewN | apply below_drew1) | exact HB.out))⟩
set_option maxHeartbeats 8000000 in
set_option maxRecDepth 100000 in
theorem refDiv_calls (a b : Int) (ha : -9223372036854775808 ≤ a ∧ a ≤ 9223372036854775807) (hb0 : -9223372036854775808 ≤ b ∧ b ≤ 9223372036854775807) (hne : b ≠ 0) (w : World) :
    Calls Tryd.prog 24 #[.int .i64 a, .int .i64 b] w fun e w' => e = .returned (.tuple #[.int .i64 (divS a b).1, .bool (divS a b).2]) ∧ Below w.heap.size w w' := by
  have honeA := fun w => oneL_calls a.natAbs w (by omega)
  have hXd := one_dig a.natAbs (by omega)
  have hTd := one_dig (10000) (by omega)
  have hYv := val_prod a.natAbs (10000) (by omega) (by omega)
  have hYd := times_dig (oneL a.natAbs) (oneL (10000)) hXd hTd
  have htimes := fun w => times_calls (oneL a.natAbs) (((10000 : Nat)) : Int) hXd (by omega) (by omega) w
  rw [Int.toNat_natCast] at htimes
  obtain ⟨X, hX⟩ : ∃ X, oneL a.natAbs = X := ⟨_, rfl⟩
  rw [hX] at honeA htimes hYd hYv
  obtain ⟨Y, hY⟩ : ∃ Y, tR X (oneL (10000)) 6 = Y := ⟨_, rfl⟩
  rw [hY] at htimes hYd hYv
  have hquo := fun w => quo_calls Y (((b.natAbs : Nat)) : Int) hYd.1 hYd.2 (by omega) (by omega) w
  have hZv := quo_val Y hYd.1 (b.natAbs) (by omega) (by omega)
  have hZ6 := (qS_six Y (oneL (b.natAbs)) 192).1
  rw [Int.toNat_natCast] at hquo
  obtain ⟨Z, hZ⟩ : ∃ Z, (qS Y (oneL (b.natAbs)) 192).1 = Z := ⟨_, rfl⟩
  rw [hZ] at hquo hZv hZ6
  obtain ⟨sg, hsg⟩ : ∃ s, (!(decide (a < 0) == decide (b < 0))) = s := ⟨_, rfl⟩
  have hfix := fun w => fix_calls Z sg hZ6.1 w
  have he : fixL Z sg = divS a b := by
    rw [fix_val _ _ hZ6.1, hZv, hYv, ← hsg]
    exact refDiv_eq a b hne
  rw [he] at hfix
  obtain ⟨⟨R1, R2⟩, hR⟩ : ∃ r, divS a b = r := ⟨_, rfl⟩
  rw [hR] at hfix
  rw [hR]
  dsimp only at hfix ⊢
  have HSG : Aside0 True := ⟨trivial⟩
  have HB := Aside0.mk (Below.refl w.heap.size w)
  have d0 : (b == 0) = false := beq_eq_false_iff_ne.2 hne
  have d1 : decide (b = 0) = false := decide_eq_false hne
  clear hX hY hZ hR hYv hZv he hXd hTd hYd hZ6
  go_enter Tryd.func24, Tryd.ntmps24
  go_wp2_with (first
    | ((with_reducible refine gate_callee (f := 28) rfl ?_); refine goesL_ (some 9) rfl rfl Tryd.func28 (by kernel_rfl) rfl #[.int .i64 a] rfl (by (try simp only [List.map_toArray, List.map_cons, List.map_nil]); first | done | rfl) ?_; (refine (abs_calls a ha.1 ha.2 _).mono ?_); rintro e w1 ⟨rfl, rfl⟩; refine ⟨_, rfl, ?_⟩)
    | ((with_reducible refine gate_callee (f := 27) rfl ?_); refine goesL_ (some 10) rfl rfl Tryd.func27 (by kernel_rfl) rfl #[.int .u64 ((a.natAbs : Nat) : Int)] rfl (by (try simp only [List.map_toArray, List.map_cons, List.map_nil]); first | done | rfl) ?_; (refine (honeA _).mono ?_); rintro e w1 ⟨rfl, hb⟩; refine ⟨_, rfl, ?_⟩; have n1_ := Aside0.mk (below_step (by repeat (first | (with_reducible first | exact HB.out | apply below_alloc | apply below_drew | apply pw_below_drewN | apply below_drew1) | exact HB.out)) hb); clear HB; have HB := n1_; clear n1_; clear hb)
    | ((with_reducible refine gate_callee (f := 28) rfl ?_); refine goesL_ (some 13) rfl rfl Tryd.func28 (by kernel_rfl) rfl #[.int .i64 b] rfl (by (try simp only [List.map_toArray, List.map_cons, List.map_nil]); first | done | rfl) ?_; (refine (abs_calls b hb0.1 hb0.2 _).mono ?_); rintro e w1 ⟨rfl, rfl⟩; refine ⟨_, rfl, ?_⟩)
    | ((with_reducible refine gate_callee (f := 43) rfl ?_); refine goesL_ (some 11) rfl rfl Tryd.func43 (by kernel_rfl) rfl #[.agg (cs6 X), .int .u64 10000] rfl (by (try simp only [List.map_toArray, List.map_cons, List.map_nil]); first | done | rfl) ?_; (refine (htimes _).mono ?_); rintro e w1 ⟨rfl, hb⟩; refine ⟨_, rfl, ?_⟩; have n1_ := Aside0.mk (below_step (by repeat (first | (with_reducible first | exact HB.out | apply below_alloc | apply below_drew | apply pw_below_drewN | apply below_drew1) | exact HB.out)) hb); clear HB; have HB := n1_; clear n1_; clear hb)
    | ((with_reducible refine gate_callee (f := 45) rfl ?_); refine goesL_ (some 14) rfl rfl Tryd.func45 (by kernel_rfl) rfl #[.agg (cs6 Y), .int .u64 ((b.natAbs : Nat) : Int)] rfl (by (try simp only [List.map_toArray, List.map_cons, List.map_nil]); first | done | rfl) ?_; (refine (hquo _).mono ?_); rintro e w1 ⟨rfl, hb⟩; refine ⟨_, rfl, ?_⟩; have n1_ := Aside0.mk (below_step (by repeat (first | (with_reducible first | exact HB.out | apply below_alloc | apply below_drew | apply pw_below_drewN | apply below_drew1) | exact HB.out)) hb); clear HB; have HB := n1_; clear n1_; clear hb)
    | ((with_reducible refine gate_callee (f := 30) rfl ?_); refine goesL_ (some 20) rfl rfl Tryd.func30 (by kernel_rfl) rfl #[.agg (cs6 Z), .bool sg] rfl (by (try simp only [List.map_toArray, List.map_cons, List.map_nil]); first | done | rfl) ?_; (refine (hfix _).mono ?_); rintro e w1 ⟨rfl, hb⟩; refine ⟨_, rfl, ?_⟩; have n1_ := Aside0.mk (below_step (by repeat (first | (with_reducible first | exact HB.out | apply below_alloc | apply below_drew | apply pw_below_drewN | apply below_drew1) | exact HB.out)) hb); clear HB; have HB := n1_; clear n1_; clear hb))
  go_ret2
  exact ⟨by first | rfl | (simp; done) | (simp [*]; done), (by repeat (first | (with_reducible first | exact HB.out | apply below_alloc | apply below_drew | apply pw_below_drewN | apply below_drew1) | exact HB.out))⟩
end Go.Proofs.YtkcncfikejepdaaDoor.Ext
