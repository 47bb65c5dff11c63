/- The law FixSums: whatever the two numbers, it returns true. Condition: int64s; the listed variables read as laid. -/
import Derived.Test.YtkcncfikejepdaaDoorFixR
import Derived.Test.YtkcncfikejepdaaDoorDvC
import Derived.Test.YtkcncfikejepdaaDoorRa
import Derived.WalkKit
namespace Go.Proofs.YtkcncfikejepdaaDoor.EFix
open Go.RowKit Go.Lib Go.Proofs.YtkcncfikejepdaaDoorW.PrintWords Go.Proofs.YtkcncfikejepdaaDoor.Ext
theorem add_f (a b : Int) (ha : -9223372036854775808 ≤ a ∧ a ≤ 9223372036854775807) (hb : -9223372036854775808 ≤ b ∧ b ≤ 9223372036854775807) : fixnum_Add.f 50 a b = some (sumS (a + b)) := by
  unfold fixnum_Add.f
  rw [sum_f [a, b] (by simp) (by
    intro x hx
    simp only [List.mem_cons, List.not_mem_nil, or_false] at hx
    rcases hx with rfl | rfl
    · exact ha
    · exact hb) 50 (by simp), Option.bind_some]
  simp
theorem sub_f (a b : Int) (ha : -9223372036854775808 ≤ a ∧ a ≤ 9223372036854775807) (hb : -9223372036854775808 ≤ b ∧ b ≤ 9223372036854775807) : fixnum_Sub.f a b = some (sumS (a - b)) := by
  unfold fixnum_Sub.f sumS
  by_cases c : -9223372036854775808 ≤ a - b ∧ a - b ≤ 9223372036854775807
  · rw [if_pos c, wr (a - b) c.1 c.2]
    by_cases h : b = 0
    · subst h
      have e1 : decide ((0 : Int) > 0) = false := by decide
      have e2 : decide (a - 0 < a) = false := decide_eq_false (by omega)
      rw [e1, e2, if_neg (by decide)]
    · have e : decide (b > 0) = decide (a - b < a) := by
        by_cases h2 : b > 0
        · rw [decide_eq_true h2, decide_eq_true (by omega)]
        · rw [decide_eq_false h2, decide_eq_false (by omega)]
      rw [e, if_neg (by simp)]
  · rw [if_neg c]
    have hb0 : b ≠ 0 := by omega
    have hw : wrap64 (a - b) = if a - b < -9223372036854775808 then a - b + 18446744073709551616 else a - b - 18446744073709551616 := by
      unfold wrap64
      split <;> omega
    have e : (decide (b > 0) != decide (wrap64 (a - b) < a)) = true := by
      rw [hw]
      by_cases h2 : a - b < -9223372036854775808
      · rw [if_pos h2, decide_eq_true (show b > 0 by omega), decide_eq_false (by omega)]
        rfl
      · rw [if_neg h2, decide_eq_false (show ¬ b > 0 by omega), decide_eq_true (by omega)]
        rfl
    rw [if_pos e, if_neg hb0]
end Go.Proofs.YtkcncfikejepdaaDoor.EFix
namespace Go.Proofs.YtkcncfikejepdaaDoor.Ext
open Go.RowKit Go.Lib Go.Proofs.YtkcncfikejepdaaDoorW.PrintWords Go.Proofs.YtkcncfikejepdaaDoorW.PrintLast Go.Proofs.YtkcncfikejepdaaDoorW.PrintMore Go.Proofs.YtkcncfikejepdaaDoor.EFix
attribute [local go_sem] max2_int min2_int max_two min_two max_three min_three max_four min_four
set_option linter.unusedVariables false
set_option linter.unusedSimpArgs false
set_option maxHeartbeats 8000000 in
set_option maxRecDepth 100000 in
theorem fixSums_in (a b : Int) (ha : -9223372036854775808 ≤ a ∧ a ≤ 9223372036854775807) (hb0 : -9223372036854775808 ≤ b ∧ b ≤ 9223372036854775807) (w : World) (hL : Aside0 (Lq w)) :
    Calls Tryd.prog 7 #[.int .i64 a, .int .i64 b] w fun e w' => e = .returned (.bool true) ∧ Below w.heap.size w w' := by
  have FA := add_f a b ha hb0
  have RA := fun w => refAdd_calls a b ha hb0 w
  have FS := sub_f a b ha hb0
  have RS := fun w => refSub_calls a b ha hb0 w
  have FM := mul_f a b ha.1 ha.2 hb0.1 hb0.2
  have RM := fun w => refMul_calls a b ha hb0 w
  have FD := fun w => div_calls a b ha hb0 w
  have RD := fun w => refDiv_all a b ha hb0 w
  obtain ⟨⟨S1, S2⟩, hS⟩ : ∃ q, sumS (a + b) = q := ⟨_, rfl⟩
  obtain ⟨⟨T1, T2⟩, hT⟩ : ∃ q, sumS (a - b) = q := ⟨_, rfl⟩
  obtain ⟨⟨M1, M2⟩, hM⟩ : ∃ q, mulS a b = q := ⟨_, rfl⟩
  obtain ⟨⟨D1, D2⟩, hD⟩ : ∃ q, divS a b = q := ⟨_, rfl⟩
  rw [hS] at FA
  simp only [hS] at RA
  rw [hT] at FS
  simp only [hT] at RS
  rw [hM] at FM
  simp only [hM] at RM
  simp only [hD] at FD RD
  clear hS hT hM hD
  replace FA := Aside0.mk FA
  replace RA := Aside0.mk RA
  replace FS := Aside0.mk FS
  replace RS := Aside0.mk RS
  replace FM := Aside0.mk FM
  replace RM := Aside0.mk RM
  replace FD := Aside0.mk FD
  replace RD := Aside0.mk RD
  have x1 : (S1 == S1) = true := beq_self_eq_true S1
  have x2 : (S2 == S2) = true := beq_self_eq_true S2
  have x3 : (T1 == T1) = true := beq_self_eq_true T1
  have x4 : (T2 == T2) = true := beq_self_eq_true T2
  have x5 : (M1 == M1) = true := beq_self_eq_true M1
  have x6 : (M2 == M2) = true := beq_self_eq_true M2
  have x7 : (D1 == D1) = true := beq_self_eq_true D1
  have x8 : (D2 == D2) = true := beq_self_eq_true D2
  have HB := Aside0.mk (Below.refl w.heap.size w)
  go_enter Tryd.func7, Tryd.ntmps7
  go_wp2_with (first
    | ((with_reducible refine gate_callee (f := 9) rfl ?_); refine goesL_ (some 22) rfl rfl Tryd.func9 (by kernel_rfl) rfl #[] rfl (by (try simp only [List.map_toArray, List.map_cons, List.map_nil]); first | done | rfl) ?_; (refine (EFix.counterpanelaw1_begun.calls (hL := ⟨hL.out.below (by repeat (first | (with_reducible first | exact HB.out | apply below_alloc | apply below_drew | apply pw_below_drewN | apply below_drew1) | exact HB.out))⟩) 300 true _ (begun_f 300 (by decide))).mono ?_); rintro e w1 ⟨rfl, hb⟩; refine ⟨_, rfl, ?_⟩; have n1_ := Aside0.mk (below_step (by repeat (first | (with_reducible first | exact HB.out | apply below_alloc | apply below_drew | apply pw_below_drewN | apply below_drew1) | exact HB.out)) hb); clear HB; have HB := n1_; clear n1_; clear hb)
    | ((with_reducible refine gate_callee (f := 19) rfl ?_); refine goesL_ (some 28) rfl rfl Tryd.func19 (by kernel_rfl) rfl #[.int .i64 a, .int .i64 b] rfl (by (try simp only [List.map_toArray, List.map_cons, List.map_nil]); first | done | rfl) ?_; (refine (fixnum_Add.calls 50 a b S1 S2 _ FA.out).mono ?_); rintro e w1 ⟨rfl, hb⟩; refine ⟨_, rfl, ?_⟩; have n1_ := Aside0.mk (below_step (by repeat (first | (with_reducible first | exact HB.out | apply below_alloc | apply below_drew | apply pw_below_drewN | apply below_drew1) | exact HB.out)) hb); clear HB; have HB := n1_; clear n1_; clear hb)
    | ((with_reducible refine gate_callee (f := 20) rfl ?_); refine goesL_ (some 34) rfl rfl Tryd.func20 (by kernel_rfl) rfl #[.int .i64 a, .int .i64 b] rfl (by (try simp only [List.map_toArray, List.map_cons, List.map_nil]); first | done | rfl) ?_; (refine (RA.out _).mono ?_); rintro e w1 ⟨rfl, hb⟩; refine ⟨_, rfl, ?_⟩; have n1_ := Aside0.mk (below_step (by repeat (first | (with_reducible first | exact HB.out | apply below_alloc | apply below_drew | apply pw_below_drewN | apply below_drew1) | exact HB.out)) hb); clear HB; have HB := n1_; clear n1_; clear hb)
    | ((with_reducible refine gate_callee (f := 21) rfl ?_); refine goesL_ (some 40) rfl rfl Tryd.func21 (by kernel_rfl) rfl #[.int .i64 a, .int .i64 b] rfl (by (try simp only [List.map_toArray, List.map_cons, List.map_nil]); first | done | rfl) ?_; (refine (fixnum_Sub.calls a b T1 T2 _ FS.out).mono ?_); rintro e w1 ⟨rfl, ⟨nd, rfl⟩⟩; refine ⟨_, rfl, ?_⟩)
    | ((with_reducible refine gate_callee (f := 22) rfl ?_); refine goesL_ (some 46) rfl rfl Tryd.func22 (by kernel_rfl) rfl #[.int .i64 a, .int .i64 b] rfl (by (try simp only [List.map_toArray, List.map_cons, List.map_nil]); first | done | rfl) ?_; (refine (RS.out _).mono ?_); rintro e w1 ⟨rfl, hb⟩; refine ⟨_, rfl, ?_⟩; have n1_ := Aside0.mk (below_step (by repeat (first | (with_reducible first | exact HB.out | apply below_alloc | apply below_drew | apply pw_below_drewN | apply below_drew1) | exact HB.out)) hb); clear HB; have HB := n1_; clear n1_; clear hb)
    | ((with_reducible refine gate_callee (f := 13) rfl ?_); refine goesL_ (some 52) rfl rfl Tryd.func13 (by kernel_rfl) rfl #[.int .i64 a, .int .i64 b] rfl (by (try simp only [List.map_toArray, List.map_cons, List.map_nil]); first | done | rfl) ?_; (refine (fixnum_Mul.calls a b M1 M2 _ FM.out).mono ?_); rintro e w1 ⟨rfl, ⟨nd, rfl⟩⟩; refine ⟨_, rfl, ?_⟩)
    | ((with_reducible refine gate_callee (f := 23) rfl ?_); refine goesL_ (some 58) rfl rfl Tryd.func23 (by kernel_rfl) rfl #[.int .i64 a, .int .i64 b] rfl (by (try simp only [List.map_toArray, List.map_cons, List.map_nil]); first | done | rfl) ?_; (refine (RM.out _).mono ?_); rintro e w1 ⟨rfl, hb⟩; refine ⟨_, rfl, ?_⟩; have n1_ := Aside0.mk (below_step (by repeat (first | (with_reducible first | exact HB.out | apply below_alloc | apply below_drew | apply pw_below_drewN | apply below_drew1) | exact HB.out)) hb); clear HB; have HB := n1_; clear n1_; clear hb)
    | ((with_reducible refine gate_callee (f := 12) rfl ?_); refine goesL_ (some 64) rfl rfl Tryd.func12 (by kernel_rfl) rfl #[.int .i64 a, .int .i64 b] rfl (by (try simp only [List.map_toArray, List.map_cons, List.map_nil]); first | done | rfl) ?_; (refine (FD.out _).mono ?_); rintro e w1 ⟨rfl, ⟨nd, rfl⟩⟩; refine ⟨_, rfl, ?_⟩)
    | ((with_reducible refine gate_callee (f := 24) rfl ?_); refine goesL_ (some 70) rfl rfl Tryd.func24 (by kernel_rfl) rfl #[.int .i64 a, .int .i64 b] rfl (by (try simp only [List.map_toArray, List.map_cons, List.map_nil]); first | done | rfl) ?_; (refine (RD.out _).mono ?_); rintro e w1 ⟨rfl, hb⟩; refine ⟨_, rfl, ?_⟩; have n1_ := Aside0.mk (below_step (by repeat (first | (with_reducible first | exact HB.out | apply below_alloc | apply below_drew | apply pw_below_drewN | apply below_drew1) | exact HB.out)) hb); clear HB; have HB := n1_; clear n1_; clear hb))
  go_ret
  exact ⟨by first | rfl | (simp; done) | (simp [*]; done), (by repeat (first | (with_reducible first | exact HB.out | apply below_alloc | apply below_drew | apply pw_below_drewN | apply below_drew1) | exact HB.out))⟩
theorem fixSums_walk (a b : Int) (ha : (Lit.int .i64 a).wf = true) (hb : (Lit.int .i64 b).wf = true) (w : World) (hL : Aside0 (Lq w)) :
    Calls Tryd.prog 7 #[.int .i64 a, .int .i64 b] w fun e w' => e = .returned (.bool true) ∧ Below w.heap.size w w' :=
  fixSums_in a b (nat_wf ha) (nat_wf hb) w hL
end Go.Proofs.YtkcncfikejepdaaDoor.Ext
