/- The reference's Add and Sub: the sum, the difference, where it is an int64. Conditions: int64s. -/
import Derived.Test.YtkcncfikejepdaaDoorFixS
import Derived.WalkKit
namespace Go.Proofs.YtkcncfikejepdaaDoor.Ext
open Go.RowKit Go.Proofs.YtkcncfikejepdaaDoorW.PrintWords Go.Proofs.YtkcncfikejepdaaDoorW.PrintLast Go.Proofs.YtkcncfikejepdaaDoorW.PrintMore Go.Proofs.YtkcncfikejepdaaDoor.EFix
attribute [local go_sem] max2_int min2_int max_two min_two max_three min_three max_four min_four
set_option linter.unusedVariables false
set_option linter.unusedSimpArgs false
theorem sum_two (a b : Int) (ha : -9223372036854775808 ≤ a ∧ a ≤ 9223372036854775807) (hb : -9223372036854775808 ≤ b ∧ b ≤ 9223372036854775807) (w : World) :
    Calls Tryd.prog 11 #[.slice (some ⟨w.heap.size, 0, none⟩) 2 2] (w.alloc (.cells #[.int .i64 a, .int .i64 b] 24)) fun e w' => e = .returned (.tuple #[.int .i64 (sumS (a + b)).1, .bool (sumS (a + b)).2]) ∧ Below w.heap.size w w' := by
  have hw : ∀ x, x ∈ [a, b] → -9223372036854775808 ≤ x ∧ x ≤ 9223372036854775807 := by
    intro x hx
    simp only [List.mem_cons, List.not_mem_nil, or_false] at hx
    rcases hx with rfl | rfl
    · exact ha
    · exact hb
  have ho : (w.alloc (.cells #[.int .i64 a, .int .i64 b] 24)).ownsRow w.heap.size 24 1 (.slice (some ⟨w.heap.size, 0, none⟩) 2 2) 2 (nums .i64 [a, b]) := World.ownsRow_lit (base := w.heap.size) (e := 24) (size := 1) w #[.int .i64 a, .int .i64 b] 2 (Nat.le_refl _) (by decide) rfl
  have hr := own_reads' ho
  have hC : Kd.C (Kd.int .i64) (w.alloc (.cells #[.int .i64 a, .int .i64 b] 24)) (some ⟨w.heap.size, 0, none⟩) [a, b].length [a, b] := Kd.C_of_reads (d := (0 : Int)) (ReadsOf_of_int hr)
  have hs : counterpaneref1_Sum.f [a, b] = some ((sumS (a + b)).1, (sumS (a + b)).2) := by
    unfold counterpaneref1_Sum.f
    rw [if_pos ⟨by simp, hw⟩, endW_sum [a, b] (by simp) hw]
    simp
  refine (counterpaneref1_Sum.calls (some ⟨w.heap.size, 0, none⟩) 2 [a, b] _ _ _ hC (by simp) hs).mono ?_
  rintro e w' ⟨h1, h2⟩
  exact ⟨h1, below_step (below_alloc (Below.refl _ _) _) h2⟩
set_option maxHeartbeats 4000000 in
set_option maxRecDepth 100000 in
theorem refAdd_calls (a b : Int) (ha : -9223372036854775808 ≤ a ∧ a ≤ 9223372036854775807) (hb : -9223372036854775808 ≤ b ∧ b ≤ 9223372036854775807) (w : World) :
    Calls Tryd.prog 20 #[.int .i64 a, .int .i64 b] w fun e w' => e = .returned (.tuple #[.int .i64 (sumS (a + b)).1, .bool (sumS (a + b)).2]) ∧ Below w.heap.size w w' := by
  have hsum := sum_two a b ha hb w
  obtain ⟨⟨R1, R2⟩, hR⟩ : ∃ r, sumS (a + b) = r := ⟨_, rfl⟩
  rw [hR] at hsum ⊢
  dsimp only at hsum ⊢
  clear hR ha hb
  go_enter Tryd.func20, Tryd.ntmps20
  go_wp2_with (first | ((with_reducible refine gate_callee (f := 11) rfl ?_); refine goesL_ (some 9) rfl rfl Tryd.func11 (by kernel_rfl) rfl #[.slice (some ⟨w.heap.size, 0, none⟩) 2 2] rfl (by (try simp only [List.map_toArray, List.map_cons, List.map_nil]); first | done | rfl) ?_; (refine (hsum).mono ?_); rintro e w1 ⟨rfl, hb⟩; refine ⟨_, rfl, ?_⟩; have HB := Aside0.mk hb; clear hb))
  go_ret2
  exact ⟨by first | rfl | (simp; done), HB.out⟩
set_option maxHeartbeats 4000000 in
set_option maxRecDepth 100000 in
theorem refSub_calls (a b : Int) (ha : -9223372036854775808 ≤ a ∧ a ≤ 9223372036854775807) (hb : -9223372036854775808 ≤ b ∧ b ≤ 9223372036854775807) (w : World) :
    Calls Tryd.prog 22 #[.int .i64 a, .int .i64 b] w fun e w' => e = .returned (.tuple #[.int .i64 (sumS (a - b)).1, .bool (sumS (a - b)).2]) ∧ Below w.heap.size w w' := by
  by_cases c : b = -9223372036854775808
  · subst c
    have h1 := refAdd_calls a 9223372036854775807 ha (by omega) w
    by_cases c1 : a ≤ 0
    · have e1 : sumS (a + 9223372036854775807) = (a + 9223372036854775807, true) := by unfold sumS; rw [if_pos (by omega)]
      rw [e1] at h1
      have h2 := fun w => refAdd_calls (a + 9223372036854775807) 1 (by omega) (by omega) w
      rw [show a + 9223372036854775807 + 1 = a - -9223372036854775808 by omega] at h2
      obtain ⟨⟨R1, R2⟩, hR⟩ : ∃ r, sumS (a - -9223372036854775808) = r := ⟨_, rfl⟩
      rw [hR] at h2 ⊢
      dsimp only at h1 h2 ⊢
      clear hR e1 c1 ha hb
      go_enter Tryd.func22, Tryd.ntmps22
      go_wp2_with (first
        | ((with_reducible refine gate_callee (f := 20) rfl ?_); refine goesL_ (some 12) rfl rfl Tryd.func20 (by kernel_rfl) rfl #[.int .i64 a, .int .i64 9223372036854775807] rfl (by (try simp only [List.map_toArray, List.map_cons, List.map_nil]); first | done | rfl) ?_; (refine (h1).mono ?_); rintro e w1 ⟨rfl, hb⟩; refine ⟨_, rfl, ?_⟩; have HB := Aside0.mk hb; clear hb)
        | ((with_reducible refine gate_callee (f := 20) rfl ?_); refine goesL_ (some 18) rfl rfl Tryd.func20 (by kernel_rfl) rfl #[.int .i64 (a + 9223372036854775807), .int .i64 1] rfl (by (try simp only [List.map_toArray, List.map_cons, List.map_nil]); first | done | rfl) ?_; (refine (h2 _).mono ?_); rintro e w2 ⟨rfl, hb⟩; refine ⟨_, rfl, ?_⟩; have n1_ := Aside0.mk (below_step (by repeat (first | (with_reducible first | exact HB.out | apply below_alloc | apply below_drew | apply pw_below_drewN | apply below_drew1) | exact HB.out)) hb); clear HB; have HB := n1_; clear n1_; clear hb))
      go_ret2
      exact ⟨by first | rfl | (simp; done), HB.out⟩
    · have e1 : sumS (a + 9223372036854775807) = (0, false) := by unfold sumS; rw [if_neg (by omega)]
      have e2 : sumS (a - -9223372036854775808) = (0, false) := by unfold sumS; rw [if_neg (by omega)]
      rw [e1] at h1
      rw [e2]
      dsimp only at h1 ⊢
      clear e1 e2 c1 ha hb
      go_enter Tryd.func22, Tryd.ntmps22
      go_wp2_with (first
        | ((with_reducible refine gate_callee (f := 20) rfl ?_); refine goesL_ (some 12) rfl rfl Tryd.func20 (by kernel_rfl) rfl #[.int .i64 a, .int .i64 9223372036854775807] rfl (by (try simp only [List.map_toArray, List.map_cons, List.map_nil]); first | done | rfl) ?_; (refine (h1).mono ?_); rintro e w1 ⟨rfl, hb⟩; refine ⟨_, rfl, ?_⟩; have HB := Aside0.mk hb; clear hb))
      go_ret2
      exact ⟨by first | rfl | (simp; done), HB.out⟩
  · have h1 := refAdd_calls a (-b) ha (by omega) w
    rw [show a + -b = a - b by omega] at h1
    have d0 : (b == -9223372036854775808) = false := beq_eq_false_iff_ne.2 c
    have d1 : decide (b = -9223372036854775808) = false := decide_eq_false c
    have d2 : wrap64 (-b) = -b := wr _ (by omega) (by omega)
    have d3 : IntKind.i64.wrap (-b) = -b := by rw [IntKind.wrap_i64]; omega
    obtain ⟨⟨R1, R2⟩, hR⟩ : ∃ r, sumS (a - b) = r := ⟨_, rfl⟩
    rw [hR] at h1 ⊢
    dsimp only at h1 ⊢
    clear hR ha hb
    go_enter Tryd.func22, Tryd.ntmps22
    go_wp2_with (first
      | ((with_reducible refine gate_callee (f := 20) rfl ?_); refine goesL_ (some 24) rfl rfl Tryd.func20 (by kernel_rfl) rfl #[.int .i64 a, .int .i64 (-b)] rfl (by (try simp only [List.map_toArray, List.map_cons, List.map_nil]); first | done | rfl) ?_; (refine (h1).mono ?_); rintro e w1 ⟨rfl, hb⟩; refine ⟨_, rfl, ?_⟩; have HB := Aside0.mk hb; clear hb))
    go_ret2
    exact ⟨by first | rfl | (simp; done), HB.out⟩
end Go.Proofs.YtkcncfikejepdaaDoor.Ext
