/- Walks of disk's laws: DiskPrefix, all arguments. -/
import Derived.Test.YtlfckoeolcnniaaDkK
namespace Go.Proofs.Ytlfckoeolcnniaa.Net
open Go.RowKit Go.Proofs.YtlfckoeolcnniaaW.PrintWords Go.Proofs.YtlfckoeolcnniaaW.PrintLast Go.Proofs.YtlfckoeolcnniaaW.PrintMore
set_option linter.unusedVariables false
set_option linter.unusedSimpArgs false
attribute [local go_sem ↓] Go.wp_at_zero Go.wp_at_succ
set_option maxHeartbeats 16000000 in
set_option maxRecDepth 100000 in
theorem dprefix_bad (o f x : Int) (w : World) (h : o < 1 ∨ 40 < o ∨ f < 1 ∨ 40 < f ∨ x < 0) : Calls Try.prog 11 #[.int .i64 o, .int .i64 f, .int .i64 x] w fun e w' => e = .returned (.bool true) ∧ Below w.heap.size w w' := by
  go_enter Try.func11, Try.ntmps11
  by_cases c0 : o < 1
  · have q0 : decide (o < 1) = true := decide_eq_true c0
    go_wp2_with (first
      | ((with_reducible refine gate_callee (f := 30) rfl ?_); refine goesL_ (some 15) rfl rfl Try.func30 (by kernel_rfl) rfl #[] rfl (by (try simp only [List.map_toArray, List.map_cons, List.map_nil]); first | done | rfl) ?_; (refine (dbegun_calls w).mono ?_); rintro e w1 ⟨rfl, hb⟩; refine ⟨_, rfl, ?_⟩; have B1 := Aside0.mk hb; clear hb))
    go_ret
    exact ⟨rfl, B1.out⟩
  have q0 : decide (o < 1) = false := decide_eq_false c0
  by_cases c1 : 40 < o
  · have q1 : decide (40 < o) = true := decide_eq_true c1
    go_wp2_with (first
      | ((with_reducible refine gate_callee (f := 30) rfl ?_); refine goesL_ (some 15) rfl rfl Try.func30 (by kernel_rfl) rfl #[] rfl (by (try simp only [List.map_toArray, List.map_cons, List.map_nil]); first | done | rfl) ?_; (refine (dbegun_calls w).mono ?_); rintro e w1 ⟨rfl, hb⟩; refine ⟨_, rfl, ?_⟩; have B1 := Aside0.mk hb; clear hb))
    go_ret
    exact ⟨rfl, B1.out⟩
  have q1 : decide (40 < o) = false := decide_eq_false c1
  by_cases c2 : f < 1
  · have q2 : decide (f < 1) = true := decide_eq_true c2
    go_wp2_with (first
      | ((with_reducible refine gate_callee (f := 30) rfl ?_); refine goesL_ (some 15) rfl rfl Try.func30 (by kernel_rfl) rfl #[] rfl (by (try simp only [List.map_toArray, List.map_cons, List.map_nil]); first | done | rfl) ?_; (refine (dbegun_calls w).mono ?_); rintro e w1 ⟨rfl, hb⟩; refine ⟨_, rfl, ?_⟩; have B1 := Aside0.mk hb; clear hb))
    go_ret
    exact ⟨rfl, B1.out⟩
  have q2 : decide (f < 1) = false := decide_eq_false c2
  by_cases c3 : 40 < f
  · have q3 : decide (40 < f) = true := decide_eq_true c3
    go_wp2_with (first
      | ((with_reducible refine gate_callee (f := 30) rfl ?_); refine goesL_ (some 15) rfl rfl Try.func30 (by kernel_rfl) rfl #[] rfl (by (try simp only [List.map_toArray, List.map_cons, List.map_nil]); first | done | rfl) ?_; (refine (dbegun_calls w).mono ?_); rintro e w1 ⟨rfl, hb⟩; refine ⟨_, rfl, ?_⟩; have B1 := Aside0.mk hb; clear hb))
    go_ret
    exact ⟨rfl, B1.out⟩
  have q3 : decide (40 < f) = false := decide_eq_false c3
  have q4 : decide (x < 0) = true := decide_eq_true (by omega)
  go_wp2_with (first
    | ((with_reducible refine gate_callee (f := 30) rfl ?_); refine goesL_ (some 15) rfl rfl Try.func30 (by kernel_rfl) rfl #[] rfl (by (try simp only [List.map_toArray, List.map_cons, List.map_nil]); first | done | rfl) ?_; (refine (dbegun_calls w).mono ?_); rintro e w1 ⟨rfl, hb⟩; refine ⟨_, rfl, ?_⟩; have B1 := Aside0.mk hb; clear hb))
  go_ret
  exact ⟨rfl, B1.out⟩
theorem wf_i64d {x : Int} (h : (Lit.int .i64 x).wf = true) : -9223372036854775808 ≤ x ∧ x ≤ 9223372036854775807 := by
  simp [Lit.wf, IntKind.min, IntKind.max, IntKind.bits, IntKind.signed] at h
  omega
theorem dprefix_calls (o f x : Int) (w : World) (h0 : (Lit.int .i64 o).wf = true) (h1 : (Lit.int .i64 f).wf = true) (h2 : (Lit.int .i64 x).wf = true) : Calls Try.prog 11 #[.int .i64 o, .int .i64 f, .int .i64 x] w fun e w' => e = .returned (.bool true) ∧ Below w.heap.size w w' := by
  by_cases c : o < 1 ∨ 40 < o ∨ f < 1 ∨ 40 < f ∨ x < 0
  · exact dprefix_bad o f x w c
  · have hx := wf_i64d h2
    have h := dprefix_main w o.toNat f.toNat x.toNat (by omega) (by omega) (by omega) (by omega) (by omega)
    rw [show ((o.toNat : Nat) : Int) = o by omega, show ((f.toNat : Nat) : Int) = f by omega, show ((x.toNat : Nat) : Int) = x by omega] at h
    exact h
end Go.Proofs.Ytlfckoeolcnniaa.Net
