/- Walks of disk's laws: DiskNone. -/
import Derived.Test.YtlfckoeolcnniaaDkH
namespace Go.Proofs.Ytlfckoeolcnniaa.Net
open Go.RowKit Go.Proofs.YtlfckoeolcnniaaW.PrintWords Go.Proofs.YtlfckoeolcnniaaW.PrintLast Go.Proofs.YtlfckoeolcnniaaW.PrintMore
set_option linter.unusedVariables false
set_option linter.unusedSimpArgs false
attribute [local go_sem ↓] Go.wp_at_zero Go.wp_at_succ
theorem rdB_one (w : World) : RdB (w.alloc (.cells #[.int .u8 1] 5)) (.slice (some ⟨w.heap.size, 0, none⟩) 1 1) [1] := rdB_lit w [1] (0, 0)
set_option maxHeartbeats 8000000 in
set_option maxRecDepth 100000 in
theorem dnone_calls (w : World) : Calls Try.prog 10 #[] w fun e w' => e = .returned (.bool true) ∧ Below w.heap.size w w' := by
  have HB := Aside0.mk (Below.refl w.heap.size w)
  go_enter Try.func10, Try.ntmps10
  go_wp2_with (first
    | ((with_reducible refine gate_callee (f := 26) rfl ?_); refine goesL_ (some 6) rfl rfl Try.func26 (by kernel_rfl) rfl #[.pointer none, .string ⟨#[97]⟩, .slice (some ⟨w.heap.size, 0, none⟩) 1 1] rfl (by (try simp only [List.map_toArray, List.map_cons, List.map_nil]); first | done | rfl) ?_; (refine (append_nil _ ⟨#[97]⟩ _ [1] (rdB_one w) (by decide)).mono ?_); rintro e w1 ⟨rfl, hb⟩; refine ⟨_, rfl, ?_⟩; have B1 := Aside0.mk (below_step (below_alloc HB.out _) hb); clear hb)
    | ((with_reducible refine gate_callee (f := 27) rfl ?_); refine goesL_ (some 8) rfl rfl Try.func27 (by kernel_rfl) rfl #[.pointer none, .string ⟨#[97]⟩] rfl (by (try simp only [List.map_toArray, List.map_cons, List.map_nil]); first | done | rfl) ?_; (refine (create_nil w1 ⟨#[97]⟩).mono ?_); rintro e w2 ⟨rfl, hb⟩; refine ⟨_, rfl, ?_⟩; have B2 := Aside0.mk (below_step B1.out hb); clear hb)
    | ((with_reducible refine gate_callee (f := 28) rfl ?_); refine goesL_ (some 10) rfl rfl Try.func28 (by kernel_rfl) rfl #[.pointer none] rfl (by (try simp only [List.map_toArray, List.map_cons, List.map_nil]); first | done | rfl) ?_; (refine (sync_nil w2).mono ?_); rintro e w3 ⟨rfl, hw⟩; rw [hw]; clear hw w3; refine ⟨_, rfl, ?_⟩)
    | ((with_reducible refine gate_callee (f := 29) rfl ?_); refine goesL_ (some 13) rfl rfl Try.func29 (by kernel_rfl) rfl #[.pointer none, .string ⟨#[97]⟩] rfl (by (try simp only [List.map_toArray, List.map_cons, List.map_nil]); first | done | rfl) ?_; (refine (read_nil w2 ⟨#[97]⟩).mono ?_); rintro e w3 ⟨rfl, hw⟩; rw [hw]; clear hw w3; refine ⟨_, rfl, ?_⟩)
    | ((with_reducible refine gate_callee (f := 30) rfl ?_); refine goesL_ (some 16) rfl rfl Try.func30 (by kernel_rfl) rfl #[] rfl (by (try simp only [List.map_toArray, List.map_cons, List.map_nil]); first | done | rfl) ?_; (refine (dbegun_calls w2).mono ?_); rintro e w3 ⟨rfl, hb⟩; refine ⟨_, rfl, ?_⟩; have B3 := Aside0.mk (below_step B2.out hb); clear hb)
    | ((with_reducible refine gate_callee (f := 31) rfl ?_); (try (refine gate_guard (by rfl) ?_; dsimp only)); refine goesL_ (some 23) rfl rfl Try.func31 (by kernel_rfl) rfl #[.pointer none] rfl (by (try simp only [List.map_toArray, List.map_cons, List.map_nil]); first | done | rfl) ?_; (refine (units_nil w3).mono ?_); rintro e w4 ⟨rfl, hw⟩; rw [hw]; clear hw w4; refine ⟨_, rfl, ?_⟩)
    | ((with_reducible refine gate_callee (f := 32) rfl ?_); (try (refine gate_guard (by rfl) ?_; dsimp only)); refine goesL_ (some 28) rfl rfl Try.func32 (by kernel_rfl) rfl #[.pointer none, .int .i64 1] rfl (by (try simp only [List.map_toArray, List.map_cons, List.map_nil]); first | done | rfl) ?_; (refine (cut_nil w3 1).mono ?_); rintro e w4 ⟨rfl, hw⟩; rw [hw]; clear hw w4; refine ⟨_, rfl, ?_⟩))
  all_goals go_ret
  exact ⟨rfl, B3.out⟩
end Go.Proofs.Ytlfckoeolcnniaa.Net
