/- Part 6 of what the claim's proof stands on: contracts of the program's functions, by walks, and plain laws. -/
import Derived.Test.YtfnbflhoaemmeaaGreatDoorZw5
import Derived.Deep.QuietTactic
import Derived.WalkKit
section
namespace Go.Proofs.YtfnbflhoaemmeaaGreatDoor.EBui
open Go.RowKit Go.Lib Go.Proofs.YtfnbflhoaemmeaaGreatDoorW.PrintWords Go.Proofs.YtfnbflhoaemmeaaGreatDoorW.PrintLast Go.Proofs.YtfnbflhoaemmeaaGreatDoorW.PrintMore Go.Proofs.YtfnbflhoaemmeaaGreatDoor.Ext Go.Proofs.YtfnbflhoaemmeaaGreatDoor.EFxA Go.Proofs.YtfnbflhoaemmeaaGreatDoor.EFix Go.Proofs.YtfnbflhoaemmeaaGreatDoor.EVal
attribute [local go_sem] max2_int min2_int max_two min_two max_three min_three max_four min_four
set_option linter.unusedVariables false
set_option linter.unusedSimpArgs false
set_option maxHeartbeats 8000000 in
set_option maxRecDepth 100000 in
theorem arity_SUM (w : World) :
    Calls Tryz.prog 53 #[.string (⟨#[83, 85, 77]⟩ : ByteArray)] w fun e w' => e = .returned (.tuple #[.int .i64 0, .int .i64 810000, .bool true]) ∧ Drawn0 w w' := by
  have hu24 := Tryz.underlying24
  have HB := Aside0.mk (Below.refl w.heap.size w)
  go_enter Tryz.func53, Tryz.ntmps53
  go_wp2
  go_ret3
  exact ⟨by first | rfl | (simp; done) | (simp [*]; done), by repeat (first | exact Drawn0.refl _ | apply Drawn0.step)⟩
set_option maxHeartbeats 8000000 in
set_option maxRecDepth 100000 in
theorem arity_MIN (w : World) :
    Calls Tryz.prog 53 #[.string (⟨#[77, 73, 78]⟩ : ByteArray)] w fun e w' => e = .returned (.tuple #[.int .i64 0, .int .i64 810000, .bool true]) ∧ Drawn0 w w' := by
  have hu24 := Tryz.underlying24
  have HB := Aside0.mk (Below.refl w.heap.size w)
  go_enter Tryz.func53, Tryz.ntmps53
  go_wp2
  go_ret3
  exact ⟨by first | rfl | (simp; done) | (simp [*]; done), by repeat (first | exact Drawn0.refl _ | apply Drawn0.step)⟩
set_option maxHeartbeats 8000000 in
set_option maxRecDepth 100000 in
theorem arity_MAX (w : World) :
    Calls Tryz.prog 53 #[.string (⟨#[77, 65, 88]⟩ : ByteArray)] w fun e w' => e = .returned (.tuple #[.int .i64 0, .int .i64 810000, .bool true]) ∧ Drawn0 w w' := by
  have hu24 := Tryz.underlying24
  have HB := Aside0.mk (Below.refl w.heap.size w)
  go_enter Tryz.func53, Tryz.ntmps53
  go_wp2
  go_ret3
  exact ⟨by first | rfl | (simp; done) | (simp [*]; done), by repeat (first | exact Drawn0.refl _ | apply Drawn0.step)⟩
set_option maxHeartbeats 8000000 in
set_option maxRecDepth 100000 in
theorem arity_COUNT (w : World) :
    Calls Tryz.prog 53 #[.string (⟨#[67, 79, 85, 78, 84]⟩ : ByteArray)] w fun e w' => e = .returned (.tuple #[.int .i64 0, .int .i64 810000, .bool true]) ∧ Drawn0 w w' := by
  have hu24 := Tryz.underlying24
  have HB := Aside0.mk (Below.refl w.heap.size w)
  go_enter Tryz.func53, Tryz.ntmps53
  go_wp2
  go_ret3
  exact ⟨by first | rfl | (simp; done) | (simp [*]; done), by repeat (first | exact Drawn0.refl _ | apply Drawn0.step)⟩
set_option maxHeartbeats 8000000 in
set_option maxRecDepth 100000 in
theorem arity_AVERAGE (w : World) :
    Calls Tryz.prog 53 #[.string (⟨#[65, 86, 69, 82, 65, 71, 69]⟩ : ByteArray)] w fun e w' => e = .returned (.tuple #[.int .i64 0, .int .i64 810000, .bool true]) ∧ Drawn0 w w' := by
  have hu24 := Tryz.underlying24
  have HB := Aside0.mk (Below.refl w.heap.size w)
  go_enter Tryz.func53, Tryz.ntmps53
  go_wp2
  go_ret3
  exact ⟨by first | rfl | (simp; done) | (simp [*]; done), by repeat (first | exact Drawn0.refl _ | apply Drawn0.step)⟩
set_option maxHeartbeats 8000000 in
set_option maxRecDepth 100000 in
theorem arity_IF (w : World) :
    Calls Tryz.prog 53 #[.string (⟨#[73, 70]⟩ : ByteArray)] w fun e w' => e = .returned (.tuple #[.int .i64 2, .int .i64 3, .bool false]) ∧ Drawn0 w w' := by
  have hu24 := Tryz.underlying24
  have HB := Aside0.mk (Below.refl w.heap.size w)
  go_enter Tryz.func53, Tryz.ntmps53
  go_wp2
  go_ret3
  exact ⟨by first | rfl | (simp; done) | (simp [*]; done), by repeat (first | exact Drawn0.refl _ | apply Drawn0.step)⟩
set_option maxHeartbeats 8000000 in
set_option maxRecDepth 100000 in
theorem arity_if (w : World) :
    Calls Tryz.prog 53 #[.string (⟨#[105, 102]⟩ : ByteArray)] w fun e w' => e = .returned (.tuple #[.int .i64 (-1), .int .i64 (-1), .bool false]) ∧ Drawn0 w w' := by
  have hu24 := Tryz.underlying24
  have HB := Aside0.mk (Below.refl w.heap.size w)
  go_enter Tryz.func53, Tryz.ntmps53
  go_wp2
  go_ret3
  exact ⟨by first | rfl | (simp; done) | (simp [*]; done), by repeat (first | exact Drawn0.refl _ | apply Drawn0.step)⟩
set_option maxHeartbeats 8000000 in
set_option maxRecDepth 100000 in
theorem known_IF (w : World) :
    Calls Tryz.prog 51 #[.string (⟨#[73, 70]⟩ : ByteArray)] w fun e w' => e = .returned (.bool true) ∧ Drawn0 w w' := by
  have hu24 := Tryz.underlying24
  have HB := Aside0.mk (Below.refl w.heap.size w)
  go_enter Tryz.func51, Tryz.ntmps51
  go_wp2_with (first
    | ((with_reducible refine gate_callee (f := 53) rfl ?_); (try (refine gate_guard (by rfl) ?_; dsimp only)); refine goesL_ (some 8) rfl rfl Tryz.func53 (by kernel_rfl) rfl #[.string (⟨#[73, 70]⟩ : ByteArray)] rfl (by (try simp only [List.map_toArray, List.map_cons, List.map_nil]); first | done | rfl) ?_; (refine (arity_IF _).mono ?_); rintro e_ w_ ⟨rfl, ⟨nd, rfl⟩⟩; refine ⟨_, rfl, ?_⟩))
  go_ret
  exact ⟨by first | rfl | (simp; done) | (simp [*]; done), by repeat (first | exact Drawn0.refl _ | apply Drawn0.step)⟩
set_option maxHeartbeats 8000000 in
set_option maxRecDepth 100000 in
theorem known_if (w : World) :
    Calls Tryz.prog 51 #[.string (⟨#[105, 102]⟩ : ByteArray)] w fun e w' => e = .returned (.bool false) ∧ Drawn0 w w' := by
  have hu24 := Tryz.underlying24
  have HB := Aside0.mk (Below.refl w.heap.size w)
  go_enter Tryz.func51, Tryz.ntmps51
  go_wp2_with (first
    | ((with_reducible refine gate_callee (f := 53) rfl ?_); (try (refine gate_guard (by rfl) ?_; dsimp only)); refine goesL_ (some 8) rfl rfl Tryz.func53 (by kernel_rfl) rfl #[.string (⟨#[105, 102]⟩ : ByteArray)] rfl (by (try simp only [List.map_toArray, List.map_cons, List.map_nil]); first | done | rfl) ?_; (refine (arity_if _).mono ?_); rintro e_ w_ ⟨rfl, ⟨nd, rfl⟩⟩; refine ⟨_, rfl, ?_⟩))
  go_ret
  exact ⟨by first | rfl | (simp; done) | (simp [*]; done), by repeat (first | exact Drawn0.refl _ | apply Drawn0.step)⟩
set_option maxHeartbeats 8000000 in
set_option maxRecDepth 100000 in
theorem least_00 (w : World) :
    Calls Tryz.prog 57 #[.int .i64 0, .int .i64 0] w fun e w' => e = .returned (.int .i64 0) ∧ Drawn0 w w' := by
  have hu24 := Tryz.underlying24
  have HB := Aside0.mk (Below.refl w.heap.size w)
  go_enter Tryz.func57, Tryz.ntmps57
  go_wp2
  go_ret
  exact ⟨by first | rfl | (simp; done) | (simp [*]; done), by repeat (first | exact Drawn0.refl _ | apply Drawn0.step)⟩
set_option maxHeartbeats 8000000 in
set_option maxRecDepth 100000 in
theorem arith_div (w : World) :
    Calls Tryz.prog 58 #[.string (⟨#[47]⟩ : ByteArray), .int .i64 1, .int .i64 0] w fun e w' => e = .returned (.agg #[.int .i64 4, .int .i64 0, .string (⟨#[]⟩ : ByteArray), .bool false, .int .i64 3]) ∧ Below w.heap.size w w' := by
  have hu24 := Tryz.underlying24
  have HB := Aside0.mk (Below.refl w.heap.size w)
  go_enter Tryz.func58, Tryz.ntmps58
  go_wp2_with (first
    | ((with_reducible refine gate_dst (N := 6) rfl ?_); (try (refine gate_guard (by rfl) ?_; dsimp only)); refine box_event ?hg (N := 6) ?hd (cs := cs5 0 0 (⟨#[]⟩ : ByteArray) false 0) (t := 24) ?hr ?_; (case hd => rfl); (case hg => rfl); (case hr => first | (go_simp; done) | (go_simp; rfl)); intro gR hg wR hbox hb; have GER := Aside0.mk ((by rw [hg]; exact (below_size (by repeat (first | (with_reducible first | exact HB.out | apply bA | apply below_drew | apply bN | apply bD) | exact HB.out))) : w.heap.size ≤ gR)); have nX_ := Aside0.mk hbox; have n0_ := Aside0.mk (below_step (by repeat (first | (with_reducible first | exact HB.out | apply bA | apply below_drew | apply bN | apply bD) | exact HB.out)) hb); clear HB ; have HB := n0_; clear n0_ hb; have BKR := nX_; clear nX_ hbox hg; obtain ⟨zR0, zR1, zR2, zR3, zR4, zRf0, zRf1, zRf2, zRf3, zRf4⟩ := five BKR.out)
    | ((with_reducible refine gate_callee (f := 54) rfl ?_); (try (refine gate_guard (by rfl) ?_; dsimp only)); refine goesL_ (some 38) rfl rfl Tryz.func54 (by kernel_rfl) rfl #[.int .i64 3] rfl (by (try simp only [List.map_toArray, List.map_cons, List.map_nil]); first | done | rfl) ?_; (refine (builtin_failed.calls 3 4 0 (⟨#[]⟩ : ByteArray) false 3 _ rfl).mono ?_); rintro e_ v1 ⟨rfl, hb⟩; refine ⟨_, rfl, ?_⟩; have mR_ := Aside0.mk (blk_below (by (with_reducible repeat (first | refine blk_drewN ?_ _ | refine blk_drew ?_ | refine blk_alloc ?_ _)); exact BKR.out) hb); have n0_ := Aside0.mk (below_step (by repeat (first | (with_reducible first | exact HB.out | apply bA | apply below_drew | apply bN | apply bD | refine below_set ?_ GER.out) | exact HB.out)) hb); clear HB BKR; have HB := n0_; have BKR := mR_; clear n0_ mR_ hb; obtain ⟨zR0, zR1, zR2, zR3, zR4, zRf0, zRf1, zRf2, zRf3, zRf4⟩ := five BKR.out))
  refine bodyPost_ret (results_cell_row rfl _ _ gR 24 (cs5 4 0 (⟨#[]⟩ : ByteArray) false 3) (0, 0) _ rfl (vput (by (with_reducible repeat (first | refine blk_drewN ?_ _ | refine blk_drew ?_ | refine blk_alloc ?_ _)); exact BKR.out) _ _ _ _ _) Tryz.underlying24 rfl (by kernel_rfl)) rfl ?_
  exact ⟨by first | rfl | (simp; done) | (simp [*]; done), (by repeat (first | (with_reducible first | exact HB.out | apply bA | apply below_drew | apply bN | apply bD | refine below_set ?_ GER.out) | exact HB.out))⟩
theorem sub03 (w : World) : Calls Tryz.prog 88 #[.int .i64 0, .int .i64 3] w fun e w' => e = .returned (.tuple #[.int .i64 (-3), .bool true]) ∧ Below w.heap.size w w' := by
  refine (fixnum_Sub.calls 0 3 (-3) true w (by unfold fixnum_Sub.f; rw [wr _ (by decide) (by decide)]; rfl)).mono ?_
  rintro e w' ⟨h1, h2⟩
  exact ⟨h1, h2.below⟩
set_option maxHeartbeats 8000000 in
set_option maxRecDepth 100000 in
theorem arith_neg (w : World) :
    Calls Tryz.prog 58 #[.string (⟨#[45]⟩ : ByteArray), .int .i64 0, .int .i64 3] w fun e w' => e = .returned (.agg #[.int .i64 1, .int .i64 (-3), .string (⟨#[]⟩ : ByteArray), .bool false, .int .i64 0]) ∧ Below w.heap.size w w' := by
  have hu24 := Tryz.underlying24
  have HB := Aside0.mk (Below.refl w.heap.size w)
  go_enter Tryz.func58, Tryz.ntmps58
  go_wp2_with (first
    | ((with_reducible refine gate_dst (N := 6) rfl ?_); (try (refine gate_guard (by rfl) ?_; dsimp only)); refine box_event ?hg (N := 6) ?hd (cs := cs5 0 0 (⟨#[]⟩ : ByteArray) false 0) (t := 24) ?hr ?_; (case hd => rfl); (case hg => rfl); (case hr => first | (go_simp; done) | (go_simp; rfl)); intro gR hg wR hbox hb; have GER := Aside0.mk ((by rw [hg]; exact (below_size (by repeat (first | (with_reducible first | exact HB.out | apply bA | apply below_drew | apply bN | apply bD) | exact HB.out))) : w.heap.size ≤ gR)); have nX_ := Aside0.mk hbox; have n0_ := Aside0.mk (below_step (by repeat (first | (with_reducible first | exact HB.out | apply bA | apply below_drew | apply bN | apply bD) | exact HB.out)) hb); clear HB ; have HB := n0_; clear n0_ hb; have BKR := nX_; clear nX_ hbox hg; obtain ⟨zR0, zR1, zR2, zR3, zR4, zRf0, zRf1, zRf2, zRf3, zRf4⟩ := five BKR.out)
    | ((with_reducible refine gate_callee (f := 88) rfl ?_); (try (refine gate_guard (by rfl) ?_; dsimp only)); refine goesL_ (some 23) rfl rfl Tryz.func88 (by kernel_rfl) rfl #[.int .i64 0, .int .i64 3] rfl (by (try simp only [List.map_toArray, List.map_cons, List.map_nil]); first | done | rfl) ?_; (refine (sub03 _).mono ?_); rintro e_ v1 ⟨rfl, hb⟩; refine ⟨_, rfl, ?_⟩; have mR_ := Aside0.mk (blk_below (by (with_reducible repeat (first | refine blk_drewN ?_ _ | refine blk_drew ?_ | refine blk_alloc ?_ _)); exact BKR.out) hb); have n0_ := Aside0.mk (below_step (by repeat (first | (with_reducible first | exact HB.out | apply bA | apply below_drew | apply bN | apply bD | refine below_set ?_ GER.out) | exact HB.out)) hb); clear HB BKR; have HB := n0_; have BKR := mR_; clear n0_ mR_ hb)
    | ((with_reducible refine gate_callee (f := 82) rfl ?_); (try (refine gate_guard (by rfl) ?_; dsimp only)); refine goesL_ (some 49) rfl rfl Tryz.func82 (by kernel_rfl) rfl #[.int .i64 (-3)] rfl (by (try simp only [List.map_toArray, List.map_cons, List.map_nil]); first | done | rfl) ?_; (refine (builtin_number.calls (-3) 1 (-3) (⟨#[]⟩ : ByteArray) false 0 _ rfl).mono ?_); rintro e_ v2 ⟨rfl, hb⟩; refine ⟨_, rfl, ?_⟩; have mR_ := Aside0.mk (blk_below (by (with_reducible repeat (first | refine blk_drewN ?_ _ | refine blk_drew ?_ | refine blk_alloc ?_ _)); exact BKR.out) hb); have n0_ := Aside0.mk (below_step (by repeat (first | (with_reducible first | exact HB.out | apply bA | apply below_drew | apply bN | apply bD | refine below_set ?_ GER.out) | exact HB.out)) hb); clear HB BKR; have HB := n0_; have BKR := mR_; clear n0_ mR_ hb; obtain ⟨zR0, zR1, zR2, zR3, zR4, zRf0, zRf1, zRf2, zRf3, zRf4⟩ := five BKR.out))
  refine bodyPost_ret (results_cell_row rfl _ _ gR 24 (cs5 1 (-3) (⟨#[]⟩ : ByteArray) false 0) (0, 0) _ rfl (vput (by (with_reducible repeat (first | refine blk_drewN ?_ _ | refine blk_drew ?_ | refine blk_alloc ?_ _)); exact BKR.out) _ _ _ _ _) Tryz.underlying24 rfl (by kernel_rfl)) rfl ?_
  exact ⟨by first | rfl | (simp; done) | (simp [*]; done), (by repeat (first | (with_reducible first | exact HB.out | apply bA | apply below_drew | apply bN | apply bD | refine below_set ?_ GER.out) | exact HB.out))⟩
theorem num_num (n : Int) : value_Number.f 1 n (⟨#[]⟩ : ByteArray) false 0 = some (n, 0) := by
  rw [number_f 1 n _ false 0 (by decide)]
  rfl
set_option maxHeartbeats 8000000 in
set_option maxRecDepth 100000 in
theorem neg_3 (w : World)(hL : Aside0 (Lq w)) :
    Calls Tryz.prog 52 #[.agg #[.int .i64 1, .int .i64 3, .string (⟨#[]⟩ : ByteArray), .bool false, .int .i64 0]] w fun e w' => e = .returned (.agg #[.int .i64 1, .int .i64 (-3), .string (⟨#[]⟩ : ByteArray), .bool false, .int .i64 0]) ∧ Below w.heap.size w w' := by
  have hu24 := Tryz.underlying24
  have HB := Aside0.mk (Below.refl w.heap.size w)
  go_enter Tryz.func52, Tryz.ntmps52
  go_wp2_with (first
    | ((with_reducible refine gate_dst (N := 1) rfl ?_); (try (refine gate_guard (by rfl) ?_; dsimp only)); refine box_event ?hg (N := 1) ?hd (cs := cs5 1 3 (⟨#[]⟩ : ByteArray) false 0) (t := 24) ?hr ?_; (case hd => rfl); (case hg => rfl); (case hr => first | (go_simp; done) | (go_simp; rfl)); intro gA hg wA hbox hb; have GEA := Aside0.mk ((by rw [hg]; exact (below_size (by repeat (first | (with_reducible first | exact HB.out | apply bA | apply below_drew | apply bN | apply bD) | exact HB.out))) : w.heap.size ≤ gA)); have nX_ := Aside0.mk hbox; have n0_ := Aside0.mk (below_step (by repeat (first | (with_reducible first | exact HB.out | apply bA | apply below_drew | apply bN | apply bD) | exact HB.out)) hb); clear HB ; have HB := n0_; clear n0_ hb; have BKA := nX_; clear nX_ hbox hg; obtain ⟨zA0, zA1, zA2, zA3, zA4, zAf0, zAf1, zAf2, zAf3, zAf4⟩ := five BKA.out)
    | ((with_reducible refine gate_dst (N := 2) rfl ?_); (try (refine gate_guard (by rfl) ?_; dsimp only)); refine box_event ?hg (N := 2) ?hd (cs := cs5 0 0 (⟨#[]⟩ : ByteArray) false 0) (t := 24) ?hr ?_; (case hd => rfl); (case hg => rfl); (case hr => first | (go_simp; done) | (go_simp; rfl)); intro gR hg wR hbox hb; have GER := Aside0.mk ((by rw [hg]; exact (below_size (by repeat (first | (with_reducible first | exact HB.out | apply bA | apply below_drew | apply bN | apply bD | refine below_set ?_ GEA.out) | exact HB.out))) : w.heap.size ≤ gR)); have NEAR : gA ≠ gR := (by rw [hg]; exact Nat.ne_of_lt (blk_lt (by (with_reducible repeat (first | refine blk_drewN ?_ _ | refine blk_drew ?_ | refine blk_alloc ?_ _)); exact BKA.out))); have NERA : gR ≠ gA := Ne.symm NEAR; have nX_ := Aside0.mk hbox; have mA_ := Aside0.mk (blk_below (by (with_reducible repeat (first | refine blk_drewN ?_ _ | refine blk_drew ?_ | refine blk_alloc ?_ _)); exact BKA.out) hb); have n0_ := Aside0.mk (below_step (by repeat (first | (with_reducible first | exact HB.out | apply bA | apply below_drew | apply bN | apply bD | refine below_set ?_ GEA.out) | exact HB.out)) hb); clear HB BKA; have HB := n0_; have BKA := mA_; clear n0_ mA_ hb; have BKR := nX_; clear nX_ hbox hg; clear zA0 zAf0 zA1 zAf1 zA2 zAf2 zA3 zAf3 zA4 zAf4; obtain ⟨zA0, zA1, zA2, zA3, zA4, zAf0, zAf1, zAf2, zAf3, zAf4⟩ := five BKA.out; obtain ⟨zR0, zR1, zR2, zR3, zR4, zRf0, zRf1, zRf2, zRf3, zRf4⟩ := five BKR.out)
    | ((with_reducible refine gate_callee (f := 17) rfl ?_); (try (refine gate_guard (by rfl) ?_; dsimp only)); refine goesL_ (some 7) rfl rfl Tryz.func17 (by kernel_rfl) rfl #[.agg #[.int .i64 1, .int .i64 3, .string (⟨#[]⟩ : ByteArray), .bool false, .int .i64 0]] rfl (by (try simp only [List.map_toArray, List.map_cons, List.map_nil]); first | done | rfl) ?_; (refine (value_Number.calls (hL := ⟨hL.out.below (by repeat (first | (with_reducible first | exact HB.out | apply bA | apply below_drew | apply bN | apply bD | refine below_set ?_ GEA.out | refine below_set ?_ GER.out) | exact HB.out))⟩) 1 3 (⟨#[]⟩ : ByteArray) false 0 3 0 _ (num_num 3)).mono ?_); rintro e_ v1 ⟨rfl, hb⟩; refine ⟨_, rfl, ?_⟩; have mA_ := Aside0.mk (blk_below (by (with_reducible repeat (first | refine blk_drewN ?_ _ | refine blk_drew ?_ | refine blk_alloc ?_ _)); exact BKA.out) hb); have mR_ := Aside0.mk (blk_below (by (with_reducible repeat (first | refine blk_drewN ?_ _ | refine blk_drew ?_ | refine blk_alloc ?_ _)); exact BKR.out) hb); have n0_ := Aside0.mk (below_step (by repeat (first | (with_reducible first | exact HB.out | apply bA | apply below_drew | apply bN | apply bD | refine below_set ?_ GEA.out | refine below_set ?_ GER.out) | exact HB.out)) hb); clear HB BKA BKR; have HB := n0_; have BKA := mA_; have BKR := mR_; clear n0_ mA_ mR_ hb)
    | ((with_reducible refine gate_callee (f := 58) rfl ?_); (try (refine gate_guard (by rfl) ?_; dsimp only)); refine goesL_ (some 15) rfl rfl Tryz.func58 (by kernel_rfl) rfl #[.string (⟨#[45]⟩ : ByteArray), .int .i64 0, .int .i64 3] rfl (by (try simp only [List.map_toArray, List.map_cons, List.map_nil]); first | done | rfl) ?_; (refine (arith_neg _).mono ?_); rintro e_ v2 ⟨rfl, hb⟩; refine ⟨_, rfl, ?_⟩; have mA_ := Aside0.mk (blk_below (by (with_reducible repeat (first | refine blk_drewN ?_ _ | refine blk_drew ?_ | refine blk_alloc ?_ _)); exact BKA.out) hb); have mR_ := Aside0.mk (blk_below (by (with_reducible repeat (first | refine blk_drewN ?_ _ | refine blk_drew ?_ | refine blk_alloc ?_ _)); exact BKR.out) hb); have n0_ := Aside0.mk (below_step (by repeat (first | (with_reducible first | exact HB.out | apply bA | apply below_drew | apply bN | apply bD | refine below_set ?_ GEA.out | refine below_set ?_ GER.out) | exact HB.out)) hb); clear HB BKA BKR; have HB := n0_; have BKA := mA_; have BKR := mR_; clear n0_ mA_ mR_ hb; obtain ⟨zR0, zR1, zR2, zR3, zR4, zRf0, zRf1, zRf2, zRf3, zRf4⟩ := five BKR.out))
  refine bodyPost_ret (results_cell_row rfl _ _ gR 24 (cs5 1 (-3) (⟨#[]⟩ : ByteArray) false 0) (0, 0) _ rfl (vput (by (with_reducible repeat (first | refine blk_drewN ?_ _ | refine blk_drew ?_ | refine blk_alloc ?_ _)); exact BKR.out) _ _ _ _ _) Tryz.underlying24 rfl (by kernel_rfl)) rfl ?_
  exact ⟨by first | rfl | (simp; done) | (simp [*]; done), (by repeat (first | (with_reducible first | exact HB.out | apply bA | apply below_drew | apply bN | apply bD | refine below_set ?_ GEA.out | refine below_set ?_ GER.out) | exact HB.out))⟩
theorem txt_num (n : Int) (h : -9223372036854775808 ≤ n ∧ n ≤ 9223372036854775807) : ∃ p, value_Text.f 1 n (⟨#[]⟩ : ByteArray) false 0 = some (p, 0) := by
  obtain ⟨p, hp, _⟩ := print_f n h.1 h.2
  refine ⟨p, ?_⟩
  rw [text_f 1 n _ false 0 p hp (by decide)]
  rfl
set_option maxHeartbeats 8000000 in
set_option maxRecDepth 100000 in
theorem binary_div (w : World)(hL : Aside0 (Lq w)) :
    Calls Tryz.prog 31 #[.string (⟨#[47]⟩ : ByteArray), .agg #[.int .i64 1, .int .i64 1, .string (⟨#[]⟩ : ByteArray), .bool false, .int .i64 0], .agg #[.int .i64 1, .int .i64 0, .string (⟨#[]⟩ : ByteArray), .bool false, .int .i64 0]] w fun e w' => e = .returned (.agg #[.int .i64 4, .int .i64 0, .string (⟨#[]⟩ : ByteArray), .bool false, .int .i64 3]) ∧ Below w.heap.size w w' := by
  have hu24 := Tryz.underlying24
  have HB := Aside0.mk (Below.refl w.heap.size w)
  obtain ⟨P1, p1⟩ := txt_num 1 (by decide)
  obtain ⟨P0, p0⟩ := txt_num 0 (by decide)
  have HP1 := Aside0.mk p1
  have HP0 := Aside0.mk p0
  clear p1 p0
  go_enter Tryz.func31, Tryz.ntmps31
  go_wp2_with (first
    | ((with_reducible refine gate_dst (N := 4) rfl ?_); (try (refine gate_guard (by rfl) ?_; dsimp only)); refine box_event ?hg (N := 4) ?hd (cs := cs5 1 1 (⟨#[]⟩ : ByteArray) false 0) (t := 24) ?hr ?_; (case hd => rfl); (case hg => rfl); (case hr => first | (go_simp; done) | (go_simp; rfl)); intro gA hg wA hbox hb; have GEA := Aside0.mk ((by rw [hg]; exact (below_size (by repeat (first | (with_reducible first | exact HB.out | apply bA | apply below_drew | apply bN | apply bD) | exact HB.out))) : w.heap.size ≤ gA)); have nX_ := Aside0.mk hbox; have n0_ := Aside0.mk (below_step (by repeat (first | (with_reducible first | exact HB.out | apply bA | apply below_drew | apply bN | apply bD) | exact HB.out)) hb); clear HB ; have HB := n0_; clear n0_ hb; have BKA := nX_; clear nX_ hbox hg; obtain ⟨zA0, zA1, zA2, zA3, zA4, zAf0, zAf1, zAf2, zAf3, zAf4⟩ := five BKA.out)
    | ((with_reducible refine gate_dst (N := 5) rfl ?_); (try (refine gate_guard (by rfl) ?_; dsimp only)); refine box_event ?hg (N := 5) ?hd (cs := cs5 1 0 (⟨#[]⟩ : ByteArray) false 0) (t := 24) ?hr ?_; (case hd => rfl); (case hg => rfl); (case hr => first | (go_simp; done) | (go_simp; rfl)); intro gB hg wB hbox hb; have GEB := Aside0.mk ((by rw [hg]; exact (below_size (by repeat (first | (with_reducible first | exact HB.out | apply bA | apply below_drew | apply bN | apply bD | refine below_set ?_ GEA.out) | exact HB.out))) : w.heap.size ≤ gB)); have NEAB : gA ≠ gB := (by rw [hg]; exact Nat.ne_of_lt (blk_lt (by (with_reducible repeat (first | refine blk_drewN ?_ _ | refine blk_drew ?_ | refine blk_alloc ?_ _)); exact BKA.out))); have NEBA : gB ≠ gA := Ne.symm NEAB; have nX_ := Aside0.mk hbox; have mA_ := Aside0.mk (blk_below (by (with_reducible repeat (first | refine blk_drewN ?_ _ | refine blk_drew ?_ | refine blk_alloc ?_ _)); exact BKA.out) hb); have n0_ := Aside0.mk (below_step (by repeat (first | (with_reducible first | exact HB.out | apply bA | apply below_drew | apply bN | apply bD | refine below_set ?_ GEA.out) | exact HB.out)) hb); clear HB BKA; have HB := n0_; have BKA := mA_; clear n0_ mA_ hb; have BKB := nX_; clear nX_ hbox hg; clear zA0 zAf0 zA1 zAf1 zA2 zAf2 zA3 zAf3 zA4 zAf4; obtain ⟨zA0, zA1, zA2, zA3, zA4, zAf0, zAf1, zAf2, zAf3, zAf4⟩ := five BKA.out; obtain ⟨zB0, zB1, zB2, zB3, zB4, zBf0, zBf1, zBf2, zBf3, zBf4⟩ := five BKB.out)
    | ((with_reducible refine gate_dst (N := 6) rfl ?_); (try (refine gate_guard (by rfl) ?_; dsimp only)); refine box_event ?hg (N := 6) ?hd (cs := cs5 0 0 (⟨#[]⟩ : ByteArray) false 0) (t := 24) ?hr ?_; (case hd => rfl); (case hg => rfl); (case hr => first | (go_simp; done) | (go_simp; rfl)); intro gR hg wR hbox hb; have GER := Aside0.mk ((by rw [hg]; exact (below_size (by repeat (first | (with_reducible first | exact HB.out | apply bA | apply below_drew | apply bN | apply bD | refine below_set ?_ GEA.out | refine below_set ?_ GEB.out) | exact HB.out))) : w.heap.size ≤ gR)); have NEAR : gA ≠ gR := (by rw [hg]; exact Nat.ne_of_lt (blk_lt (by (with_reducible repeat (first | refine blk_drewN ?_ _ | refine blk_drew ?_ | refine blk_alloc ?_ _)); exact BKA.out))); have NERA : gR ≠ gA := Ne.symm NEAR; have NEBR : gB ≠ gR := (by rw [hg]; exact Nat.ne_of_lt (blk_lt (by (with_reducible repeat (first | refine blk_drewN ?_ _ | refine blk_drew ?_ | refine blk_alloc ?_ _)); exact BKB.out))); have NERB : gR ≠ gB := Ne.symm NEBR; have nX_ := Aside0.mk hbox; have mA_ := Aside0.mk (blk_below (by (with_reducible repeat (first | refine blk_drewN ?_ _ | refine blk_drew ?_ | refine blk_alloc ?_ _)); exact BKA.out) hb); have mB_ := Aside0.mk (blk_below (by (with_reducible repeat (first | refine blk_drewN ?_ _ | refine blk_drew ?_ | refine blk_alloc ?_ _)); exact BKB.out) hb); have n0_ := Aside0.mk (below_step (by repeat (first | (with_reducible first | exact HB.out | apply bA | apply below_drew | apply bN | apply bD | refine below_set ?_ GEA.out | refine below_set ?_ GEB.out) | exact HB.out)) hb); clear HB BKA BKB; have HB := n0_; have BKA := mA_; have BKB := mB_; clear n0_ mA_ mB_ hb; have BKR := nX_; clear nX_ hbox hg; clear zA0 zAf0 zA1 zAf1 zA2 zAf2 zA3 zAf3 zA4 zAf4; obtain ⟨zA0, zA1, zA2, zA3, zA4, zAf0, zAf1, zAf2, zAf3, zAf4⟩ := five BKA.out; clear zB0 zBf0 zB1 zBf1 zB2 zBf2 zB3 zBf3 zB4 zBf4; obtain ⟨zB0, zB1, zB2, zB3, zB4, zBf0, zBf1, zBf2, zBf3, zBf4⟩ := five BKB.out; obtain ⟨zR0, zR1, zR2, zR3, zR4, zRf0, zRf1, zRf2, zRf3, zRf4⟩ := five BKR.out)
    | ((with_reducible refine gate_callee (f := 19) rfl ?_); (try (refine gate_guard (by rfl) ?_; dsimp only)); refine goesL_ (some 23) rfl rfl Tryz.func19 (by kernel_rfl) rfl #[.agg #[.int .i64 1, .int .i64 1, .string (⟨#[]⟩ : ByteArray), .bool false, .int .i64 0]] rfl (by (try simp only [List.map_toArray, List.map_cons, List.map_nil]); first | done | rfl) ?_; (refine (value_Text.calls (hL := ⟨hL.out.below (by repeat (first | (with_reducible first | exact HB.out | apply bA | apply below_drew | apply bN | apply bD | refine below_set ?_ GEA.out | refine below_set ?_ GEB.out | refine below_set ?_ GER.out) | exact HB.out))⟩) 1 1 (⟨#[]⟩ : ByteArray) false 0 P1 0 _ HP1.out).mono ?_); rintro e_ v1 ⟨rfl, hb⟩; refine ⟨_, rfl, ?_⟩; have mA_ := Aside0.mk (blk_below (by (with_reducible repeat (first | refine blk_drewN ?_ _ | refine blk_drew ?_ | refine blk_alloc ?_ _)); exact BKA.out) hb); have mB_ := Aside0.mk (blk_below (by (with_reducible repeat (first | refine blk_drewN ?_ _ | refine blk_drew ?_ | refine blk_alloc ?_ _)); exact BKB.out) hb); have mR_ := Aside0.mk (blk_below (by (with_reducible repeat (first | refine blk_drewN ?_ _ | refine blk_drew ?_ | refine blk_alloc ?_ _)); exact BKR.out) hb); have n0_ := Aside0.mk (below_step (by repeat (first | (with_reducible first | exact HB.out | apply bA | apply below_drew | apply bN | apply bD | refine below_set ?_ GEA.out | refine below_set ?_ GEB.out | refine below_set ?_ GER.out) | exact HB.out)) hb); clear HB BKA BKB BKR; have HB := n0_; have BKA := mA_; have BKB := mB_; have BKR := mR_; clear n0_ mA_ mB_ mR_ hb; obtain ⟨zB0, zB1, zB2, zB3, zB4, zBf0, zBf1, zBf2, zBf3, zBf4⟩ := five BKB.out)
    | ((with_reducible refine gate_callee (f := 19) rfl ?_); (try (refine gate_guard (by rfl) ?_; dsimp only)); refine goesL_ (some 28) rfl rfl Tryz.func19 (by kernel_rfl) rfl #[.agg #[.int .i64 1, .int .i64 0, .string (⟨#[]⟩ : ByteArray), .bool false, .int .i64 0]] rfl (by (try simp only [List.map_toArray, List.map_cons, List.map_nil]); first | done | rfl) ?_; (refine (value_Text.calls (hL := ⟨hL.out.below (by repeat (first | (with_reducible first | exact HB.out | apply bA | apply below_drew | apply bN | apply bD | refine below_set ?_ GEA.out | refine below_set ?_ GEB.out | refine below_set ?_ GER.out) | exact HB.out))⟩) 1 0 (⟨#[]⟩ : ByteArray) false 0 P0 0 _ HP0.out).mono ?_); rintro e_ v2 ⟨rfl, hb⟩; refine ⟨_, rfl, ?_⟩; have mA_ := Aside0.mk (blk_below (by (with_reducible repeat (first | refine blk_drewN ?_ _ | refine blk_drew ?_ | refine blk_alloc ?_ _)); exact BKA.out) hb); have mB_ := Aside0.mk (blk_below (by (with_reducible repeat (first | refine blk_drewN ?_ _ | refine blk_drew ?_ | refine blk_alloc ?_ _)); exact BKB.out) hb); have mR_ := Aside0.mk (blk_below (by (with_reducible repeat (first | refine blk_drewN ?_ _ | refine blk_drew ?_ | refine blk_alloc ?_ _)); exact BKR.out) hb); have n0_ := Aside0.mk (below_step (by repeat (first | (with_reducible first | exact HB.out | apply bA | apply below_drew | apply bN | apply bD | refine below_set ?_ GEA.out | refine below_set ?_ GEB.out | refine below_set ?_ GER.out) | exact HB.out)) hb); clear HB BKA BKB BKR; have HB := n0_; have BKA := mA_; have BKB := mB_; have BKR := mR_; clear n0_ mA_ mB_ mR_ hb)
    | ((with_reducible refine gate_callee (f := 57) rfl ?_); (try (refine gate_guard (by rfl) ?_; dsimp only)); refine goesL_ (some 33) rfl rfl Tryz.func57 (by kernel_rfl) rfl #[.int .i64 0, .int .i64 0] rfl (by (try simp only [List.map_toArray, List.map_cons, List.map_nil]); first | done | rfl) ?_; (refine (least_00 _).mono ?_); rintro e_ w_ ⟨rfl, ⟨nd, rfl⟩⟩; refine ⟨_, rfl, ?_⟩; obtain ⟨zA0, zA1, zA2, zA3, zA4, zAf0, zAf1, zAf2, zAf3, zAf4⟩ := five BKA.out)
    | ((with_reducible refine gate_callee (f := 17) rfl ?_); (try (refine gate_guard (by rfl) ?_; dsimp only)); refine goesL_ (some 46) rfl rfl Tryz.func17 (by kernel_rfl) rfl #[.agg #[.int .i64 1, .int .i64 1, .string (⟨#[]⟩ : ByteArray), .bool false, .int .i64 0]] rfl (by (try simp only [List.map_toArray, List.map_cons, List.map_nil]); first | done | rfl) ?_; (refine (value_Number.calls (hL := ⟨hL.out.below (by repeat (first | (with_reducible first | exact HB.out | apply bA | apply below_drew | apply bN | apply bD | refine below_set ?_ GEA.out | refine below_set ?_ GEB.out | refine below_set ?_ GER.out) | exact HB.out))⟩) 1 1 (⟨#[]⟩ : ByteArray) false 0 1 0 _ (num_num 1)).mono ?_); rintro e_ v3 ⟨rfl, hb⟩; refine ⟨_, rfl, ?_⟩; have mA_ := Aside0.mk (blk_below (by (with_reducible repeat (first | refine blk_drewN ?_ _ | refine blk_drew ?_ | refine blk_alloc ?_ _)); exact BKA.out) hb); have mB_ := Aside0.mk (blk_below (by (with_reducible repeat (first | refine blk_drewN ?_ _ | refine blk_drew ?_ | refine blk_alloc ?_ _)); exact BKB.out) hb); have mR_ := Aside0.mk (blk_below (by (with_reducible repeat (first | refine blk_drewN ?_ _ | refine blk_drew ?_ | refine blk_alloc ?_ _)); exact BKR.out) hb); have n0_ := Aside0.mk (below_step (by repeat (first | (with_reducible first | exact HB.out | apply bA | apply below_drew | apply bN | apply bD | refine below_set ?_ GEA.out | refine below_set ?_ GEB.out | refine below_set ?_ GER.out) | exact HB.out)) hb); clear HB BKA BKB BKR; have HB := n0_; have BKA := mA_; have BKB := mB_; have BKR := mR_; clear n0_ mA_ mB_ mR_ hb; obtain ⟨zB0, zB1, zB2, zB3, zB4, zBf0, zBf1, zBf2, zBf3, zBf4⟩ := five BKB.out)
    | ((with_reducible refine gate_callee (f := 17) rfl ?_); (try (refine gate_guard (by rfl) ?_; dsimp only)); refine goesL_ (some 51) rfl rfl Tryz.func17 (by kernel_rfl) rfl #[.agg #[.int .i64 1, .int .i64 0, .string (⟨#[]⟩ : ByteArray), .bool false, .int .i64 0]] rfl (by (try simp only [List.map_toArray, List.map_cons, List.map_nil]); first | done | rfl) ?_; (refine (value_Number.calls (hL := ⟨hL.out.below (by repeat (first | (with_reducible first | exact HB.out | apply bA | apply below_drew | apply bN | apply bD | refine below_set ?_ GEA.out | refine below_set ?_ GEB.out | refine below_set ?_ GER.out) | exact HB.out))⟩) 1 0 (⟨#[]⟩ : ByteArray) false 0 0 0 _ (num_num 0)).mono ?_); rintro e_ v4 ⟨rfl, hb⟩; refine ⟨_, rfl, ?_⟩; have mA_ := Aside0.mk (blk_below (by (with_reducible repeat (first | refine blk_drewN ?_ _ | refine blk_drew ?_ | refine blk_alloc ?_ _)); exact BKA.out) hb); have mB_ := Aside0.mk (blk_below (by (with_reducible repeat (first | refine blk_drewN ?_ _ | refine blk_drew ?_ | refine blk_alloc ?_ _)); exact BKB.out) hb); have mR_ := Aside0.mk (blk_below (by (with_reducible repeat (first | refine blk_drewN ?_ _ | refine blk_drew ?_ | refine blk_alloc ?_ _)); exact BKR.out) hb); have n0_ := Aside0.mk (below_step (by repeat (first | (with_reducible first | exact HB.out | apply bA | apply below_drew | apply bN | apply bD | refine below_set ?_ GEA.out | refine below_set ?_ GEB.out | refine below_set ?_ GER.out) | exact HB.out)) hb); clear HB BKA BKB BKR; have HB := n0_; have BKA := mA_; have BKB := mB_; have BKR := mR_; clear n0_ mA_ mB_ mR_ hb)
    | ((with_reducible refine gate_callee (f := 57) rfl ?_); (try (refine gate_guard (by rfl) ?_; dsimp only)); refine goesL_ (some 56) rfl rfl Tryz.func57 (by kernel_rfl) rfl #[.int .i64 0, .int .i64 0] rfl (by (try simp only [List.map_toArray, List.map_cons, List.map_nil]); first | done | rfl) ?_; (refine (least_00 _).mono ?_); rintro e_ w_ ⟨rfl, ⟨nd, rfl⟩⟩; refine ⟨_, rfl, ?_⟩)
    | ((with_reducible refine gate_callee (f := 58) rfl ?_); (try (refine gate_guard (by rfl) ?_; dsimp only)); refine goesL_ (some 64) rfl rfl Tryz.func58 (by kernel_rfl) rfl #[.string (⟨#[47]⟩ : ByteArray), .int .i64 1, .int .i64 0] rfl (by (try simp only [List.map_toArray, List.map_cons, List.map_nil]); first | done | rfl) ?_; (refine (arith_div _).mono ?_); rintro e_ v5 ⟨rfl, hb⟩; refine ⟨_, rfl, ?_⟩; have mA_ := Aside0.mk (blk_below (by (with_reducible repeat (first | refine blk_drewN ?_ _ | refine blk_drew ?_ | refine blk_alloc ?_ _)); exact BKA.out) hb); have mB_ := Aside0.mk (blk_below (by (with_reducible repeat (first | refine blk_drewN ?_ _ | refine blk_drew ?_ | refine blk_alloc ?_ _)); exact BKB.out) hb); have mR_ := Aside0.mk (blk_below (by (with_reducible repeat (first | refine blk_drewN ?_ _ | refine blk_drew ?_ | refine blk_alloc ?_ _)); exact BKR.out) hb); have n0_ := Aside0.mk (below_step (by repeat (first | (with_reducible first | exact HB.out | apply bA | apply below_drew | apply bN | apply bD | refine below_set ?_ GEA.out | refine below_set ?_ GEB.out | refine below_set ?_ GER.out) | exact HB.out)) hb); clear HB BKA BKB BKR; have HB := n0_; have BKA := mA_; have BKB := mB_; have BKR := mR_; clear n0_ mA_ mB_ mR_ hb; obtain ⟨zR0, zR1, zR2, zR3, zR4, zRf0, zRf1, zRf2, zRf3, zRf4⟩ := five BKR.out))
  refine bodyPost_ret (results_cell_row rfl _ _ gR 24 (cs5 4 0 (⟨#[]⟩ : ByteArray) false 3) (0, 0) _ rfl (vput (by (with_reducible repeat (first | refine blk_drewN ?_ _ | refine blk_drew ?_ | refine blk_alloc ?_ _)); exact BKR.out) _ _ _ _ _) Tryz.underlying24 rfl (by kernel_rfl)) rfl ?_
  exact ⟨by first | rfl | (simp; done) | (simp [*]; done), (by repeat (first | (with_reducible first | exact HB.out | apply bA | apply below_drew | apply bN | apply bD | refine below_set ?_ GEA.out | refine below_set ?_ GEB.out | refine below_set ?_ GER.out) | exact HB.out))⟩
set_option maxHeartbeats 8000000 in
set_option maxRecDepth 100000 in
theorem call_all (k : Nat) (nm : ByteArray) (ha : ∀ w, Calls Tryz.prog 53 #[.string nm] w fun e w' => e = .returned (.tuple #[.int .i64 0, .int .i64 810000, .bool true]) ∧ Drawn0 w w') (A1 : Option Addr) (c1 : Nat) (l1 : List S44) (hl : l1.length ≤ 810000) (r1 r2 : Int) (r3 : ByteArray) (r4 : Bool) (r5 : Int) (w : World) (hL : Aside0 (Lq w)) (hr1 : Kd.C k44 w A1 l1.length l1) (hc1 : l1.length ≤ c1) (h : builtin_all.f k nm l1 = some (r1, r2, r3, r4, r5)) :
    Calls Tryz.prog 28 #[.string nm, .slice A1 l1.length c1] w fun e w' => e = .returned (.agg #[.int .i64 r1, .int .i64 r2, .string r3, .bool r4, .int .i64 r5]) ∧ Below w.heap.size w w' := by
  have hu24 := Tryz.underlying24
  have HB := Aside0.mk (Below.refl w.heap.size w)
  have hu44 := Tryz.underlying44
  have HR1 := Aside0.mk hr1
  have HC1 := Aside0.mk hc1
  have H := Aside0.mk h
  have HA := Aside0.mk ha
  have d1 : decide ((l1.length : Int) < 0) = false := decide_eq_false (by omega)
  have d2 : decide ((810000 : Int) < (l1.length : Int)) = false := decide_eq_false (by omega)
  clear hr1 hc1 h ha hl
  go_enter Tryz.func28, Tryz.ntmps28
  go_wp2_with (first
    | ((with_reducible refine gate_dst (N := 4) rfl ?_); (try (refine gate_guard (by rfl) ?_; dsimp only)); refine box_event ?hg (N := 4) ?hd (cs := cs5 0 0 (⟨#[]⟩ : ByteArray) false 0) (t := 24) ?hr ?_; (case hd => rfl); (case hg => rfl); (case hr => first | (go_simp; done) | (go_simp; rfl)); intro gR hg wR hbox hb; have GER := Aside0.mk ((by rw [hg]; exact (below_size (by repeat (first | (with_reducible first | exact HB.out | apply bA | apply below_drew | apply bN | apply bD) | exact HB.out))) : w.heap.size ≤ gR)); have nX_ := Aside0.mk hbox; have n0_ := Aside0.mk (below_step (by repeat (first | (with_reducible first | exact HB.out | apply bA | apply below_drew | apply bN | apply bD) | exact HB.out)) hb); clear HB ; have HB := n0_; clear n0_ hb; have BKR := nX_; clear nX_ hbox hg; obtain ⟨zR0, zR1, zR2, zR3, zR4, zRf0, zRf1, zRf2, zRf3, zRf4⟩ := five BKR.out)
    | ((with_reducible refine gate_callee (f := 53) rfl ?_); (try (refine gate_guard (by rfl) ?_; dsimp only)); refine goesL_ (some 14) rfl rfl Tryz.func53 (by kernel_rfl) rfl #[.string nm] rfl (by (try simp only [List.map_toArray, List.map_cons, List.map_nil]); first | done | rfl) ?_; (refine (HA.out _).mono ?_); rintro e_ w_ ⟨rfl, ⟨nd, rfl⟩⟩; refine ⟨_, rfl, ?_⟩)
    | ((with_reducible refine gate_callee (f := 55) rfl ?_); refine goesL_ (some 38) rfl rfl Tryz.func55 (by kernel_rfl) rfl #[.string nm, .slice A1 l1.length c1] rfl (by (try simp only [List.map_toArray, List.map_cons, List.map_nil]); first | done | rfl) ?_; (with_reducible refine (builtin_all.calls (hL := ⟨hL.out.below (by repeat (first | (with_reducible first | exact HB.out | apply bA | apply below_drew | apply bN | apply bD | refine below_set ?_ GER.out) | exact HB.out))⟩) k nm _ _ l1 r1 r2 r3 r4 r5 _ ?side1 ?side2 H.out).mono ?_); (case side1 => exact Kd.C_below HR1.out (by repeat (first | (with_reducible first | exact HB.out | apply bA | apply below_drew | apply bN | apply bD | refine below_set ?_ GER.out) | exact HB.out))); (case side2 => exact HC1.out); rintro e_ vX ⟨rfl, hb⟩; refine ⟨_, rfl, ?_⟩; have mR_ := Aside0.mk (blk_below (by (with_reducible repeat (first | refine blk_drewN ?_ _ | refine blk_drew ?_ | refine blk_alloc ?_ _)); exact BKR.out) hb); have n0_ := Aside0.mk (below_step (by repeat (first | (with_reducible first | exact HB.out | apply bA | apply below_drew | apply bN | apply bD | refine below_set ?_ GER.out) | exact HB.out)) hb); clear HB BKR; have HB := n0_; have BKR := mR_; clear n0_ mR_ hb; obtain ⟨zR0, zR1, zR2, zR3, zR4, zRf0, zRf1, zRf2, zRf3, zRf4⟩ := five BKR.out))
  refine bodyPost_ret (results_cell_row rfl _ _ gR 24 (cs5 r1 r2 r3 r4 r5) (0, 0) _ rfl (vput (by (with_reducible repeat (first | refine blk_drewN ?_ _ | refine blk_drew ?_ | refine blk_alloc ?_ _)); exact BKR.out) _ _ _ _ _) Tryz.underlying24 rfl (by kernel_rfl)) rfl ?_
  exact ⟨by first | rfl | (simp; done) | (simp [*]; done), (by repeat (first | (with_reducible first | exact HB.out | apply bA | apply below_drew | apply bN | apply bD | refine below_set ?_ GER.out) | exact HB.out))⟩
end Go.Proofs.YtfnbflhoaemmeaaGreatDoor.EBui
end
section
namespace Go.Proofs.YtfnbflhoaemmeaaGreatDoor.EBui
open Go.RowKit Go.Lib Go.Proofs.YtfnbflhoaemmeaaGreatDoorW.PrintWords Go.Proofs.YtfnbflhoaemmeaaGreatDoorW.PrintLast Go.Proofs.YtfnbflhoaemmeaaGreatDoor.Ext Go.Proofs.YtfnbflhoaemmeaaGreatDoor.EFxA Go.Proofs.YtfnbflhoaemmeaaGreatDoor.EFix Go.Proofs.YtfnbflhoaemmeaaGreatDoor.EVal
set_option linter.unusedVariables false
set_option linter.unusedSimpArgs false
def v5 (x : S24) : V5 := (x.f0, x.f1, x.f2, x.f3, x.f4)
def errX (x : S24) : Int := if x.f0 = 4 ∧ mayS (v5 x) = true then x.f4 else 0
def wst (a e : Int) : Int := if e > 0 ∧ (a = 0 ∨ e < a) then e else a
def stepA (p : List Int × Int) (x : S24) : List Int × Int := (if x.f0 = 1 ∧ mayS (v5 x) = true then p.1 ++ [x.f1] else p.1, wst p.2 (errX x))
theorem stepA_eq (p : List Int × Int) (x : S24) : stepA p x = (if x.f0 = 1 ∧ mayS (v5 x) = true then p.1 ++ [x.f1] else p.1, wst p.2 (errX x)) := rfl
theorem wr1 (j n : Nat) (h : j < n) (hn : n ≤ 1000000) : wrap64 ((j : Int) + 1) = ((j + 1 : Nat) : Int) := by rw [wr _ (by omega) (by omega)]; rfl
theorem rdX (l : List S24) (j : Nat) (h : j < l.length) : rd_T24 l (j : Int) = l[j] := by
  unfold rd_T24
  rw [Int.toNat_natCast, List.getD_eq_getElem?_getD, List.getElem?_eq_getElem h]
  rfl
theorem rdA (l : List S44) (j : Nat) (h : j < l.length) : rd_T44 l (j : Int) = l[j] := by
  unfold rd_T44
  rw [Int.toNat_natCast, List.getD_eq_getElem?_getD, List.getElem?_eq_getElem h]
  rfl
theorem worst1 (k : Nat) (x : S24) (hx : x.f2.size ≤ 1000) : value_Worst.f (k + 2) [x] = some (errX x) := by
  have hr : rd_T24 [x] 0 = x := rfl
  have hw : wrap64 (0 + 1) = 1 := (wr _ (by decide) (by decide)).trans rfl
  have hm := may_f x.f0 x.f1 x.f2 x.f3 x.f4 (by omega)
  have hl : (([x] : List S24).length : Int) = 1 := rfl
  have h1 : ∀ y, value_Worst.l0 (k + 1) y [x] 1 1 = some y := fun y => by rw [value_Worst.l0, if_neg (by decide)]
  unfold value_Worst.f
  rw [hl, value_Worst.l0, if_pos (by decide), if_pos (by decide), if_pos (by rw [hl]; decide), hr, hw, h1, hm, Option.bind_some]
  unfold errX
  by_cases c : x.f0 = 4
  · rw [if_pos c]
    cases g : mayS (x.f0, x.f1, x.f2, x.f3, x.f4)
    · rw [if_neg (by simp), h1, if_neg (fun h => by have := h.2; rw [show v5 x = (x.f0, x.f1, x.f2, x.f3, x.f4) from rfl, g] at this; cases this)]
    · rw [if_pos rfl, if_pos rfl, if_pos ⟨c, g⟩]
  · rw [if_neg c, h1, if_neg (fun h => c h.1)]
theorem l1_eq (x0 : ByteArray) (x16 : List S44) (x17 x18 : Int) (l : List S24) (hX : ∀ x ∈ l, x.f2.size ≤ 1000) (hl : l.length ≤ 1000000) :
    ∀ (n j : Nat), j + n = l.length → ∀ (k : Nat) (x5 : List Int) (x6 : Int), x5.length + n ≤ 10000000 →
    builtin_all.l1 (k + 3 + 2 * n) x0 x5 x6 x16 x17 x18 l (l.length : Int) (j : Int) = builtin_all.l0 (k + 2) x0 ((l.drop j).foldl stepA (x5, x6)).1 ((l.drop j).foldl stepA (x5, x6)).2 x16 x17 (wrap64 (x18 + 1))
  | 0, j, hj, k, x5, x6, h5 => by
    rw [show k + 3 + 2 * 0 = (k + 2) + 1 from rfl, builtin_all.l1, if_neg (by omega), List.drop_of_length_le (by omega)]
    rfl
  | n + 1, j, hj, k, x5, x6, h5 => by
    have hlt : j < l.length := by omega
    have ih := l1_eq x0 x16 x17 x18 l hX hl n (j + 1) (by omega) k
    obtain ⟨x, hx⟩ : ∃ x, l[j] = x := ⟨_, rfl⟩
    have hxm : x ∈ l := hx ▸ List.getElem_mem hlt
    have hm := may_f x.f0 x.f1 x.f2 x.f3 x.f4 (by have := hX x hxm; omega)
    have J : ∀ (b : Bool) (y : Int), builtin_all.j2 (k + 3 + 2 * n + 1) x0 x5 x6 (errX x) x16 x17 x18 l (l.length : Int) (j : Int) b x.f0 x.f1 x.f2 x.f3 x.f4 =
        builtin_all.l1 (k + 3 + 2 * n) x0 (if x.f0 = 1 ∧ mayS (v5 x) = true then x5 ++ [x.f1] else x5) (if b = true then errX x else x6) x16 x17 x18 l (l.length : Int) ((j + 1 : Nat) : Int) := by
      intro b _
      rw [builtin_all.j2, wr1 j _ hlt hl, hm]
      simp only [Option.bind_some]
      have h5' : x5.length < 17592186044416 := by omega
      by_cases c : x.f0 = 1
      · cases g : mayS (x.f0, x.f1, x.f2, x.f3, x.f4)
        · rw [if_neg (show ¬ (x.f0 = 1 ∧ mayS (v5 x) = true) from fun h => by have := h.2; rw [show v5 x = (x.f0, x.f1, x.f2, x.f3, x.f4) from rfl, g] at this; cases this)]
          cases b <;> simp [c, h5']
        · rw [if_pos (show x.f0 = 1 ∧ mayS (v5 x) = true from ⟨c, g⟩)]
          cases b <;> simp [c, h5']
      · rw [if_neg (show ¬ (x.f0 = 1 ∧ mayS (v5 x) = true) from fun h => c h.1)]
        cases b <;> simp [c, h5']
    rw [show k + 3 + 2 * (n + 1) = (k + 3 + 2 * n + 1) + 1 by omega, builtin_all.l1, if_pos (by omega), if_pos (by omega), if_pos (by omega), rdX l j hlt, hx, show k + 3 + 2 * n + 1 = (k + 2 * n + 2) + 2 by omega, worst1 _ x (hX x hxm), Option.bind_some, show (k + 2 * n + 2) + 2 = k + 3 + 2 * n + 1 by omega]
    have hd : (l.drop j).foldl stepA (x5, x6) = (l.drop (j + 1)).foldl stepA (stepA (x5, x6) x) := by rw [List.drop_eq_getElem_cons hlt, hx]; rfl
    rw [hd, stepA_eq]
    have fin : ∀ b : Bool, (b = true ↔ (errX x > 0 ∧ (x6 = 0 ∨ errX x < x6))) → builtin_all.j2 (k + 3 + 2 * n + 1) x0 x5 x6 (errX x) x16 x17 x18 l (l.length : Int) (j : Int) b x.f0 x.f1 x.f2 x.f3 x.f4 =
        builtin_all.l0 (k + 2) x0 ((l.drop (j + 1)).foldl stepA (if x.f0 = 1 ∧ mayS (v5 x) = true then x5 ++ [x.f1] else x5, wst x6 (errX x))).1 ((l.drop (j + 1)).foldl stepA (if x.f0 = 1 ∧ mayS (v5 x) = true then x5 ++ [x.f1] else x5, wst x6 (errX x))).2 x16 x17 (wrap64 (x18 + 1)) := by
      intro b hb
      rw [J b 0]
      have hw : (if b = true then errX x else x6) = wst x6 (errX x) := by
        unfold wst
        by_cases c : b = true
        · rw [if_pos c, if_pos (hb.mp c)]
        · rw [if_neg c, if_neg (fun h => c (hb.mpr h))]
      rw [hw]
      refine ih _ _ ?_
      split
      · rw [List.length_append, List.length_singleton]; omega
      · omega
    by_cases c1 : errX x > 0
    · rw [if_pos c1]
      by_cases c2 : x6 = 0
      · rw [if_pos c2]; exact fin true (by simp [c1, c2])
      · rw [if_neg c2]; exact fin _ (by simp [c1, c2])
    · rw [if_neg c1]; exact fin false (by simp [c1])
theorem l0_eq (x0 : ByteArray) (l : List S44) (hX : ∀ a ∈ l, (∀ x ∈ a.f1, x.f2.size ≤ 1000) ∧ a.f1.length ≤ 1000) (hl : l.length ≤ 1000) :
    ∀ (n i : Nat), i + n = l.length → ∀ (x5 : List Int) (x6 : Int), x5.length + 1000 * n ≤ 9000000 → ∃ m, ∀ k,
    builtin_all.l0 (k + 2 + m) x0 x5 x6 l (l.length : Int) (i : Int) = builtin_all.l0 (k + 2) x0 (((l.drop i).flatMap (·.f1)).foldl stepA (x5, x6)).1 (((l.drop i).flatMap (·.f1)).foldl stepA (x5, x6)).2 l (l.length : Int) (l.length : Int)
  | 0, i, hi, x5, x6, h5 => ⟨0, fun k => by
    rw [List.drop_of_length_le (by omega), show (i : Int) = (l.length : Int) by omega]
    rfl⟩
  | n + 1, i, hi, x5, x6, h5 => by
    have hlt : i < l.length := by omega
    obtain ⟨a, ha⟩ : ∃ a, l[i] = a := ⟨_, rfl⟩
    have ham : a ∈ l := ha ▸ List.getElem_mem hlt
    obtain ⟨hx, hn⟩ := hX a ham
    have hle : (a.f1.foldl stepA (x5, x6)).1.length ≤ x5.length + a.f1.length := by
      have G : ∀ (s : List S24) (p : List Int × Int), (s.foldl stepA p).1.length ≤ p.1.length + s.length := by
        intro s
        induction s with
        | nil => intro p; simp
        | cons y s ih =>
          intro p
          rw [List.foldl_cons, List.length_cons]
          have := ih (stepA p y)
          have h2 : (stepA p y).1.length ≤ p.1.length + 1 := by
            rw [stepA_eq]
            split
            · simp
            · simp
          omega
      exact G _ _
    obtain ⟨m, hm⟩ := l0_eq x0 l hX hl n (i + 1) (by omega) (a.f1.foldl stepA (x5, x6)).1 (a.f1.foldl stepA (x5, x6)).2 (by omega)
    refine ⟨m + 2 * a.f1.length + 2, fun k => ?_⟩
    have h1 := l1_eq x0 l (l.length : Int) (i : Int) a.f1 hx (by omega) a.f1.length 0 (by omega) (k + m) x5 x6 (by omega)
    rw [show k + 2 + (m + 2 * a.f1.length + 2) = (k + m + 3 + 2 * a.f1.length) + 1 by omega, builtin_all.l0, if_pos (by omega), if_pos (by omega), if_pos (by omega), rdA l i hlt, ha]
    refine h1.trans ?_
    rw [wr1 i _ hlt (by omega), List.drop_zero, show k + m + 2 = k + 2 + m by omega, hm k, List.drop_eq_getElem_cons hlt, ha, List.flatMap_cons, List.foldl_append]
theorem ext_l (b : Bool) (l : List Int) (hl : l.length ≤ 1000000) : ∀ (n j : Nat), j + n = l.length → ∀ y, ∃ r, ∀ k, n + 1 ≤ k → builtin_extreme.l0 k b y l (l.length : Int) (j : Int) = some r
  | 0, j, hj, y => ⟨y, fun k hk => by
    obtain ⟨q, rfl⟩ : ∃ q, k = q + 1 := ⟨k - 1, by omega⟩
    rw [builtin_extreme.l0, if_neg (by omega)]⟩
  | n + 1, j, hj, y => by
    obtain ⟨r1, h1⟩ := ext_l b l hl n (j + 1) (by omega) (rd l (j : Int))
    obtain ⟨r2, h2⟩ := ext_l b l hl n (j + 1) (by omega) y
    have key : ∀ c d : Prop, [Decidable c] → [Decidable d] → ∃ r, ∀ k, n + 1 + 1 ≤ k + 1 → (if c then builtin_extreme.l0 k b (rd l (j : Int)) l (l.length : Int) ((j + 1 : Nat) : Int) else (if d then builtin_extreme.l0 k b (rd l (j : Int)) l (l.length : Int) ((j + 1 : Nat) : Int) else builtin_extreme.l0 k b y l (l.length : Int) ((j + 1 : Nat) : Int))) = some r := by
      intro c d _ _
      by_cases c1 : c
      · exact ⟨r1, fun k hk => by rw [if_pos c1]; exact h1 k (by omega)⟩
      · by_cases c2 : d
        · exact ⟨r1, fun k hk => by rw [if_neg c1, if_pos c2]; exact h1 k (by omega)⟩
        · exact ⟨r2, fun k hk => by rw [if_neg c1, if_neg c2]; exact h2 k (by omega)⟩
    obtain ⟨r, hr⟩ := key ((j : Int) = 0) (((decide ((rd l (j : Int)) > y)) == b) = true)
    refine ⟨r, fun k hk => ?_⟩
    obtain ⟨q, rfl⟩ : ∃ q, k = q + 1 := ⟨k - 1, by omega⟩
    rw [builtin_extreme.l0, if_pos (by omega), if_pos (by omega), if_pos (by omega), wr1 j _ (by omega) hl]
    exact hr q hk
def int64 (a : Int) : Prop := -9223372036854775808 ≤ a ∧ a ≤ 9223372036854775807
abbrev R5 := Int × Int × ByteArray × Bool × Int
theorem sum_in (T : Int) : int64 (sumS T).1 := by
  unfold sumS int64
  split
  · assumption
  · exact ⟨by decide, by decide⟩
theorem num_some (a : Int) : ((builtin_number.f a).bind fun bt => (some (bt.1, bt.2.1, bt.2.2.1, bt.2.2.2.1, bt.2.2.2.2) : Option R5)) = some (1, a, (⟨#[]⟩ : ByteArray), false, 0) := rfl
theorem fail_some (a : Int) : ((builtin_failed.f a).bind fun bt => (some (bt.1, bt.2.1, bt.2.2.1, bt.2.2.2.1, bt.2.2.2.2) : Option R5)) = some (4, 0, (⟨#[]⟩ : ByteArray), false, a) := rfl
theorem tail_eq (x0 : ByteArray) (l : List Int) (e : Int) (hl : l.length ≤ 1000000) (hi : ∀ a ∈ l, int64 a) :
    ∃ r : R5, (e > 0 → r = (4, 0, (⟨#[]⟩ : ByteArray), false, e)) ∧ (¬ e > 0 → by_ x0 = [83, 85, 77] → (sumS l.sum).2 = true → r = (1, (sumS l.sum).1, (⟨#[]⟩ : ByteArray), false, 0)) ∧
      ∃ K, ∀ k, K ≤ k → ∀ (A : List S44) (n : Int), builtin_all.l0 k x0 l e A n n = some r := by
  have hI : fixnum_Int.f (l.length : Int) = some ((l.length : Int) * 10000, true) := by
    unfold fixnum_Int.f
    rw [if_neg (by omega), if_neg (by omega), wr _ (by omega) (by omega)]
  by_cases c : e > 0
  · refine ⟨(4, 0, ⟨#[]⟩, false, e), fun _ => rfl, fun h => absurd c h, 1, fun k hk A n => ?_⟩
    obtain ⟨q, rfl⟩ : ∃ q, k = q + 1 := ⟨k - 1, by omega⟩
    rw [builtin_all.l0, if_neg (by omega), if_pos c, fail_some]
  · by_cases c1 : x0.toList = ([67, 79, 85, 78, 84] : List UInt8)
    · refine ⟨(1, (l.length : Int) * 10000, ⟨#[]⟩, false, 0), fun h => absurd h c, fun _ h2 => ?_, 1, fun k hk A n => ?_⟩
      · rw [to_by, h2] at c1; cases c1
      · obtain ⟨q, rfl⟩ : ∃ q, k = q + 1 := ⟨k - 1, by omega⟩
        rw [builtin_all.l0, if_neg (by omega), if_neg c, hI, Option.bind_some, if_pos c1, num_some]
    · have big : ∀ b : Bool, (by_ x0 = [83, 85, 77] → b = false) → ∃ r : R5, (e > 0 → r = (4, 0, (⟨#[]⟩ : ByteArray), false, e)) ∧ (¬ e > 0 → by_ x0 = [83, 85, 77] → (sumS l.sum).2 = true → r = (1, (sumS l.sum).1, (⟨#[]⟩ : ByteArray), false, 0)) ∧
          ∃ K, ∀ k, K ≤ k → builtin_all.j3 k x0 l ((l.length : Int) * 10000) true b = some r := by
        intro b hb
        cases b with
        | true =>
          obtain ⟨r, hr⟩ := ext_l (x0.toList == ([77, 65, 88] : List UInt8)) l hl l.length 0 (by omega) 0
          refine ⟨(1, r, ⟨#[]⟩, false, 0), fun h => absurd h c, fun _ h2 => absurd (hb h2) (by simp), l.length + 2, fun k hk => ?_⟩
          obtain ⟨q, rfl⟩ : ∃ q, k = q + 1 := ⟨k - 1, by omega⟩
          have : builtin_extreme.l0 q (x0.toList == ([77, 65, 88] : List UInt8)) 0 l (l.length : Int) 0 = some r := hr q (by omega)
          rw [builtin_all.j3, if_pos rfl]
          unfold builtin_extreme.f
          rw [this, Option.bind_some]
          exact num_some r
        | false =>
          have hS : ∀ q, l.length + 1 ≤ q → fixnum_Sum.f q l = some (sumS l.sum) := fun q hq => sum_f l hl (fun a ha => hi a ha) q hq
          obtain ⟨⟨s, o⟩, hs⟩ : ∃ p, sumS l.sum = p := ⟨_, rfl⟩
          have hin : int64 s := by have := sum_in l.sum; rw [hs] at this; exact this
          have H : ∀ q, l.length + 1 ≤ q → ∀ b4 : Bool, b4 = (if x0.toList = ([65, 86, 69, 82, 65, 71, 69] : List UInt8) then (l.length : Int) == 0 else false) → builtin_all.j3 (q + 1) x0 l ((l.length : Int) * 10000) true false = builtin_all.j4 q x0 ((l.length : Int) * 10000) true s o b4 := by
            intro q hq b4 hb4
            rw [builtin_all.j3, if_neg (by simp), hS q hq, hs, Option.bind_some, hb4]
            split <;> rfl
          obtain ⟨b4, hb4⟩ : ∃ b4, b4 = (if x0.toList = ([65, 86, 69, 82, 65, 71, 69] : List UInt8) then (l.length : Int) == 0 else false) := ⟨_, rfl⟩
          have hb5 : by_ x0 = [83, 85, 77] → b4 = false ∧ ¬ x0.toList = ([65, 86, 69, 82, 65, 71, 69] : List UInt8) := fun h => by
            have : ¬ x0.toList = ([65, 86, 69, 82, 65, 71, 69] : List UInt8) := by rw [to_by, h]; decide
            exact ⟨by rw [hb4, if_neg this], this⟩
          cases b4 with
          | true =>
            refine ⟨(4, 0, ⟨#[]⟩, false, 3), fun h => absurd h c, fun _ h2 => absurd (hb5 h2).1 (by simp), l.length + 3, fun k hk => ?_⟩
            obtain ⟨q, rfl⟩ : ∃ q, k = q + 2 := ⟨k - 2, by omega⟩
            rw [H (q + 1) (by omega) true hb4, builtin_all.j4, if_pos rfl, fail_some]
          | false =>
            cases o with
            | false =>
              refine ⟨(4, 0, ⟨#[]⟩, false, 4), fun h => absurd h c, fun _ _ h3 => (by rw [hs] at h3; cases h3), l.length + 4, fun k hk => ?_⟩
              obtain ⟨q, rfl⟩ : ∃ q, k = q + 3 := ⟨k - 3, by omega⟩
              rw [H (q + 2) (by omega) false hb4, builtin_all.j4, if_neg (by simp), if_neg (by simp), builtin_all.j5, if_pos rfl, fail_some]
            | true =>
              by_cases c5 : x0.toList = ([65, 86, 69, 82, 65, 71, 69] : List UInt8)
              · refine ⟨(1, (divS s ((l.length : Int) * 10000)).1, ⟨#[]⟩, false, 0), fun h => absurd h c, fun _ h2 => absurd c5 (hb5 h2).2, l.length + 4, fun k hk => ?_⟩
                obtain ⟨q, rfl⟩ : ∃ q, k = q + 3 := ⟨k - 3, by omega⟩
                have hd : div_.f s ((l.length : Int) * 10000) = some (divS s ((l.length : Int) * 10000)) := by
                  unfold div_.f
                  rw [if_pos ⟨hin, by omega, by omega⟩]
                rw [H (q + 2) (by omega) false hb4, builtin_all.j4, if_neg (by simp), if_pos rfl, builtin_all.j5, if_neg (by simp), if_pos c5, hd, Option.bind_some, num_some]
              · refine ⟨(1, s, ⟨#[]⟩, false, 0), fun h => absurd h c, fun _ _ _ => (by rw [hs]), l.length + 4, fun k hk => ?_⟩
                obtain ⟨q, rfl⟩ : ∃ q, k = q + 3 := ⟨k - 3, by omega⟩
                rw [H (q + 2) (by omega) false hb4, builtin_all.j4, if_neg (by simp), if_pos rfl, builtin_all.j5, if_neg (by simp), if_neg c5, num_some]
      obtain ⟨b, hb⟩ : ∃ b, b = (if x0.toList = ([77, 73, 78] : List UInt8) then (x0.toList == ([77, 73, 78] : List UInt8)) else (x0.toList == ([77, 65, 88] : List UInt8))) := ⟨_, rfl⟩
      obtain ⟨r, h1, h2, K, h3⟩ := big b (fun h => by rw [hb, to_by, h]; decide)
      refine ⟨r, h1, h2, K + 1, fun k hk A n => ?_⟩
      obtain ⟨q, rfl⟩ : ∃ q, k = q + 1 := ⟨k - 1, by omega⟩
      rw [builtin_all.l0, if_neg (by omega), if_neg c, hI, Option.bind_some, if_neg c1, ← h3 q (by omega), hb]
      split <;> rfl
theorem all_eq (x0 : ByteArray) (p : List Int × Int) (hl : p.1.length ≤ 1000000) (hi : ∀ a ∈ p.1, int64 a) :
    ∃ r : R5, (p.2 > 0 → r = (4, 0, (⟨#[]⟩ : ByteArray), false, p.2)) ∧ (¬ p.2 > 0 → by_ x0 = [83, 85, 77] → (sumS p.1.sum).2 = true → r = (1, (sumS p.1.sum).1, (⟨#[]⟩ : ByteArray), false, 0)) ∧
      ∀ l : List S44, (∀ a ∈ l, (∀ x ∈ a.f1, x.f2.size ≤ 1000) ∧ a.f1.length ≤ 1000) → l.length ≤ 1000 → (l.flatMap (·.f1)).foldl stepA ([], 0) = p → ∃ k, builtin_all.f k x0 l = some r := by
  obtain ⟨r, h1, h2, K, h3⟩ := tail_eq x0 p.1 p.2 hl hi
  refine ⟨r, h1, h2, fun l hX hn hp => ?_⟩
  obtain ⟨m, hm⟩ := l0_eq x0 l hX hn l.length 0 (by omega) [] 0 (by simp; omega)
  refine ⟨K + 2 + m, ?_⟩
  unfold builtin_all.f
  have := hm K
  rw [List.drop_zero, hp] at this
  refine Eq.trans this ?_
  exact h3 _ (by omega) _ _
end Go.Proofs.YtfnbflhoaemmeaaGreatDoor.EBui
end
section
namespace Go.Proofs.YtfnbflhoaemmeaaGreatDoor.EBui
open Go.RowKit Go.Lib Go.Proofs.YtfnbflhoaemmeaaGreatDoorW.PrintWords Go.Proofs.YtfnbflhoaemmeaaGreatDoorW.PrintLast Go.Proofs.YtfnbflhoaemmeaaGreatDoorW.PrintMore Go.Proofs.YtfnbflhoaemmeaaGreatDoor.Ext Go.Proofs.YtfnbflhoaemmeaaGreatDoor.EFxA Go.Proofs.YtfnbflhoaemmeaaGreatDoor.EFix Go.Proofs.YtfnbflhoaemmeaaGreatDoor.EVal
attribute [local go_sem] max2_int min2_int max_two min_two max_three min_three max_four min_four
set_option linter.unusedVariables false
set_option linter.unusedSimpArgs false
theorem may_num (n : Int) : mayS (1, n, (⟨#[]⟩ : ByteArray), false, 0) = true := by
  unfold mayS
  rfl
theorem sum_begun : ∃ k, builtin_all.f k (⟨#[83, 85, 77]⟩ : ByteArray) [⟨true, [(⟨1, 10000, (⟨#[]⟩ : ByteArray), false, 0⟩ : S24), (⟨2, 0, (⟨#[120]⟩ : ByteArray), false, 0⟩ : S24)]⟩, ⟨false, [(⟨1, 5000, (⟨#[]⟩ : ByteArray), false, 0⟩ : S24)]⟩] = some (1, 15000, (⟨#[]⟩ : ByteArray), false, 0) := by
  obtain ⟨r, h1, h2, h3⟩ := all_eq (⟨#[83, 85, 77]⟩ : ByteArray) ([10000, 5000], 0) (by decide) (by intro a ha; simp at ha; unfold int64; omega)
  have hs : sumS ([10000, 5000] : List Int).sum = (15000, true) := by decide
  have hr := h2 (by decide) rfl (by rw [hs])
  rw [hs] at hr
  subst hr
  refine h3 _ ?_ (by decide) ?_
  · intro a ha
    have q0 : ((⟨#[]⟩ : ByteArray)).size ≤ 1000 := by decide
    have q1 : ((⟨#[120]⟩ : ByteArray)).size ≤ 1000 := by decide
    simp only [List.mem_cons, List.not_mem_nil, or_false] at ha
    rcases ha with rfl | rfl
    · refine ⟨fun x hx => ?_, by decide⟩
      simp only [List.mem_cons, List.not_mem_nil, or_false] at hx
      rcases hx with rfl | rfl
      · exact q0
      · exact q1
    · refine ⟨fun x hx => ?_, by decide⟩
      simp only [List.mem_cons, List.not_mem_nil, or_false] at hx
      subst hx
      exact q0
  · have e1 : ∀ p : List Int × Int, ∀ n : Int, stepA p ⟨1, n, (⟨#[]⟩ : ByteArray), false, 0⟩ = (p.1 ++ [n], p.2) := by
      intro p n
      rw [stepA_eq, if_pos ⟨rfl, may_num n⟩]
      unfold errX wst
      rw [if_neg (by simp)]
    have e2 : ∀ p : List Int × Int, stepA p (⟨2, 0, (⟨#[120]⟩ : ByteArray), false, 0⟩ : S24) = p := by
      intro p
      rw [stepA_eq, if_neg (by simp)]
      unfold errX wst
      rw [if_neg (by simp)]
    show stepA (stepA (stepA ([], 0) (⟨1, 10000, (⟨#[]⟩ : ByteArray), false, 0⟩ : S24)) (⟨2, 0, (⟨#[120]⟩ : ByteArray), false, 0⟩ : S24)) (⟨1, 5000, (⟨#[]⟩ : ByteArray), false, 0⟩ : S24) = _
    rw [e1, e2, e1]
    rfl
theorem run_field1 (k n : Int) (t : ByteArray) (b : Bool) (e : Int) (w : World) : Sem.run Tryz.prog (Instr.field 24 (.agg #[.int .i64 k, .int .i64 n, .string t, .bool b, .int .i64 e]) 1) w = .ok (.int .i64 n) w := by kernel_rfl
attribute [local go_sem] run_field1
set_option maxHeartbeats 8000000 in
set_option maxRecDepth 100000 in
theorem begun12 (w : World) (hL : Aside0 (Lq w)) :
    Calls Tryz.prog 25 #[] w fun e w' => e = .returned (.bool true) ∧ Below w.heap.size w w' := by
  have hu44 := Tryz.underlying44
  have hu24 := Tryz.underlying24
  have HB := Aside0.mk (Below.refl w.heap.size w)
  obtain ⟨k, a4⟩ := sum_begun
  obtain ⟨y499, hy499⟩ : ∃ y_ : List (S24), y_ = [(⟨1, 10000, (⟨#[]⟩ : ByteArray), false, 0⟩ : S24), (⟨2, 0, (⟨#[120]⟩ : ByteArray), false, 0⟩ : S24)] := ⟨_, rfl⟩
  obtain ⟨y507, hy507⟩ : ∃ y_ : List (S24), y_ = [(⟨1, 5000, (⟨#[]⟩ : ByteArray), false, 0⟩ : S24)] := ⟨_, rfl⟩
  obtain ⟨y510, hy510⟩ : ∃ y_ : List (S44), y_ = [(⟨true, y499⟩ : S44), (⟨false, y507⟩ : S44)] := ⟨_, rfl⟩
  have A4 : Aside0 (builtin_all.f k (⟨#[83, 85, 77]⟩ : ByteArray) y510 = some (1, 15000, (⟨#[]⟩ : ByteArray), false, 0)) := ⟨by rw [hy510, hy499, hy507]; exact a4⟩
  have HY : Aside0 (y510.length ≤ 810000) := ⟨by rw [hy510]; exact (by decide : 2 ≤ 810000)⟩
  have Ny499 := Aside0.mk hy499
  have Ny507 := Aside0.mk hy507
  have Ny510 := Aside0.mk hy510
  clear hy499 hy507 hy510 a4
  go_enter Tryz.func25, Tryz.ntmps25
  go_wp2_with (first | ((with_reducible refine gate_callee (f := 34) rfl ?_); refine goesL_ (some 3) rfl rfl Tryz.func34 (by kernel_rfl) rfl #[.int .i64 10000] rfl (by (try simp only [List.map_toArray, List.map_cons, List.map_nil]); first | done | rfl) ?_; (with_reducible refine (counterpaneref1_Num.calls 10000 1 10000 (⟨#[]⟩ : ByteArray) false 0 _ rfl).mono ?_); rintro e w39 ⟨rfl, hb⟩; refine ⟨_, rfl, ?_⟩; have n0_ := Aside0.mk (below_step (by repeat (first | (with_reducible first | exact HB.out | apply bA | apply bN | apply bD) | exact HB.out)) hb); clear HB; have HB := n0_; clear n0_; (try clear hb); (try clear hb2); (try clear hk); (try clear hi)) | ((with_reducible refine gate_callee (f := 33) rfl ?_); refine goesL_ (some 4) rfl rfl Tryz.func33 (by kernel_rfl) rfl #[.string (⟨#[120]⟩ : ByteArray)] rfl (by (try simp only [List.map_toArray, List.map_cons, List.map_nil]); first | done | rfl) ?_; (with_reducible refine (counterpaneref1_Txt.calls (⟨#[120]⟩ : ByteArray) 2 0 (⟨#[120]⟩ : ByteArray) false 0 _ rfl).mono ?_); rintro e w40 ⟨rfl, hb⟩; refine ⟨_, rfl, ?_⟩; have n0_ := Aside0.mk (below_step (by repeat (first | (with_reducible first | exact HB.out | apply bA | apply bN | apply bD) | exact HB.out)) hb); clear HB; have HB := n0_; clear n0_; (try clear hb); (try clear hb2); (try clear hk); (try clear hi)) | ((with_reducible refine gate_dst (N := 5) rfl ?_); refine Kd.R_lit k24 _ 24 ?hg (N := 5) ?hd (xs := ([(⟨1, 10000, (⟨#[]⟩ : ByteArray), false, 0⟩ : S24), (⟨2, 0, (⟨#[120]⟩ : ByteArray), false, 0⟩ : S24)] : List (S24))) (inner := [.int .i64 1, .int .i64 10000, .string (⟨#[]⟩ : ByteArray), .bool false, .int .i64 0, .int .i64 2, .int .i64 0, .string (⟨#[120]⟩ : ByteArray), .bool false, .int .i64 0]) (ok := fun _ => True) (okp := fun _ => True) ?hr ?hp (fun _ hk => hk) trivial (Below.refl _ _) (Nat.le_refl _) (by simp) ?_; (case hd => rfl); (case hg => rfl); (case hr => first | (go_simp; done) | (go_simp; rfl)); (case hp => exact (Reps.c5 (show Kd.M k24 _ _ _ (⟨1, 10000, (⟨#[]⟩ : ByteArray), false, 0⟩ : S24) [.int .i64 1, .int .i64 10000, .string (⟨#[]⟩ : ByteArray), .bool false, .int .i64 0] from (k24_mkM _ _ _ (⟨1, 10000, (⟨#[]⟩ : ByteArray), false, 0⟩ : S24) )) (Reps.c5 (show Kd.M k24 _ _ _ (⟨2, 0, (⟨#[120]⟩ : ByteArray), false, 0⟩ : S24) [.int .i64 2, .int .i64 0, .string (⟨#[120]⟩ : ByteArray), .bool false, .int .i64 0] from (k24_mkM _ _ _ (⟨2, 0, (⟨#[120]⟩ : ByteArray), false, 0⟩ : S24) )) (Reps.none _ _)))); intro v500 w41 ho42 hb hg_ hnew_; clear hg_ hnew_; (first | rw [← Ny499.out] at ho42 | (simp only [Int.reduceToNat] at ho42; rw [← Ny499.out] at ho42)); have n0_ := Aside0.mk (Kd.R_lower ho42 (below_size (by repeat (first | (with_reducible first | exact HB.out | apply bA | apply bN | apply bD) | exact HB.out)))); have n1_ := Aside0.mk (below_step (by repeat (first | (with_reducible first | exact HB.out | apply bA | apply bN | apply bD) | exact HB.out)) hb); clear HB; have HO501 := n0_; have HB := n1_; clear n0_ n1_; clear hb ho42; obtain ⟨Ao43, co43, eo43⟩ := Kd.R_slice HO501.out; subst eo43) | ((with_reducible refine gate_callee (f := 34) rfl ?_); refine goesL_ (some 7) rfl rfl Tryz.func34 (by kernel_rfl) rfl #[.int .i64 5000] rfl (by (try simp only [List.map_toArray, List.map_cons, List.map_nil]); first | done | rfl) ?_; (with_reducible refine (counterpaneref1_Num.calls 5000 1 5000 (⟨#[]⟩ : ByteArray) false 0 _ rfl).mono ?_); rintro e w44 ⟨rfl, hb⟩; refine ⟨_, rfl, ?_⟩; have n0_ := Aside0.mk (Kd.R_below (by (with_reducible repeat (first | apply Kd.R_alloc | apply Kd.R_drewN | apply Kd.R_drew)); exact HO501.out) hb); have n1_ := Aside0.mk (below_step (by repeat (first | (with_reducible first | exact HB.out | apply bA | apply bN | apply bD) | exact HB.out)) hb); clear HO501; clear HB; have HO501 := n0_; have HB := n1_; clear n0_ n1_; (try clear hb); (try clear hb2); (try clear hk); (try clear hi)) | ((with_reducible refine gate_dst (N := 8) rfl ?_); refine Kd.R_lit k24 _ 24 ?hg (N := 8) ?hd (xs := ([(⟨1, 5000, (⟨#[]⟩ : ByteArray), false, 0⟩ : S24)] : List (S24))) (inner := [.int .i64 1, .int .i64 5000, .string (⟨#[]⟩ : ByteArray), .bool false, .int .i64 0]) (ok := fun _ => True) (okp := fun _ => True) ?hr ?hp (fun _ hk => hk) trivial (Below.refl _ _) (Nat.le_refl _) (by simp) ?_; (case hd => rfl); (case hg => rfl); (case hr => first | (go_simp; done) | (go_simp; rfl)); (case hp => exact (Reps.c5 (show Kd.M k24 _ _ _ (⟨1, 5000, (⟨#[]⟩ : ByteArray), false, 0⟩ : S24) [.int .i64 1, .int .i64 5000, .string (⟨#[]⟩ : ByteArray), .bool false, .int .i64 0] from (k24_mkM _ _ _ (⟨1, 5000, (⟨#[]⟩ : ByteArray), false, 0⟩ : S24) )) (Reps.none _ _))); intro v508 w45 ho46 hb hg_ hnew_; clear hg_ hnew_; (first | rw [← Ny507.out] at ho46 | (simp only [Int.reduceToNat] at ho46; rw [← Ny507.out] at ho46)); have n0_ := Aside0.mk (Kd.R_elder' (by (with_reducible repeat (first | apply Kd.R_alloc | apply Kd.R_drewN | apply Kd.R_drew)); exact HO501.out) (Kd.R_base ho46) hb); have n1_ := Aside0.mk (Kd.R_lower (Kd.R_new' ho46 (Kd.R_lt (by (with_reducible repeat (first | apply Kd.R_alloc | apply Kd.R_drewN | apply Kd.R_drew)); exact HO501.out))) (below_size (by repeat (first | (with_reducible first | exact HB.out | apply bA | apply bN | apply bD) | exact HB.out)))); have n2_ := Aside0.mk (below_step (by repeat (first | (with_reducible first | exact HB.out | apply bA | apply bN | apply bD) | exact HB.out)) hb); clear HO501; clear HB; have HO501 := n0_; have HO509 := n1_; have HB := n2_; clear n0_ n1_ n2_; clear hb ho46; obtain ⟨Ao47, co47, eo47⟩ := Kd.R_slice HO509.out; subst eo47) | ((with_reducible refine gate_dst (N := 10) rfl ?_); refine Kd.N_lit k44 _ 44 ?hg (N' := 10) ?hd (xs := ([(⟨true, y499⟩ : S44), (⟨false, y507⟩ : S44)] : List (S44))) (inner := [.bool true, .slice Ao43 y499.length co43, .bool false, .slice Ao47 y507.length co47]) (ok := (fun _ => True)) (okp := (fun _ => True)) ?hr ?hp (fun _ hk => hk) ((show ∀ k_, w45.heap.size ≤ k_ → (fun _ => True) k_ from fun k_ hk => trivial) _ (Nat.le_refl _)) (Below.refl _ _) (Nat.le_refl _) (by simp) ?_; (case hd => rfl); (case hg => rfl); (case hr => first | (go_simp; done) | (go_simp; rfl)); (case hp => exact (Reps.c2 (show Kd.FK k44 _ _ (⟨true, y499⟩ : S44) [.bool true, .slice Ao43 y499.length co43] from (k44_mkF _ _ (⟨true, y499⟩ : S44) (Kd.R_reads' (Kd.R_mono (ok' := (fun _ => True)) (HO501.out) (fun k_ hk => trivial))).2.1 (Kd.R_F (Kd.R_mono (ok' := (fun _ => True)) (HO501.out) (fun k_ hk => trivial))))) (Reps.c2 (show Kd.FK k44 _ _ (⟨false, y507⟩ : S44) [.bool false, .slice Ao47 y507.length co47] from (k44_mkF _ _ (⟨false, y507⟩ : S44) (Kd.R_reads' (Kd.R_mono (ok' := (fun _ => True)) (HO509.out) (fun k_ hk => trivial))).2.1 (Kd.R_F (Kd.R_mono (ok' := (fun _ => True)) (HO509.out) (fun k_ hk => trivial))))) (Reps.none _ _)))); intro v511 w48 ho49 hb hg_ hnew_; clear hg_ hnew_; (first | rw [← Ny510.out] at ho49 | (simp only [Int.reduceToNat] at ho49; rw [← Ny510.out] at ho49)); have n0_ := Aside0.mk (Kd.N_lower ho49 (below_size (by repeat (first | (with_reducible first | exact HB.out | apply bA | apply bN | apply bD) | exact HB.out)))); have n1_ := Aside0.mk (below_step (by repeat (first | (with_reducible first | exact HB.out | apply bA | apply bN | apply bD) | exact HB.out)) hb); clear HB; clear HO501; clear HO509; have HO512 := n0_; have HB := n1_; clear n0_ n1_; clear hb ho49; obtain ⟨Ao50, co50, eo50⟩ := Kd.N_slice HO512.out; subst eo50) | ((with_reducible refine gate_callee (f := 28) rfl ?_); refine goesL_ (some 11) rfl rfl Tryz.func28 (by kernel_rfl) rfl #[.string (⟨#[83, 85, 77]⟩ : ByteArray), .slice Ao50 y510.length co50] rfl (by (try simp only [List.map_toArray, List.map_cons, List.map_nil]); first | done | rfl) ?_; (with_reducible refine (call_all (hL := ⟨by first | exact hL.out | (refine hL.out.drawn ?_; (repeat (first | exact Drawn0.refl _ | apply Drawn0.step)); done) | (refine hL.out.below ?_; (repeat (first | (with_reducible first | exact HB.out | apply bA | apply bN | apply bD | refine below_set ?_ GE518.out | refine below_set ?_ GE534.out) | exact HB.out)); done)⟩) k (⟨#[83, 85, 77]⟩ : ByteArray) arity_SUM _ _ y510 HY.out 1 15000 (⟨#[]⟩ : ByteArray) false 0 _ ?side1 ?side2 A4.out).mono ?_); (case side1 => repeat (first | exact (Kd.N_reads' HO512.out).2.2 | (with_reducible refine Kd.C_alloc ?_ _) | (with_reducible refine Kd.C_drewN ?_ _) | (with_reducible refine Kd.C_drew ?_))); (case side2 => exact (Kd.N_reads' HO512.out).2.1); rintro e w51 ⟨rfl, hb⟩; refine ⟨_, rfl, ?_⟩; have n0_ := Aside0.mk (Kd.N_below (by (with_reducible repeat (first | apply Kd.N_alloc | apply Kd.N_drewN | apply Kd.N_drew)); exact HO512.out) hb); have n1_ := Aside0.mk (below_step (by repeat (first | (with_reducible first | exact HB.out | apply bA | apply bN | apply bD) | exact HB.out)) hb); clear HO512; clear HB; have HO512 := n0_; have HB := n1_; clear n0_ n1_; (try clear hb); (try clear hb2); (try clear hk); (try clear hi)) | ((with_reducible refine gate_dst (N := 1) rfl ?_); refine box_event ?hg (N := 1) ?hd (cs := #[.int .i64 0, .int .i64 0, .string (⟨#[]⟩ : ByteArray), .bool false, .int .i64 0]) (t := 24) ?hr ?_; (case hd => rfl); (case hg => rfl); (case hr => first | (go_simp; done) | (go_simp; rfl)); intro gb518 hg w52 hbox hb; have n0_ := Aside0.mk (Kd.N_below (Kd.N_elderB (by (with_reducible repeat (first | apply Kd.N_alloc | apply Kd.N_drewN | apply Kd.N_drew)); exact HO512.out) gb518 (Nat.le_of_eq hg.symm)) hb); have n1_ := Aside0.mk (below_step (by repeat (first | (with_reducible first | exact HB.out | apply bA | apply bN | apply bD) | exact HB.out)) hb); have n2_ := Aside0.mk (hbox); have n3_ := Aside0.mk ((by rw [hg]; exact (below_size (by repeat (first | (with_reducible first | exact HB.out | apply bA | apply bN | apply bD) | exact HB.out))) : w.heap.size ≤ gb518)); have n4_ := Aside0.mk ((by rw [hg]; exact (below_size (by repeat (first | (with_reducible first | exact HB.out | apply bA | apply bN | apply bD) | exact HB.out))) : w.heap.size ≤ gb518)); clear HO512; clear HB; have HO512 := n0_; have HB := n1_; have BK518 := n2_; have GW518 := n3_; have GE518 := n4_; clear n0_ n1_ n2_ n3_ n4_; clear hb hbox hg; have hcz53_0 : w52.cell? ⟨gb518, 0, none⟩ = some (.int .i64 0) := (blk_cell BK518.out 0).trans rfl; have hcz53_1 : w52.cell? ⟨gb518, 1, none⟩ = some (.int .i64 0) := (blk_cell BK518.out 1).trans rfl; have hcz53_2 : w52.cell? ⟨gb518, 2, none⟩ = some (.string (⟨#[]⟩ : ByteArray)) := (blk_cell BK518.out 2).trans rfl; have hcz53_3 : w52.cell? ⟨gb518, 3, none⟩ = some (.bool false) := (blk_cell BK518.out 3).trans rfl; have hcz53_4 : w52.cell? ⟨gb518, 4, none⟩ = some (.int .i64 0) := (blk_cell BK518.out 4).trans rfl; have hfz53_0 := blk_frozen BK518.out 0; have hfz53_1 := blk_frozen BK518.out 1; have hfz53_2 := blk_frozen BK518.out 2; have hfz53_3 := blk_frozen BK518.out 3; have hfz53_4 := blk_frozen BK518.out 4) | ((with_reducible refine gate_callee (f := 34) rfl ?_); refine goesL_ (some 12) rfl rfl Tryz.func34 (by kernel_rfl) rfl #[.int .i64 1] rfl (by (try simp only [List.map_toArray, List.map_cons, List.map_nil]); first | done | rfl) ?_; (with_reducible refine (counterpaneref1_Num.calls 1 1 1 (⟨#[]⟩ : ByteArray) false 0 _ rfl).mono ?_); rintro e w54 ⟨rfl, hb⟩; refine ⟨_, rfl, ?_⟩; have n0_ := Aside0.mk (Kd.N_below (by (with_reducible repeat (first | apply Kd.N_alloc | apply Kd.N_drewN | apply Kd.N_drew)); exact (Kd.N_mono (Kd.N_far (p := ⟨gb518, 4, none⟩) (Kd.N_far (p := ⟨gb518, 3, none⟩) (Kd.N_far (p := ⟨gb518, 2, none⟩) (Kd.N_far (p := ⟨gb518, 1, none⟩) (Kd.N_far (p := ⟨gb518, 0, none⟩) (Kd.N_mono HO512.out (fun k_ hk => (⟨hk, hk.2⟩ : _ ∧ k_ ≠ gb518))) (fun _ hk => hk.2) (.int .i64 1)) (fun _ hk => hk.2) (.int .i64 15000)) (fun _ hk => hk.2) (.string (⟨#[]⟩ : ByteArray))) (fun _ hk => hk.2) (.bool false)) (fun _ hk => hk.2) (.int .i64 0)) (fun _ h_ => h_.1))) hb); have n1_ := Aside0.mk (blk_below (g := gb518) (o := .cells #[.int .i64 1, .int .i64 15000, .string (⟨#[]⟩ : ByteArray), .bool false, .int .i64 0] 24 (0, 0)) (by (with_reducible repeat (first | refine blk_drewN ?_ _ | refine blk_drew ?_ | refine blk_alloc ?_ _)); refine blk_put (cs := #[.int .i64 1, .int .i64 15000, .string (⟨#[]⟩ : ByteArray), .bool false, .int .i64 0]) ?_ 4 _ rfl; (with_reducible repeat (first | refine blk_drewN ?_ _ | refine blk_drew ?_ | refine blk_alloc ?_ _)); refine blk_put (cs := #[.int .i64 1, .int .i64 15000, .string (⟨#[]⟩ : ByteArray), .bool false, .int .i64 0]) ?_ 3 _ rfl; (with_reducible repeat (first | refine blk_drewN ?_ _ | refine blk_drew ?_ | refine blk_alloc ?_ _)); refine blk_put (cs := #[.int .i64 1, .int .i64 15000, .string (⟨#[]⟩ : ByteArray), .bool false, .int .i64 0]) ?_ 2 _ rfl; (with_reducible repeat (first | refine blk_drewN ?_ _ | refine blk_drew ?_ | refine blk_alloc ?_ _)); refine blk_put (cs := #[.int .i64 1, .int .i64 0, .string (⟨#[]⟩ : ByteArray), .bool false, .int .i64 0]) ?_ 1 _ rfl; (with_reducible repeat (first | refine blk_drewN ?_ _ | refine blk_drew ?_ | refine blk_alloc ?_ _)); refine blk_put (cs := #[.int .i64 0, .int .i64 0, .string (⟨#[]⟩ : ByteArray), .bool false, .int .i64 0]) ?_ 0 _ rfl; (with_reducible repeat (first | refine blk_drewN ?_ _ | refine blk_drew ?_ | refine blk_alloc ?_ _)); exact BK518.out) hb); have n2_ := Aside0.mk (below_step (by repeat (first | (with_reducible first | exact HB.out | apply bA | apply bN | apply bD | refine below_set ?_ GE518.out) | exact HB.out)) hb); clear HO512; clear BK518; clear HB; have HO512 := n0_; have BK518 := n1_; have HB := n2_; clear n0_ n1_ n2_; (try clear hb); (try clear hb2); (try clear hk); (try clear hi)) | ((with_reducible refine gate_callee (f := 34) rfl ?_); refine goesL_ (some 13) rfl rfl Tryz.func34 (by kernel_rfl) rfl #[.int .i64 0] rfl (by (try simp only [List.map_toArray, List.map_cons, List.map_nil]); first | done | rfl) ?_; (with_reducible refine (counterpaneref1_Num.calls 0 1 0 (⟨#[]⟩ : ByteArray) false 0 _ rfl).mono ?_); rintro e w55 ⟨rfl, hb⟩; refine ⟨_, rfl, ?_⟩; have n0_ := Aside0.mk (Kd.N_below (by (with_reducible repeat (first | apply Kd.N_alloc | apply Kd.N_drewN | apply Kd.N_drew)); exact HO512.out) hb); have n1_ := Aside0.mk (blk_below (g := gb518) (o := .cells #[.int .i64 1, .int .i64 15000, .string (⟨#[]⟩ : ByteArray), .bool false, .int .i64 0] 24 (0, 0)) (by (with_reducible repeat (first | refine blk_drewN ?_ _ | refine blk_drew ?_ | refine blk_alloc ?_ _)); exact BK518.out) hb); have n2_ := Aside0.mk (below_step (by repeat (first | (with_reducible first | exact HB.out | apply bA | apply bN | apply bD | refine below_set ?_ GE518.out) | exact HB.out)) hb); clear HO512; clear BK518; clear HB; have HO512 := n0_; have BK518 := n1_; have HB := n2_; clear n0_ n1_ n2_; (try clear hb); (try clear hb2); (try clear hk); (try clear hi)) | ((with_reducible refine gate_callee (f := 31) rfl ?_); refine goesL_ (some 14) rfl rfl Tryz.func31 (by kernel_rfl) rfl #[.string (⟨#[47]⟩ : ByteArray), .agg #[.int .i64 1, .int .i64 1, .string (⟨#[]⟩ : ByteArray), .bool false, .int .i64 0], .agg #[.int .i64 1, .int .i64 0, .string (⟨#[]⟩ : ByteArray), .bool false, .int .i64 0]] rfl (by (try simp only [List.map_toArray, List.map_cons, List.map_nil]); first | done | rfl) ?_; (with_reducible refine (binary_div (w := _) (hL := ⟨by first | exact hL.out | (refine hL.out.drawn ?_; (repeat (first | exact Drawn0.refl _ | apply Drawn0.step)); done) | (refine hL.out.below ?_; (repeat (first | (with_reducible first | exact HB.out | apply bA | apply bN | apply bD | refine below_set ?_ GE518.out | refine below_set ?_ GE534.out) | exact HB.out)); done)⟩)).mono ?_); rintro e w56 ⟨rfl, hb⟩; refine ⟨_, rfl, ?_⟩; have n0_ := Aside0.mk (Kd.N_below (by (with_reducible repeat (first | apply Kd.N_alloc | apply Kd.N_drewN | apply Kd.N_drew)); exact HO512.out) hb); have n1_ := Aside0.mk (blk_below (g := gb518) (o := .cells #[.int .i64 1, .int .i64 15000, .string (⟨#[]⟩ : ByteArray), .bool false, .int .i64 0] 24 (0, 0)) (by (with_reducible repeat (first | refine blk_drewN ?_ _ | refine blk_drew ?_ | refine blk_alloc ?_ _)); exact BK518.out) hb); have n2_ := Aside0.mk (below_step (by repeat (first | (with_reducible first | exact HB.out | apply bA | apply bN | apply bD | refine below_set ?_ GE518.out) | exact HB.out)) hb); clear HO512; clear BK518; clear HB; have HO512 := n0_; have BK518 := n1_; have HB := n2_; clear n0_ n1_ n2_; (try clear hb); (try clear hb2); (try clear hk); (try clear hi)) | ((with_reducible refine gate_dst (N := 2) rfl ?_); refine box_event ?hg (N := 2) ?hd (cs := #[.int .i64 0, .int .i64 0, .string (⟨#[]⟩ : ByteArray), .bool false, .int .i64 0]) (t := 24) ?hr ?_; (case hd => rfl); (case hg => rfl); (case hr => first | (go_simp; done) | (go_simp; rfl)); intro gb534 hg w57 hbox hb; have n0_ := Aside0.mk (Kd.N_below (Kd.N_elderB (by (with_reducible repeat (first | apply Kd.N_alloc | apply Kd.N_drewN | apply Kd.N_drew)); exact HO512.out) gb534 (Nat.le_of_eq hg.symm)) hb); have n1_ := Aside0.mk (blk_below (g := gb518) (o := .cells #[.int .i64 1, .int .i64 15000, .string (⟨#[]⟩ : ByteArray), .bool false, .int .i64 0] 24 (0, 0)) (by (with_reducible repeat (first | refine blk_drewN ?_ _ | refine blk_drew ?_ | refine blk_alloc ?_ _)); exact BK518.out) hb); have n2_ := Aside0.mk (below_step (by repeat (first | (with_reducible first | exact HB.out | apply bA | apply bN | apply bD | refine below_set ?_ GE518.out) | exact HB.out)) hb); have n3_ := Aside0.mk (hbox); have n4_ := Aside0.mk ((by rw [hg]; exact (below_size (by repeat (first | (with_reducible first | exact HB.out | apply bA | apply bN | apply bD | refine below_set ?_ GE518.out) | exact HB.out))) : w.heap.size ≤ gb534)); have n5_ := Aside0.mk ((by rw [hg]; exact (below_size (by repeat (first | (with_reducible first | exact HB.out | apply bA | apply bN | apply bD | refine below_set ?_ GE518.out) | exact HB.out))) : w.heap.size ≤ gb534)); have n6_ := Aside0.mk ((by rw [hg]; exact Nat.ne_of_lt (blk_lt (g := gb518) (o := .cells #[.int .i64 1, .int .i64 15000, .string (⟨#[]⟩ : ByteArray), .bool false, .int .i64 0] 24 (0, 0)) (by (with_reducible repeat (first | refine blk_drewN ?_ _ | refine blk_drew ?_ | refine blk_alloc ?_ _)); exact BK518.out)) : gb518 ≠ gb534)); have n7_ := Aside0.mk ((by rw [hg]; exact Nat.ne_of_gt (blk_lt (g := gb518) (o := .cells #[.int .i64 1, .int .i64 15000, .string (⟨#[]⟩ : ByteArray), .bool false, .int .i64 0] 24 (0, 0)) (by (with_reducible repeat (first | refine blk_drewN ?_ _ | refine blk_drew ?_ | refine blk_alloc ?_ _)); exact BK518.out)) : gb534 ≠ gb518)); clear HO512; clear BK518; clear HB; have HO512 := n0_; have BK518 := n1_; have HB := n2_; have BK534 := n3_; have GW534 := n4_; have GE534 := n5_; have NB518_534 := n6_; have NB534_518 := n7_; clear n0_ n1_ n2_ n3_ n4_ n5_ n6_ n7_; clear hb hbox hg; have hnb58 := NB534_518.out; have hnc58 := NB518_534.out; have hcz59_0 : w57.cell? ⟨gb534, 0, none⟩ = some (.int .i64 0) := (blk_cell BK534.out 0).trans rfl; have hcz59_1 : w57.cell? ⟨gb534, 1, none⟩ = some (.int .i64 0) := (blk_cell BK534.out 1).trans rfl; have hcz59_2 : w57.cell? ⟨gb534, 2, none⟩ = some (.string (⟨#[]⟩ : ByteArray)) := (blk_cell BK534.out 2).trans rfl; have hcz59_3 : w57.cell? ⟨gb534, 3, none⟩ = some (.bool false) := (blk_cell BK534.out 3).trans rfl; have hcz59_4 : w57.cell? ⟨gb534, 4, none⟩ = some (.int .i64 0) := (blk_cell BK534.out 4).trans rfl; have hfz59_0 := blk_frozen BK534.out 0; have hfz59_1 := blk_frozen BK534.out 1; have hfz59_2 := blk_frozen BK534.out 2; have hfz59_3 := blk_frozen BK534.out 3; have hfz59_4 := blk_frozen BK534.out 4; have hcz60_0 : w57.cell? ⟨gb518, 0, none⟩ = some (.int .i64 1) := (blk_cell BK518.out 0).trans rfl; have hcz60_1 : w57.cell? ⟨gb518, 1, none⟩ = some (.int .i64 15000) := (blk_cell BK518.out 1).trans rfl; have hcz60_2 : w57.cell? ⟨gb518, 2, none⟩ = some (.string (⟨#[]⟩ : ByteArray)) := (blk_cell BK518.out 2).trans rfl; have hcz60_3 : w57.cell? ⟨gb518, 3, none⟩ = some (.bool false) := (blk_cell BK518.out 3).trans rfl; have hcz60_4 : w57.cell? ⟨gb518, 4, none⟩ = some (.int .i64 0) := (blk_cell BK518.out 4).trans rfl; have hfz60_0 := blk_frozen BK518.out 0; have hfz60_1 := blk_frozen BK518.out 1; have hfz60_2 := blk_frozen BK518.out 2; have hfz60_3 := blk_frozen BK518.out 3; have hfz60_4 := blk_frozen BK518.out 4) | (go_at_call 51; (with_reducible refine (known_IF _).mono ?_); rintro e w' ⟨rfl, ⟨nd, rfl⟩⟩) | (go_at_call 51; (with_reducible refine (known_if _).mono ?_); rintro e w' ⟨rfl, ⟨nd, rfl⟩⟩) | (go_at_call 34; (with_reducible refine (counterpaneref1_Num.calls 3 1 3 (⟨#[]⟩ : ByteArray) false 0 _ rfl).mono ?_); rintro e w61 ⟨rfl, hb⟩; have n0_ := Aside0.mk (Kd.N_below (by (with_reducible repeat (first | apply Kd.N_alloc | apply Kd.N_drewN | apply Kd.N_drew)); exact (Kd.N_mono (Kd.N_far (p := ⟨gb534, 4, none⟩) (Kd.N_far (p := ⟨gb534, 3, none⟩) (Kd.N_far (p := ⟨gb534, 2, none⟩) (Kd.N_far (p := ⟨gb534, 1, none⟩) (Kd.N_far (p := ⟨gb534, 0, none⟩) (Kd.N_mono HO512.out (fun k_ hk => (⟨hk, hk.2⟩ : _ ∧ k_ ≠ gb534))) (fun _ hk => hk.2) (.int .i64 4)) (fun _ hk => hk.2) (.int .i64 0)) (fun _ hk => hk.2) (.string (⟨#[]⟩ : ByteArray))) (fun _ hk => hk.2) (.bool false)) (fun _ hk => hk.2) (.int .i64 3)) (fun _ h_ => h_.1))) hb); have n1_ := Aside0.mk (blk_below (g := gb518) (o := .cells #[.int .i64 1, .int .i64 15000, .string (⟨#[]⟩ : ByteArray), .bool false, .int .i64 0] 24 (0, 0)) (by (with_reducible repeat (first | refine blk_drewN ?_ _ | refine blk_drew ?_ | refine blk_alloc ?_ _)); refine blk_far ?_ NB518_534.out _; (with_reducible repeat (first | refine blk_drewN ?_ _ | refine blk_drew ?_ | refine blk_alloc ?_ _)); refine blk_far ?_ NB518_534.out _; (with_reducible repeat (first | refine blk_drewN ?_ _ | refine blk_drew ?_ | refine blk_alloc ?_ _)); refine blk_far ?_ NB518_534.out _; (with_reducible repeat (first | refine blk_drewN ?_ _ | refine blk_drew ?_ | refine blk_alloc ?_ _)); refine blk_far ?_ NB518_534.out _; (with_reducible repeat (first | refine blk_drewN ?_ _ | refine blk_drew ?_ | refine blk_alloc ?_ _)); refine blk_far ?_ NB518_534.out _; (with_reducible repeat (first | refine blk_drewN ?_ _ | refine blk_drew ?_ | refine blk_alloc ?_ _)); exact BK518.out) hb); have n2_ := Aside0.mk (blk_below (g := gb534) (o := .cells #[.int .i64 4, .int .i64 0, .string (⟨#[]⟩ : ByteArray), .bool false, .int .i64 3] 24 (0, 0)) (by (with_reducible repeat (first | refine blk_drewN ?_ _ | refine blk_drew ?_ | refine blk_alloc ?_ _)); refine blk_put (cs := #[.int .i64 4, .int .i64 0, .string (⟨#[]⟩ : ByteArray), .bool false, .int .i64 0]) ?_ 4 _ rfl; (with_reducible repeat (first | refine blk_drewN ?_ _ | refine blk_drew ?_ | refine blk_alloc ?_ _)); refine blk_put (cs := #[.int .i64 4, .int .i64 0, .string (⟨#[]⟩ : ByteArray), .bool false, .int .i64 0]) ?_ 3 _ rfl; (with_reducible repeat (first | refine blk_drewN ?_ _ | refine blk_drew ?_ | refine blk_alloc ?_ _)); refine blk_put (cs := #[.int .i64 4, .int .i64 0, .string (⟨#[]⟩ : ByteArray), .bool false, .int .i64 0]) ?_ 2 _ rfl; (with_reducible repeat (first | refine blk_drewN ?_ _ | refine blk_drew ?_ | refine blk_alloc ?_ _)); refine blk_put (cs := #[.int .i64 4, .int .i64 0, .string (⟨#[]⟩ : ByteArray), .bool false, .int .i64 0]) ?_ 1 _ rfl; (with_reducible repeat (first | refine blk_drewN ?_ _ | refine blk_drew ?_ | refine blk_alloc ?_ _)); refine blk_put (cs := #[.int .i64 0, .int .i64 0, .string (⟨#[]⟩ : ByteArray), .bool false, .int .i64 0]) ?_ 0 _ rfl; (with_reducible repeat (first | refine blk_drewN ?_ _ | refine blk_drew ?_ | refine blk_alloc ?_ _)); exact BK534.out) hb); have n3_ := Aside0.mk (below_step (by repeat (first | (with_reducible first | exact HB.out | apply bA | apply bN | apply bD | refine below_set ?_ GE518.out | refine below_set ?_ GE534.out) | exact HB.out)) hb); clear HO512; clear BK518; clear BK534; clear HB; have HO512 := n0_; have BK518 := n1_; have BK534 := n2_; have HB := n3_; clear n0_ n1_ n2_ n3_; (try clear hb); (try clear hb2); (try clear hk); (try clear hi)) | (go_at_call 52; (with_reducible refine (neg_3 (w := _) (hL := ⟨by first | exact hL.out | (refine hL.out.drawn ?_; (repeat (first | exact Drawn0.refl _ | apply Drawn0.step)); done) | (refine hL.out.below ?_; (repeat (first | (with_reducible first | exact HB.out | apply bA | apply bN | apply bD | refine below_set ?_ GE518.out | refine below_set ?_ GE534.out) | exact HB.out)); done)⟩)).mono ?_); rintro e w62 ⟨rfl, hb⟩; have n0_ := Aside0.mk (Kd.N_below (by (with_reducible repeat (first | apply Kd.N_alloc | apply Kd.N_drewN | apply Kd.N_drew)); exact HO512.out) hb); have n1_ := Aside0.mk (blk_below (g := gb518) (o := .cells #[.int .i64 1, .int .i64 15000, .string (⟨#[]⟩ : ByteArray), .bool false, .int .i64 0] 24 (0, 0)) (by (with_reducible repeat (first | refine blk_drewN ?_ _ | refine blk_drew ?_ | refine blk_alloc ?_ _)); exact BK518.out) hb); have n2_ := Aside0.mk (blk_below (g := gb534) (o := .cells #[.int .i64 4, .int .i64 0, .string (⟨#[]⟩ : ByteArray), .bool false, .int .i64 3] 24 (0, 0)) (by (with_reducible repeat (first | refine blk_drewN ?_ _ | refine blk_drew ?_ | refine blk_alloc ?_ _)); exact BK534.out) hb); have n3_ := Aside0.mk (below_step (by repeat (first | (with_reducible first | exact HB.out | apply bA | apply bN | apply bD | refine below_set ?_ GE518.out | refine below_set ?_ GE534.out) | exact HB.out)) hb); clear HO512; clear BK518; clear BK534; clear HB; have HO512 := n0_; have BK518 := n1_; have BK534 := n2_; have HB := n3_; clear n0_ n1_ n2_ n3_; (try clear hb); (try clear hb2); (try clear hk); (try clear hi)))
  go_ret
  exact ⟨by first | rfl | (simp; done) | (simp [*]; done), by repeat (first | (with_reducible first | exact HB.out | apply bA | apply bN | apply bD | refine below_set ?_ GE518.out | refine below_set ?_ GE534.out) | exact HB.out)⟩
end Go.Proofs.YtfnbflhoaemmeaaGreatDoor.EBui
end
section
namespace Go.Proofs.YtfnbflhoaemmeaaGreatDoor.EBui
open Go.RowKit Go.Proofs.YtfnbflhoaemmeaaGreatDoor.Ext Go.Proofs.YtfnbflhoaemmeaaGreatDoor.EFxA Go.Proofs.YtfnbflhoaemmeaaGreatDoor.EFix Go.Proofs.YtfnbflhoaemmeaaGreatDoor.EVal Go.Proofs.YtfnbflhoaemmeaaGreatDoorW.PrintWords Go.Proofs.YtfnbflhoaemmeaaGreatDoorW.PrintLast Go.Proofs.YtfnbflhoaemmeaaGreatDoorW.PrintMore
attribute [local go_sem] max2_int min2_int max_two min_two max_three min_three max_four min_four   
set_option linter.unusedVariables false
set_option linter.unusedSimpArgs false
def counterpanelaw2_CutAll.l0 : Nat → List (S24) → Int → List (S24) → Int → Option ((List (S24)))
  | 0, _, _, _, _ => none
  | k + 1, x0, x1, x5, x6 => if x6 < (x0.length : Int) then (if x6 < x1 then (if 0 ≤ x6 then ((counterpanelaw2_Cut.f ((rd_T24 x0 x6).f0) ((rd_T24 x0 x6).f1) ((rd_T24 x0 x6).f2) ((rd_T24 x0 x6).f3) ((rd_T24 x0 x6).f4)).bind fun bt550 => (if x5.length < 2932031007402 then (counterpanelaw2_CutAll.l0 k x0 x1 (x5 ++ [(⟨bt550.1, bt550.2.1, bt550.2.2.1, bt550.2.2.2.1, bt550.2.2.2.2⟩ : S24)]) (wrap64 (x6 + 1))) else (none))) else (none)) else (some x5)) else (some x5)
def counterpanelaw2_CutAll.f (k : Nat) (l0 : List (S24)) (a1 : Int) : Option ((List (S24))) := counterpanelaw2_CutAll.l0 k l0 a1 ([] : List (S24)) 0
set_option maxHeartbeats 8000000 in
set_option maxRecDepth 100000 in
theorem counterpanelaw2_CutAll.calls (k : Nat) (A0 : Option Addr) (c0 : Nat) (l0 : List (S24)) (a1 : Int) (r : List (S24)) (w : World) (hr0 : Kd.C k24 w A0 l0.length l0) (hc0 : l0.length ≤ c0) (h : counterpanelaw2_CutAll.f k l0 a1 = some r) :
    Calls Tryz.prog 26 #[.slice A0 l0.length c0, .int .i64 a1] w fun e w' => ∃ v0_ : Value, e = .returned (v0_) ∧ Kd.R k24 24 w' w.heap.size (fun _ => True) v0_ r ∧ Below w.heap.size w w' := by
  have hu24 := Tryz.underlying24
  have HR0 := Aside0.mk hr0
  have HC0 := Aside0.mk hc0
  clear hr0 hc0
  have HB := Aside0.mk (Below.refl w.heap.size w)
  have H : (counterpanelaw2_CutAll.l0 k l0 a1 ([] : List (S24)) 0) = some r := h
  clear h
  have H' := Aside0.mk H
  clear H
  go_enter Tryz.func26, Tryz.ntmps26
  go_wp2
  go_loopg [5, 6] k (fun kq v5 v6 w' => ∃ (x5_1 : List (S24)) (x6_1 : Int), v6 = .int .i64 x6_1 ∧ Aside0 (counterpanelaw2_CutAll.l0 kq l0 a1 x5_1 x6_1 = some r) ∧ Aside0 (kq ≤ k) ∧ Aside0 (Kd.R k24 24 w' w.heap.size (fun _ => True) v5 x5_1) ∧ Aside0 (Below w.heap.size w w'))
  case atStart => exact ⟨(([] : List (S24))), (0), (by first | rfl | (simp; done) | (simp [*]; done)), H', ⟨Nat.le_refl _⟩, ⟨by first | exact Kd.R_nil _ _ _ _ _ | exact Kd.N_nil _ _ _ _ _ | exact Kd.V_nil _ _ _ _ _ | exact Kd.Q_nil _ _ _ _ _ | exact Kd.S_nil _ _ _ _ _⟩, ⟨by repeat (first | (with_reducible first | exact HB.out | apply below_alloc | apply pw_below_drewN | apply below_drew1) | exact HB.out)⟩⟩
  case round =>
    clear H'
    try clear c2
    try clear p2
    obtain ⟨x5_1, x6_1, rfl, HA, HK1, HO_5, HB⟩ := hrel
    cases gk with
    | zero => exact absurd HA.out (by simp [counterpanelaw2_CutAll.l0])
    | succ k1 =>
      have H := HA.out
      clear HA
      simp only [counterpanelaw2_CutAll.l0] at H
      by_cases c3 : x6_1 < (l0.length : Int)
      · rw [if_pos c3] at H
        have c3b0 : decide (x6_1 < (l0.length : Int)) = true := decide_eq_true c3
        clear c3
        by_cases c4 : x6_1 < a1
        · rw [if_pos c4] at H
          have c4b0 : decide (x6_1 < a1) = true := decide_eq_true c4
          clear c4
          by_cases c5 : 0 ≤ x6_1
          · rw [if_pos c5] at H
            have c5b0 : decide (0 ≤ x6_1) = true := decide_eq_true c5
            clear c5
            replace H := Option.bind_eq_some_iff.mp H
            obtain ⟨⟨t550, t551, t552, t553, t554⟩, A60, H⟩ := H
            replace H : (if x5_1.length < 2932031007402 then (counterpanelaw2_CutAll.l0 k1 l0 a1 (x5_1 ++ [(⟨t550, t551, t552, t553, t554⟩ : S24)]) (wrap64 (x6_1 + 1))) else (none)) = some r := H
            have A6 := Aside0.mk A60
            clear A60
            by_cases c7 : x5_1.length < 2932031007402
            · rw [if_pos c7] at H
              have LMc7 := Aside0.mk c7
              clear c7
              obtain ⟨y555, hy555⟩ : ∃ y_ : List (S24), y_ = (x5_1 ++ [(⟨t550, t551, t552, t553, t554⟩ : S24)]) := ⟨_, rfl⟩
              replace H : (counterpanelaw2_CutAll.l0 k1 l0 a1 y555 (wrap64 (x6_1 + 1))) = some r := by first | (rw [hy555]; with_reducible exact H) | (have H2_ := (Option.bind_some _ _).symm.trans H; rw [hy555]; with_reducible exact H2_) | (have H2_ := (Option.bind_some _ _).symm.trans H; with_reducible exact H2_) | with_reducible exact H | (rw [hy555]; exact H) | exact H
              have Ny555 := Aside0.mk hy555
              clear hy555
              have H' := Aside0.mk H
              clear H
              have p549 : 0 ≤ (x6_1 : Int) := of_decide_eq_true (by first | (with_reducible assumption) | assumption)
              have q549 : x6_1 < (l0.length : Int) := of_decide_eq_true (by first | (with_reducible assumption) | assumption)
              obtain ⟨ad549, e549, hx549_0, hx549_1, hx549_2, hx549_3, hx549_4⟩ := at_T24 HR0.out x6_1 p549 q549
              cases e549
              replace hx549_0 := (HB.out.cell (World.block_lt_of_cell? w _ hx549_0)).trans hx549_0
              replace hx549_1 := (HB.out.cell (World.block_lt_of_cell? w _ hx549_1)).trans hx549_1
              replace hx549_2 := (HB.out.cell (World.block_lt_of_cell? w _ hx549_2)).trans hx549_2
              replace hx549_3 := (HB.out.cell (World.block_lt_of_cell? w _ hx549_3)).trans hx549_3
              replace hx549_4 := (HB.out.cell (World.block_lt_of_cell? w _ hx549_4)).trans hx549_4
              replace p549 := eq_true p549
              replace q549 := eq_true q549
              try (have q549z := q549; simp only [ByteArray.size_extract, Nat.min_self] at q549z)
              go_wp2_with (first | ((with_reducible refine gate_callee (f := 10) rfl ?_); refine goesL_ (some 23) rfl rfl Tryz.func10 (by kernel_rfl) rfl #[.agg #[.int .i64 ((rd_T24 l0 x6_1).f0), .int .i64 ((rd_T24 l0 x6_1).f1), .string ((rd_T24 l0 x6_1).f2), .bool ((rd_T24 l0 x6_1).f3), .int .i64 ((rd_T24 l0 x6_1).f4)]] rfl (by (try simp only [List.map_toArray, List.map_cons, List.map_nil]); first | done | rfl | (simp only [List.length_drop, List.length_take]; rfl)) ?_; (with_reducible refine (counterpanelaw2_Cut.calls ((rd_T24 l0 x6_1).f0) ((rd_T24 l0 x6_1).f1) ((rd_T24 l0 x6_1).f2) ((rd_T24 l0 x6_1).f3) ((rd_T24 l0 x6_1).f4) t550 t551 t552 t553 t554 _ A6.out).mono ?_); rintro e w8 ⟨rfl, hb⟩; refine ⟨_, rfl, ?_⟩; have n0_ := Aside0.mk (Kd.R_below (by (with_reducible repeat (first | apply Kd.R_alloc | apply Kd.R_drewN | apply Kd.R_drew)); exact HO_5.out) hb); have n1_ := Aside0.mk (below_step (by repeat (first | (with_reducible first | exact HB.out | apply below_alloc | apply pw_below_drewN | apply below_drew1) | exact HB.out)) hb); clear HO_5; clear HB; have HO_5 := n0_; have HB := n1_; clear n0_ n1_; (try clear hb); (try clear hb2); (try clear hk); (try clear hi)) | ((with_reducible refine gate_builtin (b := .append) (xs := #[.tmp 18, .tmp 24]) rfl ?_); at_builtin; refine Kd.R_append k24 (w0 := w) w.heap.size rfl (.tmp 18) (.tmp 24) 38 24 (.agg #[(.int .i64 0), (.int .i64 0), (.string ⟨#[]⟩), (.bool false), (.int .i64 0)]) 48 rfl Tryz.underlying38 info24 rfl (by decide) (by omega) u5 x5_1 (⟨t550, t551, t552, t553, t554⟩ : S24) [.int .i64 t550, .int .i64 t551, .string t552, .bool t553, .int .i64 t554] (fun _ => True) (fun _ => False) rfl rfl ?aP (fun _ hk => hk.elim) ?aF ?aO ?aB ?aS ?aL ?_; (case aP => exact k24_mkM _ _ _ (⟨t550, t551, t552, t553, t554⟩ : S24)); (case aB => exact (by repeat (first | (with_reducible first | exact HB.out | apply below_alloc | apply pw_below_drewN | apply below_drew1) | exact HB.out))); (case aF => exact (fun _ _ => trivial)); (case aO => exact (by (with_reducible repeat (first | apply Kd.R_alloc | apply Kd.R_drewN | apply Kd.R_drew)); exact HO_5.out)); (case aS => exact (below_size (by repeat (first | (with_reducible first | exact HB.out | apply below_alloc | apply pw_below_drewN | apply below_drew1) | exact HB.out)))); (case aL => have := LMc7.out; omega); intro v556 w9 ho hb hg hat; rw [← Ny555.out] at ho; have n0_ := Aside0.mk (hb); have n1_ := Aside0.mk (ho); clear HB; clear HO_5; have HB := n0_; have HO557 := n1_; clear n0_ n1_; clear ho hb hg hat))
              go_roundg k1
              case measure => have := HK1.out; omega
              case rel => exact ⟨(y555), (wrap64 (x6_1 + 1)), (by first | rfl | (simp; done) | (simp [*]; done)), H', ⟨by have := HK1.out; omega⟩, ⟨by (with_reducible repeat (first | apply Kd.R_alloc | apply Kd.R_drewN | apply Kd.R_drew)); exact HO557.out⟩, ⟨by repeat (first | (with_reducible first | exact HB.out | apply below_alloc | apply pw_below_drewN | apply below_drew1) | exact HB.out)⟩⟩
            · rw [if_neg c7] at H
              exact absurd H (by simp)
          · rw [if_neg c5] at H
            exact absurd H (by simp)
        · rw [if_neg c4] at H
          have c4b0 : decide (x6_1 < a1) = false := decide_eq_false c4
          clear c4
          obtain rfl := Option.some.inj H
          go_wp2
          go_ret
          exact ⟨_, by first | rfl | (simp [errW_none, errW_some] <;> rfl) | (simp [*, errW_none, errW_some] <;> rfl) | (simp [*, errW_none, errW_some] <;> (generalize ByteArray.toList _ = l_; cases l_ <;> rfl)), by (with_reducible repeat (first | apply Kd.R_alloc | apply Kd.R_drewN | apply Kd.R_drew)); exact HO_5.out, by repeat (first | (with_reducible first | exact HB.out | apply below_alloc | apply pw_below_drewN | apply below_drew1) | exact HB.out)⟩
      · rw [if_neg c3] at H
        have c3b0 : decide (x6_1 < (l0.length : Int)) = false := decide_eq_false c3
        clear c3
        obtain rfl := Option.some.inj H
        go_wp2
        go_ret
        exact ⟨_, by first | rfl | (simp [errW_none, errW_some] <;> rfl) | (simp [*, errW_none, errW_some] <;> rfl) | (simp [*, errW_none, errW_some] <;> (generalize ByteArray.toList _ = l_; cases l_ <;> rfl)), by (with_reducible repeat (first | apply Kd.R_alloc | apply Kd.R_drewN | apply Kd.R_drew)); exact HO_5.out, by repeat (first | (with_reducible first | exact HB.out | apply below_alloc | apply pw_below_drewN | apply below_drew1) | exact HB.out)⟩
def counterpaneref1_Worst.l0 : Nat → List (S24) → Int → Int → Option (Int)
  | 0, _, _, _ => none
  | k + 1, x0, x3, x4 => if x4 < (x0.length : Int) then (if 0 ≤ x4 then (if ((rd_T24 x0 x4).f0) = 4 then ((counterpaneref1_May.f k ((rd_T24 x0 x4).f0) ((rd_T24 x0 x4).f1) ((rd_T24 x0 x4).f2) ((rd_T24 x0 x4).f3) ((rd_T24 x0 x4).f4)).bind fun t560 => (if t560 = true then (if x3 = 0 then (counterpaneref1_Worst.l0 k x0 ((rd_T24 x0 x4).f4) (wrap64 (x4 + 1))) else (if ((rd_T24 x0 x4).f4) < x3 then (counterpaneref1_Worst.l0 k x0 ((rd_T24 x0 x4).f4) (wrap64 (x4 + 1))) else (counterpaneref1_Worst.l0 k x0 x3 (wrap64 (x4 + 1))))) else (counterpaneref1_Worst.l0 k x0 x3 (wrap64 (x4 + 1))))) else (counterpaneref1_Worst.l0 k x0 x3 (wrap64 (x4 + 1)))) else (none)) else (some x3)
def counterpaneref1_Worst.f (k : Nat) (l0 : List (S24)) : Option (Int) := counterpaneref1_Worst.l0 k l0 0 0
set_option maxHeartbeats 8000000 in
set_option maxRecDepth 100000 in
theorem counterpaneref1_Worst.calls (k : Nat) (A0 : Option Addr) (c0 : Nat) (l0 : List (S24)) (r : Int) (w : World) (hr0 : Kd.C k24 w A0 l0.length l0) (hc0 : l0.length ≤ c0) (h : counterpaneref1_Worst.f k l0 = some r) :
    Calls Tryz.prog 27 #[.slice A0 l0.length c0] w fun e w' => e = .returned (.int .i64 r) ∧ Below w.heap.size w w' := by
  have hu24 := Tryz.underlying24
  have HR0 := Aside0.mk hr0
  have HC0 := Aside0.mk hc0
  clear hr0 hc0
  have HB := Aside0.mk (Below.refl w.heap.size w)
  have H : (counterpaneref1_Worst.l0 k l0 0 0) = some r := h
  clear h
  have H' := Aside0.mk H
  clear H
  go_enter Tryz.func27, Tryz.ntmps27
  go_wp2
  go_loopg [3, 4] k (fun kq v3 v4 w' => ∃ (x3_1 : Int) (x4_1 : Int), v3 = .int .i64 x3_1 ∧ v4 = .int .i64 x4_1 ∧ Aside0 (counterpaneref1_Worst.l0 kq l0 x3_1 x4_1 = some r) ∧ Aside0 (kq ≤ k) ∧ Aside0 (Below w.heap.size w w'))
  case atStart => exact ⟨(0), (0), (by first | rfl | (simp; done) | (simp [*]; done)), (by first | rfl | (simp; done) | (simp [*]; done)), H', ⟨Nat.le_refl _⟩, ⟨by repeat (first | (with_reducible first | exact HB.out | apply below_alloc | apply pw_below_drewN | apply below_drew1) | exact HB.out)⟩⟩
  case round =>
    clear H'
    obtain ⟨x3_1, x4_1, rfl, rfl, HA, HK1, HB⟩ := hrel
    cases gk with
    | zero => exact absurd HA.out (by simp [counterpaneref1_Worst.l0])
    | succ k1 =>
      have H := HA.out
      clear HA
      simp only [counterpaneref1_Worst.l0] at H
      by_cases c2 : x4_1 < (l0.length : Int)
      · rw [if_pos c2] at H
        have c2b0 : decide (x4_1 < (l0.length : Int)) = true := decide_eq_true c2
        clear c2
        by_cases c3 : 0 ≤ x4_1
        · rw [if_pos c3] at H
          have c3b0 : decide (0 ≤ x4_1) = true := decide_eq_true c3
          clear c3
          by_cases c4 : ((rd_T24 l0 x4_1).f0) = 4
          · rw [if_pos c4] at H
            have c4b0 : (((rd_T24 l0 x4_1).f0) == 4) = true := beq_iff_eq.mpr c4
            have c4b1 : (((rd_T24 l0 x4_1).f0) != 4) = false := bne_eq_false_iff_eq.mpr c4
            clear c4
            replace H := Option.bind_eq_some_iff.mp H
            obtain ⟨t560, A50, H⟩ := H
            replace H : (if t560 = true then (if x3_1 = 0 then (counterpaneref1_Worst.l0 k1 l0 ((rd_T24 l0 x4_1).f4) (wrap64 (x4_1 + 1))) else (if ((rd_T24 l0 x4_1).f4) < x3_1 then (counterpaneref1_Worst.l0 k1 l0 ((rd_T24 l0 x4_1).f4) (wrap64 (x4_1 + 1))) else (counterpaneref1_Worst.l0 k1 l0 x3_1 (wrap64 (x4_1 + 1))))) else (counterpaneref1_Worst.l0 k1 l0 x3_1 (wrap64 (x4_1 + 1)))) = some r := H
            have A5 := Aside0.mk A50
            clear A50
            by_cases c6 : t560 = true
            · subst c6
              have H1 : (if x3_1 = 0 then (counterpaneref1_Worst.l0 k1 l0 ((rd_T24 l0 x4_1).f4) (wrap64 (x4_1 + 1))) else (if ((rd_T24 l0 x4_1).f4) < x3_1 then (counterpaneref1_Worst.l0 k1 l0 ((rd_T24 l0 x4_1).f4) (wrap64 (x4_1 + 1))) else (counterpaneref1_Worst.l0 k1 l0 x3_1 (wrap64 (x4_1 + 1))))) = some r := by rw [if_pos rfl] at H; exact H
              clear H
              have H := H1
              clear H1
              by_cases c7 : x3_1 = 0
              · rw [if_pos c7] at H
                have c7b0 : (x3_1 == 0) = true := beq_iff_eq.mpr c7
                have c7b1 : (x3_1 != 0) = false := bne_eq_false_iff_eq.mpr c7
                clear c7
                have H' := Aside0.mk H
                clear H
                have p558 : 0 ≤ (x4_1 : Int) := of_decide_eq_true (by first | (with_reducible assumption) | assumption)
                have q558 : x4_1 < (l0.length : Int) := of_decide_eq_true (by first | (with_reducible assumption) | assumption)
                obtain ⟨ad558, e558, hx558_0, hx558_1, hx558_2, hx558_3, hx558_4⟩ := at_T24 HR0.out x4_1 p558 q558
                cases e558
                replace hx558_0 := (HB.out.cell (World.block_lt_of_cell? w _ hx558_0)).trans hx558_0
                replace hx558_1 := (HB.out.cell (World.block_lt_of_cell? w _ hx558_1)).trans hx558_1
                replace hx558_2 := (HB.out.cell (World.block_lt_of_cell? w _ hx558_2)).trans hx558_2
                replace hx558_3 := (HB.out.cell (World.block_lt_of_cell? w _ hx558_3)).trans hx558_3
                replace hx558_4 := (HB.out.cell (World.block_lt_of_cell? w _ hx558_4)).trans hx558_4
                replace p558 := eq_true p558
                replace q558 := eq_true q558
                try (have q558z := q558; simp only [ByteArray.size_extract, Nat.min_self] at q558z)
                have p559 : 0 ≤ (x4_1 : Int) := of_decide_eq_true (by first | (with_reducible assumption) | assumption)
                have q559 : x4_1 < (l0.length : Int) := of_decide_eq_true (by first | (with_reducible assumption) | assumption)
                obtain ⟨ad559, e559, hx559_0, hx559_1, hx559_2, hx559_3, hx559_4⟩ := at_T24 HR0.out x4_1 p559 q559
                obtain rfl : ad558 = ad559 := (by injection e559)
                replace hx559_0 := (HB.out.cell (World.block_lt_of_cell? w _ hx559_0)).trans hx559_0
                replace hx559_1 := (HB.out.cell (World.block_lt_of_cell? w _ hx559_1)).trans hx559_1
                replace hx559_2 := (HB.out.cell (World.block_lt_of_cell? w _ hx559_2)).trans hx559_2
                replace hx559_3 := (HB.out.cell (World.block_lt_of_cell? w _ hx559_3)).trans hx559_3
                replace hx559_4 := (HB.out.cell (World.block_lt_of_cell? w _ hx559_4)).trans hx559_4
                replace p559 := eq_true p559
                replace q559 := eq_true q559
                try (have q559z := q559; simp only [ByteArray.size_extract, Nat.min_self] at q559z)
                go_wp2_with (first | (go_at_call 24; (with_reducible refine (counterpaneref1_May.calls k1 ((rd_T24 l0 x4_1).f0) ((rd_T24 l0 x4_1).f1) ((rd_T24 l0 x4_1).f2) ((rd_T24 l0 x4_1).f3) ((rd_T24 l0 x4_1).f4) true _ A5.out).mono ?_); rintro e w8 ⟨rfl, hb⟩; have n0_ := Aside0.mk (below_step (by repeat (first | (with_reducible first | exact HB.out | apply below_alloc | apply pw_below_drewN | apply below_drew1) | exact HB.out)) hb); clear HB; have HB := n0_; clear n0_; (try clear hb); (try clear hb2); (try clear hk); (try clear hi); have p561 : 0 ≤ (x4_1 : Int) := of_decide_eq_true (by first | (with_reducible assumption) | assumption); have q561 : x4_1 < (l0.length : Int) := of_decide_eq_true (by first | (with_reducible assumption) | assumption); obtain ⟨ad561, e561, hx561_0, hx561_1, hx561_2, hx561_3, hx561_4⟩ := at_T24 HR0.out x4_1 p561 q561; obtain rfl : ad558 = ad561 := (by injection e561); replace hx561_0 := (HB.out.cell (World.block_lt_of_cell? w _ hx561_0)).trans hx561_0; replace hx561_1 := (HB.out.cell (World.block_lt_of_cell? w _ hx561_1)).trans hx561_1; replace hx561_2 := (HB.out.cell (World.block_lt_of_cell? w _ hx561_2)).trans hx561_2; replace hx561_3 := (HB.out.cell (World.block_lt_of_cell? w _ hx561_3)).trans hx561_3; replace hx561_4 := (HB.out.cell (World.block_lt_of_cell? w _ hx561_4)).trans hx561_4; replace p561 := eq_true p561; replace q561 := eq_true q561))
                go_roundg k1
                case measure => have := HK1.out; omega
                case rel => exact ⟨((rd_T24 l0 x4_1).f4), (wrap64 (x4_1 + 1)), (by first | rfl | (simp; done) | (simp [*]; done)), (by first | rfl | (simp; done) | (simp [*]; done)), H', ⟨by have := HK1.out; omega⟩, ⟨by repeat (first | (with_reducible first | exact HB.out | apply below_alloc | apply pw_below_drewN | apply below_drew1) | exact HB.out)⟩⟩
              · rw [if_neg c7] at H
                have c7b0 : (x3_1 == 0) = false := beq_eq_false_iff_ne.mpr c7
                have c7b1 : (x3_1 != 0) = true := bne_iff_ne.mpr c7
                by_cases c9 : ((rd_T24 l0 x4_1).f4) < x3_1
                · rw [if_pos c9] at H
                  have c9b0 : decide (((rd_T24 l0 x4_1).f4) < x3_1) = true := decide_eq_true c9
                  clear c9
                  have H' := Aside0.mk H
                  clear H
                  have p558 : 0 ≤ (x4_1 : Int) := of_decide_eq_true (by first | (with_reducible assumption) | assumption)
                  have q558 : x4_1 < (l0.length : Int) := of_decide_eq_true (by first | (with_reducible assumption) | assumption)
                  obtain ⟨ad558, e558, hx558_0, hx558_1, hx558_2, hx558_3, hx558_4⟩ := at_T24 HR0.out x4_1 p558 q558
                  cases e558
                  replace hx558_0 := (HB.out.cell (World.block_lt_of_cell? w _ hx558_0)).trans hx558_0
                  replace hx558_1 := (HB.out.cell (World.block_lt_of_cell? w _ hx558_1)).trans hx558_1
                  replace hx558_2 := (HB.out.cell (World.block_lt_of_cell? w _ hx558_2)).trans hx558_2
                  replace hx558_3 := (HB.out.cell (World.block_lt_of_cell? w _ hx558_3)).trans hx558_3
                  replace hx558_4 := (HB.out.cell (World.block_lt_of_cell? w _ hx558_4)).trans hx558_4
                  replace p558 := eq_true p558
                  replace q558 := eq_true q558
                  try (have q558z := q558; simp only [ByteArray.size_extract, Nat.min_self] at q558z)
                  have p559 : 0 ≤ (x4_1 : Int) := of_decide_eq_true (by first | (with_reducible assumption) | assumption)
                  have q559 : x4_1 < (l0.length : Int) := of_decide_eq_true (by first | (with_reducible assumption) | assumption)
                  obtain ⟨ad559, e559, hx559_0, hx559_1, hx559_2, hx559_3, hx559_4⟩ := at_T24 HR0.out x4_1 p559 q559
                  obtain rfl : ad558 = ad559 := (by injection e559)
                  replace hx559_0 := (HB.out.cell (World.block_lt_of_cell? w _ hx559_0)).trans hx559_0
                  replace hx559_1 := (HB.out.cell (World.block_lt_of_cell? w _ hx559_1)).trans hx559_1
                  replace hx559_2 := (HB.out.cell (World.block_lt_of_cell? w _ hx559_2)).trans hx559_2
                  replace hx559_3 := (HB.out.cell (World.block_lt_of_cell? w _ hx559_3)).trans hx559_3
                  replace hx559_4 := (HB.out.cell (World.block_lt_of_cell? w _ hx559_4)).trans hx559_4
                  replace p559 := eq_true p559
                  replace q559 := eq_true q559
                  try (have q559z := q559; simp only [ByteArray.size_extract, Nat.min_self] at q559z)
                  go_wp2_with (first | (go_at_call 24; (with_reducible refine (counterpaneref1_May.calls k1 ((rd_T24 l0 x4_1).f0) ((rd_T24 l0 x4_1).f1) ((rd_T24 l0 x4_1).f2) ((rd_T24 l0 x4_1).f3) ((rd_T24 l0 x4_1).f4) true _ A5.out).mono ?_); rintro e w10 ⟨rfl, hb⟩; have n0_ := Aside0.mk (below_step (by repeat (first | (with_reducible first | exact HB.out | apply below_alloc | apply pw_below_drewN | apply below_drew1) | exact HB.out)) hb); clear HB; have HB := n0_; clear n0_; (try clear hb); (try clear hb2); (try clear hk); (try clear hi); have p562 : 0 ≤ (x4_1 : Int) := of_decide_eq_true (by first | (with_reducible assumption) | assumption); have q562 : x4_1 < (l0.length : Int) := of_decide_eq_true (by first | (with_reducible assumption) | assumption); obtain ⟨ad562, e562, hx562_0, hx562_1, hx562_2, hx562_3, hx562_4⟩ := at_T24 HR0.out x4_1 p562 q562; obtain rfl : ad558 = ad562 := (by injection e562); replace hx562_0 := (HB.out.cell (World.block_lt_of_cell? w _ hx562_0)).trans hx562_0; replace hx562_1 := (HB.out.cell (World.block_lt_of_cell? w _ hx562_1)).trans hx562_1; replace hx562_2 := (HB.out.cell (World.block_lt_of_cell? w _ hx562_2)).trans hx562_2; replace hx562_3 := (HB.out.cell (World.block_lt_of_cell? w _ hx562_3)).trans hx562_3; replace hx562_4 := (HB.out.cell (World.block_lt_of_cell? w _ hx562_4)).trans hx562_4; replace p562 := eq_true p562; replace q562 := eq_true q562; have p563 : 0 ≤ (x4_1 : Int) := of_decide_eq_true (by first | (with_reducible assumption) | assumption); have q563 : x4_1 < (l0.length : Int) := of_decide_eq_true (by first | (with_reducible assumption) | assumption); obtain ⟨ad563, e563, hx563_0, hx563_1, hx563_2, hx563_3, hx563_4⟩ := at_T24 HR0.out x4_1 p563 q563; obtain rfl : ad558 = ad563 := (by injection e563); replace hx563_0 := (HB.out.cell (World.block_lt_of_cell? w _ hx563_0)).trans hx563_0; replace hx563_1 := (HB.out.cell (World.block_lt_of_cell? w _ hx563_1)).trans hx563_1; replace hx563_2 := (HB.out.cell (World.block_lt_of_cell? w _ hx563_2)).trans hx563_2; replace hx563_3 := (HB.out.cell (World.block_lt_of_cell? w _ hx563_3)).trans hx563_3; replace hx563_4 := (HB.out.cell (World.block_lt_of_cell? w _ hx563_4)).trans hx563_4; replace p563 := eq_true p563; replace q563 := eq_true q563))
                  go_roundg k1
                  case measure => have := HK1.out; omega
                  case rel => exact ⟨((rd_T24 l0 x4_1).f4), (wrap64 (x4_1 + 1)), (by first | rfl | (simp; done) | (simp [*]; done)), (by first | rfl | (simp; done) | (simp [*]; done)), H', ⟨by have := HK1.out; omega⟩, ⟨by repeat (first | (with_reducible first | exact HB.out | apply below_alloc | apply pw_below_drewN | apply below_drew1) | exact HB.out)⟩⟩
                · rw [if_neg c9] at H
                  have c9b0 : decide (((rd_T24 l0 x4_1).f4) < x3_1) = false := decide_eq_false c9
                  clear c9
                  have H' := Aside0.mk H
                  clear H
                  have p558 : 0 ≤ (x4_1 : Int) := of_decide_eq_true (by first | (with_reducible assumption) | assumption)
                  have q558 : x4_1 < (l0.length : Int) := of_decide_eq_true (by first | (with_reducible assumption) | assumption)
                  obtain ⟨ad558, e558, hx558_0, hx558_1, hx558_2, hx558_3, hx558_4⟩ := at_T24 HR0.out x4_1 p558 q558
                  cases e558
                  replace hx558_0 := (HB.out.cell (World.block_lt_of_cell? w _ hx558_0)).trans hx558_0
                  replace hx558_1 := (HB.out.cell (World.block_lt_of_cell? w _ hx558_1)).trans hx558_1
                  replace hx558_2 := (HB.out.cell (World.block_lt_of_cell? w _ hx558_2)).trans hx558_2
                  replace hx558_3 := (HB.out.cell (World.block_lt_of_cell? w _ hx558_3)).trans hx558_3
                  replace hx558_4 := (HB.out.cell (World.block_lt_of_cell? w _ hx558_4)).trans hx558_4
                  replace p558 := eq_true p558
                  replace q558 := eq_true q558
                  try (have q558z := q558; simp only [ByteArray.size_extract, Nat.min_self] at q558z)
                  have p559 : 0 ≤ (x4_1 : Int) := of_decide_eq_true (by first | (with_reducible assumption) | assumption)
                  have q559 : x4_1 < (l0.length : Int) := of_decide_eq_true (by first | (with_reducible assumption) | assumption)
                  obtain ⟨ad559, e559, hx559_0, hx559_1, hx559_2, hx559_3, hx559_4⟩ := at_T24 HR0.out x4_1 p559 q559
                  obtain rfl : ad558 = ad559 := (by injection e559)
                  replace hx559_0 := (HB.out.cell (World.block_lt_of_cell? w _ hx559_0)).trans hx559_0
                  replace hx559_1 := (HB.out.cell (World.block_lt_of_cell? w _ hx559_1)).trans hx559_1
                  replace hx559_2 := (HB.out.cell (World.block_lt_of_cell? w _ hx559_2)).trans hx559_2
                  replace hx559_3 := (HB.out.cell (World.block_lt_of_cell? w _ hx559_3)).trans hx559_3
                  replace hx559_4 := (HB.out.cell (World.block_lt_of_cell? w _ hx559_4)).trans hx559_4
                  replace p559 := eq_true p559
                  replace q559 := eq_true q559
                  try (have q559z := q559; simp only [ByteArray.size_extract, Nat.min_self] at q559z)
                  go_wp2_with (first | (go_at_call 24; (with_reducible refine (counterpaneref1_May.calls k1 ((rd_T24 l0 x4_1).f0) ((rd_T24 l0 x4_1).f1) ((rd_T24 l0 x4_1).f2) ((rd_T24 l0 x4_1).f3) ((rd_T24 l0 x4_1).f4) true _ A5.out).mono ?_); rintro e w11 ⟨rfl, hb⟩; have n0_ := Aside0.mk (below_step (by repeat (first | (with_reducible first | exact HB.out | apply below_alloc | apply pw_below_drewN | apply below_drew1) | exact HB.out)) hb); clear HB; have HB := n0_; clear n0_; (try clear hb); (try clear hb2); (try clear hk); (try clear hi); have p562 : 0 ≤ (x4_1 : Int) := of_decide_eq_true (by first | (with_reducible assumption) | assumption); have q562 : x4_1 < (l0.length : Int) := of_decide_eq_true (by first | (with_reducible assumption) | assumption); obtain ⟨ad562, e562, hx562_0, hx562_1, hx562_2, hx562_3, hx562_4⟩ := at_T24 HR0.out x4_1 p562 q562; obtain rfl : ad558 = ad562 := (by injection e562); replace hx562_0 := (HB.out.cell (World.block_lt_of_cell? w _ hx562_0)).trans hx562_0; replace hx562_1 := (HB.out.cell (World.block_lt_of_cell? w _ hx562_1)).trans hx562_1; replace hx562_2 := (HB.out.cell (World.block_lt_of_cell? w _ hx562_2)).trans hx562_2; replace hx562_3 := (HB.out.cell (World.block_lt_of_cell? w _ hx562_3)).trans hx562_3; replace hx562_4 := (HB.out.cell (World.block_lt_of_cell? w _ hx562_4)).trans hx562_4; replace p562 := eq_true p562; replace q562 := eq_true q562))
                  go_roundg k1
                  case measure => have := HK1.out; omega
                  case rel => exact ⟨(x3_1), (wrap64 (x4_1 + 1)), (by first | rfl | (simp; done) | (simp [*]; done)), (by first | rfl | (simp; done) | (simp [*]; done)), H', ⟨by have := HK1.out; omega⟩, ⟨by repeat (first | (with_reducible first | exact HB.out | apply below_alloc | apply pw_below_drewN | apply below_drew1) | exact HB.out)⟩⟩
            · replace c6 := Bool.eq_false_iff.mpr c6
              subst c6
              have H1 : (counterpaneref1_Worst.l0 k1 l0 x3_1 (wrap64 (x4_1 + 1))) = some r := by rw [if_neg (show ¬ (false = true) by decide)] at H; exact H
              clear H
              have H := H1
              clear H1
              have H' := Aside0.mk H
              clear H
              have p558 : 0 ≤ (x4_1 : Int) := of_decide_eq_true (by first | (with_reducible assumption) | assumption)
              have q558 : x4_1 < (l0.length : Int) := of_decide_eq_true (by first | (with_reducible assumption) | assumption)
              obtain ⟨ad558, e558, hx558_0, hx558_1, hx558_2, hx558_3, hx558_4⟩ := at_T24 HR0.out x4_1 p558 q558
              cases e558
              replace hx558_0 := (HB.out.cell (World.block_lt_of_cell? w _ hx558_0)).trans hx558_0
              replace hx558_1 := (HB.out.cell (World.block_lt_of_cell? w _ hx558_1)).trans hx558_1
              replace hx558_2 := (HB.out.cell (World.block_lt_of_cell? w _ hx558_2)).trans hx558_2
              replace hx558_3 := (HB.out.cell (World.block_lt_of_cell? w _ hx558_3)).trans hx558_3
              replace hx558_4 := (HB.out.cell (World.block_lt_of_cell? w _ hx558_4)).trans hx558_4
              replace p558 := eq_true p558
              replace q558 := eq_true q558
              try (have q558z := q558; simp only [ByteArray.size_extract, Nat.min_self] at q558z)
              have p559 : 0 ≤ (x4_1 : Int) := of_decide_eq_true (by first | (with_reducible assumption) | assumption)
              have q559 : x4_1 < (l0.length : Int) := of_decide_eq_true (by first | (with_reducible assumption) | assumption)
              obtain ⟨ad559, e559, hx559_0, hx559_1, hx559_2, hx559_3, hx559_4⟩ := at_T24 HR0.out x4_1 p559 q559
              obtain rfl : ad558 = ad559 := (by injection e559)
              replace hx559_0 := (HB.out.cell (World.block_lt_of_cell? w _ hx559_0)).trans hx559_0
              replace hx559_1 := (HB.out.cell (World.block_lt_of_cell? w _ hx559_1)).trans hx559_1
              replace hx559_2 := (HB.out.cell (World.block_lt_of_cell? w _ hx559_2)).trans hx559_2
              replace hx559_3 := (HB.out.cell (World.block_lt_of_cell? w _ hx559_3)).trans hx559_3
              replace hx559_4 := (HB.out.cell (World.block_lt_of_cell? w _ hx559_4)).trans hx559_4
              replace p559 := eq_true p559
              replace q559 := eq_true q559
              try (have q559z := q559; simp only [ByteArray.size_extract, Nat.min_self] at q559z)
              go_wp2_with (first | (go_at_call 24; (with_reducible refine (counterpaneref1_May.calls k1 ((rd_T24 l0 x4_1).f0) ((rd_T24 l0 x4_1).f1) ((rd_T24 l0 x4_1).f2) ((rd_T24 l0 x4_1).f3) ((rd_T24 l0 x4_1).f4) false _ A5.out).mono ?_); rintro e w12 ⟨rfl, hb⟩; have n0_ := Aside0.mk (below_step (by repeat (first | (with_reducible first | exact HB.out | apply below_alloc | apply pw_below_drewN | apply below_drew1) | exact HB.out)) hb); clear HB; have HB := n0_; clear n0_; (try clear hb); (try clear hb2); (try clear hk); (try clear hi)))
              go_roundg k1
              case measure => have := HK1.out; omega
              case rel => exact ⟨(x3_1), (wrap64 (x4_1 + 1)), (by first | rfl | (simp; done) | (simp [*]; done)), (by first | rfl | (simp; done) | (simp [*]; done)), H', ⟨by have := HK1.out; omega⟩, ⟨by repeat (first | (with_reducible first | exact HB.out | apply below_alloc | apply pw_below_drewN | apply below_drew1) | exact HB.out)⟩⟩
          · rw [if_neg c4] at H
            have c4b0 : (((rd_T24 l0 x4_1).f0) == 4) = false := beq_eq_false_iff_ne.mpr c4
            have c4b1 : (((rd_T24 l0 x4_1).f0) != 4) = true := bne_iff_ne.mpr c4
            have H' := Aside0.mk H
            clear H
            have p558 : 0 ≤ (x4_1 : Int) := of_decide_eq_true (by first | (with_reducible assumption) | assumption)
            have q558 : x4_1 < (l0.length : Int) := of_decide_eq_true (by first | (with_reducible assumption) | assumption)
            obtain ⟨ad558, e558, hx558_0, hx558_1, hx558_2, hx558_3, hx558_4⟩ := at_T24 HR0.out x4_1 p558 q558
            cases e558
            replace hx558_0 := (HB.out.cell (World.block_lt_of_cell? w _ hx558_0)).trans hx558_0
            replace hx558_1 := (HB.out.cell (World.block_lt_of_cell? w _ hx558_1)).trans hx558_1
            replace hx558_2 := (HB.out.cell (World.block_lt_of_cell? w _ hx558_2)).trans hx558_2
            replace hx558_3 := (HB.out.cell (World.block_lt_of_cell? w _ hx558_3)).trans hx558_3
            replace hx558_4 := (HB.out.cell (World.block_lt_of_cell? w _ hx558_4)).trans hx558_4
            replace p558 := eq_true p558
            replace q558 := eq_true q558
            try (have q558z := q558; simp only [ByteArray.size_extract, Nat.min_self] at q558z)
            go_wp2
            go_roundg k1
            case measure => have := HK1.out; omega
            case rel => exact ⟨(x3_1), (wrap64 (x4_1 + 1)), (by first | rfl | (simp; done) | (simp [*]; done)), (by first | rfl | (simp; done) | (simp [*]; done)), H', ⟨by have := HK1.out; omega⟩, ⟨by repeat (first | (with_reducible first | exact HB.out | apply below_alloc | apply pw_below_drewN | apply below_drew1) | exact HB.out)⟩⟩
        · rw [if_neg c3] at H
          exact absurd H (by simp)
      · rw [if_neg c2] at H
        have c2b0 : decide (x4_1 < (l0.length : Int)) = false := decide_eq_false c2
        clear c2
        obtain rfl := Option.some.inj H
        go_wp2
        go_ret
        exact ⟨by first | rfl | (simp [errW_none, errW_some] <;> rfl) | (simp [*, errW_none, errW_some] <;> rfl) | (simp [*, errW_none, errW_some] <;> (generalize ByteArray.toList _ = l_; cases l_ <;> rfl)), by repeat (first | (with_reducible first | exact HB.out | apply below_alloc | apply pw_below_drewN | apply below_drew1) | exact HB.out)⟩
end Go.Proofs.YtfnbflhoaemmeaaGreatDoor.EBui
end
section
namespace Go.Proofs.YtfnbflhoaemmeaaGreatDoor.EVal
open Go.RowKit Go.Proofs.YtfnbflhoaemmeaaGreatDoor.Ext Go.Proofs.YtfnbflhoaemmeaaGreatDoor.EFxA Go.Proofs.YtfnbflhoaemmeaaGreatDoor.EFix Go.Proofs.YtfnbflhoaemmeaaGreatDoorW.PrintWords Go.Proofs.YtfnbflhoaemmeaaGreatDoorW.PrintLast Go.Proofs.YtfnbflhoaemmeaaGreatDoorW.PrintMore
attribute [local go_sem] max2_int min2_int max_two min_two max_three min_three max_four min_four   
attribute [local go_sem high] run_gtr_string
set_option linter.unusedVariables false
set_option linter.unusedSimpArgs false
attribute [local go_sem high] eqA24
def counterpaneref1_Eq.f (a0_0 : Int) (a0_1 : Int) (a0_2 : ByteArray) (a0_3 : Bool) (a0_4 : Int) (a1_0 : Int) (a1_1 : Int) (a1_2 : ByteArray) (a1_3 : Bool) (a1_4 : Int) : Option (Bool) := if a0_0 = a1_0 then (if a0_1 = a1_1 then (if a0_2.toList = a1_2.toList then (if (a0_3 == a1_3) = true then (some (a0_4 == a1_4)) else (some false)) else (some false)) else (some false)) else (some false)
set_option maxHeartbeats 8000000 in
set_option maxRecDepth 100000 in
theorem counterpaneref1_Eq.calls (a0_0 : Int) (a0_1 : Int) (a0_2 : ByteArray) (a0_3 : Bool) (a0_4 : Int) (a1_0 : Int) (a1_1 : Int) (a1_2 : ByteArray) (a1_3 : Bool) (a1_4 : Int) (r : Bool) (w : World) (h : counterpaneref1_Eq.f a0_0 a0_1 a0_2 a0_3 a0_4 a1_0 a1_1 a1_2 a1_3 a1_4 = some r) :
  Calls Tryz.prog 14 #[.agg #[.int .i64 a0_0, .int .i64 a0_1, .string a0_2, .bool a0_3, .int .i64 a0_4], .agg #[.int .i64 a1_0, .int .i64 a1_1, .string a1_2, .bool a1_3, .int .i64 a1_4]] w fun e w' => e = .returned (.bool r) ∧ Below w.heap.size w w' := by
 have hu24 := Tryz.underlying24
 have HB := Aside0.mk (Below.refl w.heap.size w)
 have H : (if a0_0 = a1_0 then (if a0_1 = a1_1 then (if a0_2.toList = a1_2.toList then (if (a0_3 == a1_3) = true then (some (a0_4 == a1_4)) else (some false)) else (some false)) else (some false)) else (some false)) = some r := h
 clear h
 by_cases c3 : a0_0 = a1_0
 ·rw [if_pos c3] at H
  have c3b0 : (a0_0 == a1_0) = true := beq_iff_eq.mpr c3
  have c3b1 : (a0_0 != a1_0) = false := bne_eq_false_iff_eq.mpr c3
  clear c3
  by_cases c4 : a0_1 = a1_1
  ·rw [if_pos c4] at H
   have c4b0 : (a0_1 == a1_1) = true := beq_iff_eq.mpr c4
   have c4b1 : (a0_1 != a1_1) = false := bne_eq_false_iff_eq.mpr c4
   clear c4
   by_cases c5 : a0_2.toList = a1_2.toList
   ·rw [if_pos c5] at H
    have c5b0 : (a0_2.toList == a1_2.toList) = true := beq_iff_eq.mpr c5
    have c5b1 : (a0_2.toList != a1_2.toList) = false := bne_eq_false_iff_eq.mpr c5
    clear c5
    by_cases c6 : (a0_3 == a1_3) = true
    ·rw [if_pos c6] at H
     have c6b0 : (a0_3 == a1_3) = true := c6
     (try (have c6b1 : decide (a0_3 = a1_3) = true := by simpa using c6))
     (try (have c6b2 : (a0_3 == a1_3) = true := by simpa using c6))
     clear c6
     obtain rfl := Option.some.inj H
     go_enter Tryz.func14, Tryz.ntmps14
     go_wp2_with (first | ((with_reducible refine gate_dst (N := 2) rfl ?_); refine box_event ?hg (N := 2) ?hd (cs := #[.int .i64 a0_0, .int .i64 a0_1, .string a0_2, .bool a0_3, .int .i64 a0_4]) (t := 24) ?hr ?_; (case hd => rfl); (case hg => rfl); (case hr => first | (go_simp; done) | (go_simp; rfl)); intro gb202 hg w7 hbox hb; have n0_ := Aside0.mk (below_step (by repeat (first | (with_reducible first | exact HB.out | apply below_alloc | apply pw_below_drewN | apply below_drew1) | exact HB.out)) hb); have n1_ := Aside0.mk (hbox); have n2_ := Aside0.mk ((by rw [hg]; exact (below_size (by repeat (first | (with_reducible first | exact HB.out | apply below_alloc | apply pw_below_drewN | apply below_drew1) | exact HB.out))) : w.heap.size ≤ gb202)); have n3_ := Aside0.mk ((by rw [hg]; exact (below_size (by repeat (first | (with_reducible first | exact HB.out | apply below_alloc | apply pw_below_drewN | apply below_drew1) | exact HB.out))) : w.heap.size ≤ gb202)); clear HB; have HB := n0_; have BK202 := n1_; have GW202 := n2_; have GE202 := n3_; clear n0_ n1_ n2_ n3_; clear hb hbox hg) | ((with_reducible refine gate_dst (N := 3) rfl ?_); refine box_event ?hg (N := 3) ?hd (cs := #[.int .i64 a1_0, .int .i64 a1_1, .string a1_2, .bool a1_3, .int .i64 a1_4]) (t := 24) ?hr ?_; (case hd => rfl); (case hg => rfl); (case hr => first | (go_simp; done) | (go_simp; rfl)); intro gb203 hg w8 hbox hb; have n0_ := Aside0.mk (blk_below (g := gb202) (o := .cells #[.int .i64 a0_0, .int .i64 a0_1, .string a0_2, .bool a0_3, .int .i64 a0_4] 24 (0, 0)) (by (with_reducible repeat (first | refine blk_drewN ?_ _ | refine blk_drew ?_ | refine blk_alloc ?_ _)); exact BK202.out) hb); have n1_ := Aside0.mk (below_step (by repeat (first | (with_reducible first | exact HB.out | apply below_alloc | apply pw_below_drewN | apply below_drew1 | refine below_set ?_ GE202.out) | exact HB.out)) hb); have n2_ := Aside0.mk (hbox); have n3_ := Aside0.mk ((by rw [hg]; exact (below_size (by repeat (first | (with_reducible first | exact HB.out | apply below_alloc | apply pw_below_drewN | apply below_drew1 | refine below_set ?_ GE202.out) | exact HB.out))) : w.heap.size ≤ gb203)); have n4_ := Aside0.mk ((by rw [hg]; exact (below_size (by repeat (first | (with_reducible first | exact HB.out | apply below_alloc | apply pw_below_drewN | apply below_drew1 | refine below_set ?_ GE202.out) | exact HB.out))) : w.heap.size ≤ gb203)); have n5_ := Aside0.mk ((by rw [hg]; exact Nat.ne_of_lt (blk_lt (g := gb202) (o := .cells #[.int .i64 a0_0, .int .i64 a0_1, .string a0_2, .bool a0_3, .int .i64 a0_4] 24 (0, 0)) (by (with_reducible repeat (first | refine blk_drewN ?_ _ | refine blk_drew ?_ | refine blk_alloc ?_ _)); exact BK202.out)) : gb202 ≠ gb203)); have n6_ := Aside0.mk ((by rw [hg]; exact Nat.ne_of_gt (blk_lt (g := gb202) (o := .cells #[.int .i64 a0_0, .int .i64 a0_1, .string a0_2, .bool a0_3, .int .i64 a0_4] 24 (0, 0)) (by (with_reducible repeat (first | refine blk_drewN ?_ _ | refine blk_drew ?_ | refine blk_alloc ?_ _)); exact BK202.out)) : gb203 ≠ gb202)); clear BK202; clear HB; have BK202 := n0_; have HB := n1_; have BK203 := n2_; have GW203 := n3_; have GE203 := n4_; have NB202_203 := n5_; have NB203_202 := n6_; clear n0_ n1_ n2_ n3_ n4_ n5_ n6_; clear hb hbox hg; have hnb9 := NB202_203.out; have hnc9 := NB203_202.out; have hcz10_0 : w8.cell? ⟨gb202, 0, none⟩ = some (.int .i64 a0_0) := (blk_cell BK202.out 0).trans rfl; have hcz10_1 : w8.cell? ⟨gb202, 1, none⟩ = some (.int .i64 a0_1) := (blk_cell BK202.out 1).trans rfl; have hcz10_2 : w8.cell? ⟨gb202, 2, none⟩ = some (.string a0_2) := (blk_cell BK202.out 2).trans rfl; have hcz10_3 : w8.cell? ⟨gb202, 3, none⟩ = some (.bool a0_3) := (blk_cell BK202.out 3).trans rfl; have hcz10_4 : w8.cell? ⟨gb202, 4, none⟩ = some (.int .i64 a0_4) := (blk_cell BK202.out 4).trans rfl; have hfz10_0 := blk_frozen BK202.out 0; have hfz10_1 := blk_frozen BK202.out 1; have hfz10_2 := blk_frozen BK202.out 2; have hfz10_3 := blk_frozen BK202.out 3; have hfz10_4 := blk_frozen BK202.out 4; have hcz11_0 : w8.cell? ⟨gb203, 0, none⟩ = some (.int .i64 a1_0) := (blk_cell BK203.out 0).trans rfl; have hcz11_1 : w8.cell? ⟨gb203, 1, none⟩ = some (.int .i64 a1_1) := (blk_cell BK203.out 1).trans rfl; have hcz11_2 : w8.cell? ⟨gb203, 2, none⟩ = some (.string a1_2) := (blk_cell BK203.out 2).trans rfl; have hcz11_3 : w8.cell? ⟨gb203, 3, none⟩ = some (.bool a1_3) := (blk_cell BK203.out 3).trans rfl; have hcz11_4 : w8.cell? ⟨gb203, 4, none⟩ = some (.int .i64 a1_4) := (blk_cell BK203.out 4).trans rfl; have hfz11_0 := blk_frozen BK203.out 0; have hfz11_1 := blk_frozen BK203.out 1; have hfz11_2 := blk_frozen BK203.out 2; have hfz11_3 := blk_frozen BK203.out 3; have hfz11_4 := blk_frozen BK203.out 4))
     go_ret
     exact ⟨by first | rfl | (simp [errW_none, errW_some] <;> rfl) | (simp [*, errW_none, errW_some] <;> rfl) | (simp [*, errW_none, errW_some] <;> (generalize ByteArray.toList _ = l_; cases l_ <;> rfl)), by repeat (first | (with_reducible first | exact HB.out | apply below_alloc | apply pw_below_drewN | apply below_drew1 | refine below_set ?_ GE202.out | refine below_set ?_ GE203.out) | exact HB.out)⟩
    ·rw [if_neg c6] at H
     have c6b0 : (a0_3 == a1_3) = false := by simpa using c6
     (try (have c6b1 : decide (a0_3 = a1_3) = false := by simpa using c6))
     (try (have c6b2 : (a0_3 == a1_3) = false := by simpa using c6))
     (try (have c6b3 : ¬ (a0_3 = a1_3) := by simpa using c6))
     clear c6
     obtain rfl := Option.some.inj H
     go_enter Tryz.func14, Tryz.ntmps14
     go_wp2_with (first | ((with_reducible refine gate_dst (N := 2) rfl ?_); refine box_event ?hg (N := 2) ?hd (cs := #[.int .i64 a0_0, .int .i64 a0_1, .string a0_2, .bool a0_3, .int .i64 a0_4]) (t := 24) ?hr ?_; (case hd => rfl); (case hg => rfl); (case hr => first | (go_simp; done) | (go_simp; rfl)); intro gb202 hg w12 hbox hb; have n0_ := Aside0.mk (below_step (by repeat (first | (with_reducible first | exact HB.out | apply below_alloc | apply pw_below_drewN | apply below_drew1) | exact HB.out)) hb); have n1_ := Aside0.mk (hbox); have n2_ := Aside0.mk ((by rw [hg]; exact (below_size (by repeat (first | (with_reducible first | exact HB.out | apply below_alloc | apply pw_below_drewN | apply below_drew1) | exact HB.out))) : w.heap.size ≤ gb202)); have n3_ := Aside0.mk ((by rw [hg]; exact (below_size (by repeat (first | (with_reducible first | exact HB.out | apply below_alloc | apply pw_below_drewN | apply below_drew1) | exact HB.out))) : w.heap.size ≤ gb202)); clear HB; have HB := n0_; have BK202 := n1_; have GW202 := n2_; have GE202 := n3_; clear n0_ n1_ n2_ n3_; clear hb hbox hg) | ((with_reducible refine gate_dst (N := 3) rfl ?_); refine box_event ?hg (N := 3) ?hd (cs := #[.int .i64 a1_0, .int .i64 a1_1, .string a1_2, .bool a1_3, .int .i64 a1_4]) (t := 24) ?hr ?_; (case hd => rfl); (case hg => rfl); (case hr => first | (go_simp; done) | (go_simp; rfl)); intro gb203 hg w13 hbox hb; have n0_ := Aside0.mk (blk_below (g := gb202) (o := .cells #[.int .i64 a0_0, .int .i64 a0_1, .string a0_2, .bool a0_3, .int .i64 a0_4] 24 (0, 0)) (by (with_reducible repeat (first | refine blk_drewN ?_ _ | refine blk_drew ?_ | refine blk_alloc ?_ _)); exact BK202.out) hb); have n1_ := Aside0.mk (below_step (by repeat (first | (with_reducible first | exact HB.out | apply below_alloc | apply pw_below_drewN | apply below_drew1 | refine below_set ?_ GE202.out) | exact HB.out)) hb); have n2_ := Aside0.mk (hbox); have n3_ := Aside0.mk ((by rw [hg]; exact (below_size (by repeat (first | (with_reducible first | exact HB.out | apply below_alloc | apply pw_below_drewN | apply below_drew1 | refine below_set ?_ GE202.out) | exact HB.out))) : w.heap.size ≤ gb203)); have n4_ := Aside0.mk ((by rw [hg]; exact (below_size (by repeat (first | (with_reducible first | exact HB.out | apply below_alloc | apply pw_below_drewN | apply below_drew1 | refine below_set ?_ GE202.out) | exact HB.out))) : w.heap.size ≤ gb203)); have n5_ := Aside0.mk ((by rw [hg]; exact Nat.ne_of_lt (blk_lt (g := gb202) (o := .cells #[.int .i64 a0_0, .int .i64 a0_1, .string a0_2, .bool a0_3, .int .i64 a0_4] 24 (0, 0)) (by (with_reducible repeat (first | refine blk_drewN ?_ _ | refine blk_drew ?_ | refine blk_alloc ?_ _)); exact BK202.out)) : gb202 ≠ gb203)); have n6_ := Aside0.mk ((by rw [hg]; exact Nat.ne_of_gt (blk_lt (g := gb202) (o := .cells #[.int .i64 a0_0, .int .i64 a0_1, .string a0_2, .bool a0_3, .int .i64 a0_4] 24 (0, 0)) (by (with_reducible repeat (first | refine blk_drewN ?_ _ | refine blk_drew ?_ | refine blk_alloc ?_ _)); exact BK202.out)) : gb203 ≠ gb202)); clear BK202; clear HB; have BK202 := n0_; have HB := n1_; have BK203 := n2_; have GW203 := n3_; have GE203 := n4_; have NB202_203 := n5_; have NB203_202 := n6_; clear n0_ n1_ n2_ n3_ n4_ n5_ n6_; clear hb hbox hg; have hnb14 := NB202_203.out; have hnc14 := NB203_202.out; have hcz15_0 : w13.cell? ⟨gb202, 0, none⟩ = some (.int .i64 a0_0) := (blk_cell BK202.out 0).trans rfl; have hcz15_1 : w13.cell? ⟨gb202, 1, none⟩ = some (.int .i64 a0_1) := (blk_cell BK202.out 1).trans rfl; have hcz15_2 : w13.cell? ⟨gb202, 2, none⟩ = some (.string a0_2) := (blk_cell BK202.out 2).trans rfl; have hcz15_3 : w13.cell? ⟨gb202, 3, none⟩ = some (.bool a0_3) := (blk_cell BK202.out 3).trans rfl; have hcz15_4 : w13.cell? ⟨gb202, 4, none⟩ = some (.int .i64 a0_4) := (blk_cell BK202.out 4).trans rfl; have hfz15_0 := blk_frozen BK202.out 0; have hfz15_1 := blk_frozen BK202.out 1; have hfz15_2 := blk_frozen BK202.out 2; have hfz15_3 := blk_frozen BK202.out 3; have hfz15_4 := blk_frozen BK202.out 4; have hcz16_0 : w13.cell? ⟨gb203, 0, none⟩ = some (.int .i64 a1_0) := (blk_cell BK203.out 0).trans rfl; have hcz16_1 : w13.cell? ⟨gb203, 1, none⟩ = some (.int .i64 a1_1) := (blk_cell BK203.out 1).trans rfl; have hcz16_2 : w13.cell? ⟨gb203, 2, none⟩ = some (.string a1_2) := (blk_cell BK203.out 2).trans rfl; have hcz16_3 : w13.cell? ⟨gb203, 3, none⟩ = some (.bool a1_3) := (blk_cell BK203.out 3).trans rfl; have hcz16_4 : w13.cell? ⟨gb203, 4, none⟩ = some (.int .i64 a1_4) := (blk_cell BK203.out 4).trans rfl; have hfz16_0 := blk_frozen BK203.out 0; have hfz16_1 := blk_frozen BK203.out 1; have hfz16_2 := blk_frozen BK203.out 2; have hfz16_3 := blk_frozen BK203.out 3; have hfz16_4 := blk_frozen BK203.out 4))
     go_ret
     exact ⟨by first | rfl | (simp [errW_none, errW_some] <;> rfl) | (simp [*, errW_none, errW_some] <;> rfl) | (simp [*, errW_none, errW_some] <;> (generalize ByteArray.toList _ = l_; cases l_ <;> rfl)), by repeat (first | (with_reducible first | exact HB.out | apply below_alloc | apply pw_below_drewN | apply below_drew1 | refine below_set ?_ GE202.out | refine below_set ?_ GE203.out) | exact HB.out)⟩
   ·rw [if_neg c5] at H
    have c5b0 : (a0_2.toList == a1_2.toList) = false := beq_eq_false_iff_ne.mpr c5
    have c5b1 : (a0_2.toList != a1_2.toList) = true := bne_iff_ne.mpr c5
    obtain rfl := Option.some.inj H
    go_enter Tryz.func14, Tryz.ntmps14
    go_wp2_with (first | ((with_reducible refine gate_dst (N := 2) rfl ?_); refine box_event ?hg (N := 2) ?hd (cs := #[.int .i64 a0_0, .int .i64 a0_1, .string a0_2, .bool a0_3, .int .i64 a0_4]) (t := 24) ?hr ?_; (case hd => rfl); (case hg => rfl); (case hr => first | (go_simp; done) | (go_simp; rfl)); intro gb202 hg w17 hbox hb; have n0_ := Aside0.mk (below_step (by repeat (first | (with_reducible first | exact HB.out | apply below_alloc | apply pw_below_drewN | apply below_drew1) | exact HB.out)) hb); have n1_ := Aside0.mk (hbox); have n2_ := Aside0.mk ((by rw [hg]; exact (below_size (by repeat (first | (with_reducible first | exact HB.out | apply below_alloc | apply pw_below_drewN | apply below_drew1) | exact HB.out))) : w.heap.size ≤ gb202)); have n3_ := Aside0.mk ((by rw [hg]; exact (below_size (by repeat (first | (with_reducible first | exact HB.out | apply below_alloc | apply pw_below_drewN | apply below_drew1) | exact HB.out))) : w.heap.size ≤ gb202)); clear HB; have HB := n0_; have BK202 := n1_; have GW202 := n2_; have GE202 := n3_; clear n0_ n1_ n2_ n3_; clear hb hbox hg) | ((with_reducible refine gate_dst (N := 3) rfl ?_); refine box_event ?hg (N := 3) ?hd (cs := #[.int .i64 a1_0, .int .i64 a1_1, .string a1_2, .bool a1_3, .int .i64 a1_4]) (t := 24) ?hr ?_; (case hd => rfl); (case hg => rfl); (case hr => first | (go_simp; done) | (go_simp; rfl)); intro gb203 hg w18 hbox hb; have n0_ := Aside0.mk (blk_below (g := gb202) (o := .cells #[.int .i64 a0_0, .int .i64 a0_1, .string a0_2, .bool a0_3, .int .i64 a0_4] 24 (0, 0)) (by (with_reducible repeat (first | refine blk_drewN ?_ _ | refine blk_drew ?_ | refine blk_alloc ?_ _)); exact BK202.out) hb); have n1_ := Aside0.mk (below_step (by repeat (first | (with_reducible first | exact HB.out | apply below_alloc | apply pw_below_drewN | apply below_drew1 | refine below_set ?_ GE202.out) | exact HB.out)) hb); have n2_ := Aside0.mk (hbox); have n3_ := Aside0.mk ((by rw [hg]; exact (below_size (by repeat (first | (with_reducible first | exact HB.out | apply below_alloc | apply pw_below_drewN | apply below_drew1 | refine below_set ?_ GE202.out) | exact HB.out))) : w.heap.size ≤ gb203)); have n4_ := Aside0.mk ((by rw [hg]; exact (below_size (by repeat (first | (with_reducible first | exact HB.out | apply below_alloc | apply pw_below_drewN | apply below_drew1 | refine below_set ?_ GE202.out) | exact HB.out))) : w.heap.size ≤ gb203)); have n5_ := Aside0.mk ((by rw [hg]; exact Nat.ne_of_lt (blk_lt (g := gb202) (o := .cells #[.int .i64 a0_0, .int .i64 a0_1, .string a0_2, .bool a0_3, .int .i64 a0_4] 24 (0, 0)) (by (with_reducible repeat (first | refine blk_drewN ?_ _ | refine blk_drew ?_ | refine blk_alloc ?_ _)); exact BK202.out)) : gb202 ≠ gb203)); have n6_ := Aside0.mk ((by rw [hg]; exact Nat.ne_of_gt (blk_lt (g := gb202) (o := .cells #[.int .i64 a0_0, .int .i64 a0_1, .string a0_2, .bool a0_3, .int .i64 a0_4] 24 (0, 0)) (by (with_reducible repeat (first | refine blk_drewN ?_ _ | refine blk_drew ?_ | refine blk_alloc ?_ _)); exact BK202.out)) : gb203 ≠ gb202)); clear BK202; clear HB; have BK202 := n0_; have HB := n1_; have BK203 := n2_; have GW203 := n3_; have GE203 := n4_; have NB202_203 := n5_; have NB203_202 := n6_; clear n0_ n1_ n2_ n3_ n4_ n5_ n6_; clear hb hbox hg; have hnb19 := NB202_203.out; have hnc19 := NB203_202.out; have hcz20_0 : w18.cell? ⟨gb202, 0, none⟩ = some (.int .i64 a0_0) := (blk_cell BK202.out 0).trans rfl; have hcz20_1 : w18.cell? ⟨gb202, 1, none⟩ = some (.int .i64 a0_1) := (blk_cell BK202.out 1).trans rfl; have hcz20_2 : w18.cell? ⟨gb202, 2, none⟩ = some (.string a0_2) := (blk_cell BK202.out 2).trans rfl; have hcz20_3 : w18.cell? ⟨gb202, 3, none⟩ = some (.bool a0_3) := (blk_cell BK202.out 3).trans rfl; have hcz20_4 : w18.cell? ⟨gb202, 4, none⟩ = some (.int .i64 a0_4) := (blk_cell BK202.out 4).trans rfl; have hfz20_0 := blk_frozen BK202.out 0; have hfz20_1 := blk_frozen BK202.out 1; have hfz20_2 := blk_frozen BK202.out 2; have hfz20_3 := blk_frozen BK202.out 3; have hfz20_4 := blk_frozen BK202.out 4; have hcz21_0 : w18.cell? ⟨gb203, 0, none⟩ = some (.int .i64 a1_0) := (blk_cell BK203.out 0).trans rfl; have hcz21_1 : w18.cell? ⟨gb203, 1, none⟩ = some (.int .i64 a1_1) := (blk_cell BK203.out 1).trans rfl; have hcz21_2 : w18.cell? ⟨gb203, 2, none⟩ = some (.string a1_2) := (blk_cell BK203.out 2).trans rfl; have hcz21_3 : w18.cell? ⟨gb203, 3, none⟩ = some (.bool a1_3) := (blk_cell BK203.out 3).trans rfl; have hcz21_4 : w18.cell? ⟨gb203, 4, none⟩ = some (.int .i64 a1_4) := (blk_cell BK203.out 4).trans rfl; have hfz21_0 := blk_frozen BK203.out 0; have hfz21_1 := blk_frozen BK203.out 1; have hfz21_2 := blk_frozen BK203.out 2; have hfz21_3 := blk_frozen BK203.out 3; have hfz21_4 := blk_frozen BK203.out 4))
    go_ret
    exact ⟨by first | rfl | (simp [errW_none, errW_some] <;> rfl) | (simp [*, errW_none, errW_some] <;> rfl) | (simp [*, errW_none, errW_some] <;> (generalize ByteArray.toList _ = l_; cases l_ <;> rfl)), by repeat (first | (with_reducible first | exact HB.out | apply below_alloc | apply pw_below_drewN | apply below_drew1 | refine below_set ?_ GE202.out | refine below_set ?_ GE203.out) | exact HB.out)⟩
  ·rw [if_neg c4] at H
   have c4b0 : (a0_1 == a1_1) = false := beq_eq_false_iff_ne.mpr c4
   have c4b1 : (a0_1 != a1_1) = true := bne_iff_ne.mpr c4
   obtain rfl := Option.some.inj H
   go_enter Tryz.func14, Tryz.ntmps14
   go_wp2_with (first | ((with_reducible refine gate_dst (N := 2) rfl ?_); refine box_event ?hg (N := 2) ?hd (cs := #[.int .i64 a0_0, .int .i64 a0_1, .string a0_2, .bool a0_3, .int .i64 a0_4]) (t := 24) ?hr ?_; (case hd => rfl); (case hg => rfl); (case hr => first | (go_simp; done) | (go_simp; rfl)); intro gb202 hg w22 hbox hb; have n0_ := Aside0.mk (below_step (by repeat (first | (with_reducible first | exact HB.out | apply below_alloc | apply pw_below_drewN | apply below_drew1) | exact HB.out)) hb); have n1_ := Aside0.mk (hbox); have n2_ := Aside0.mk ((by rw [hg]; exact (below_size (by repeat (first | (with_reducible first | exact HB.out | apply below_alloc | apply pw_below_drewN | apply below_drew1) | exact HB.out))) : w.heap.size ≤ gb202)); have n3_ := Aside0.mk ((by rw [hg]; exact (below_size (by repeat (first | (with_reducible first | exact HB.out | apply below_alloc | apply pw_below_drewN | apply below_drew1) | exact HB.out))) : w.heap.size ≤ gb202)); clear HB; have HB := n0_; have BK202 := n1_; have GW202 := n2_; have GE202 := n3_; clear n0_ n1_ n2_ n3_; clear hb hbox hg) | ((with_reducible refine gate_dst (N := 3) rfl ?_); refine box_event ?hg (N := 3) ?hd (cs := #[.int .i64 a1_0, .int .i64 a1_1, .string a1_2, .bool a1_3, .int .i64 a1_4]) (t := 24) ?hr ?_; (case hd => rfl); (case hg => rfl); (case hr => first | (go_simp; done) | (go_simp; rfl)); intro gb203 hg w23 hbox hb; have n0_ := Aside0.mk (blk_below (g := gb202) (o := .cells #[.int .i64 a0_0, .int .i64 a0_1, .string a0_2, .bool a0_3, .int .i64 a0_4] 24 (0, 0)) (by (with_reducible repeat (first | refine blk_drewN ?_ _ | refine blk_drew ?_ | refine blk_alloc ?_ _)); exact BK202.out) hb); have n1_ := Aside0.mk (below_step (by repeat (first | (with_reducible first | exact HB.out | apply below_alloc | apply pw_below_drewN | apply below_drew1 | refine below_set ?_ GE202.out) | exact HB.out)) hb); have n2_ := Aside0.mk (hbox); have n3_ := Aside0.mk ((by rw [hg]; exact (below_size (by repeat (first | (with_reducible first | exact HB.out | apply below_alloc | apply pw_below_drewN | apply below_drew1 | refine below_set ?_ GE202.out) | exact HB.out))) : w.heap.size ≤ gb203)); have n4_ := Aside0.mk ((by rw [hg]; exact (below_size (by repeat (first | (with_reducible first | exact HB.out | apply below_alloc | apply pw_below_drewN | apply below_drew1 | refine below_set ?_ GE202.out) | exact HB.out))) : w.heap.size ≤ gb203)); have n5_ := Aside0.mk ((by rw [hg]; exact Nat.ne_of_lt (blk_lt (g := gb202) (o := .cells #[.int .i64 a0_0, .int .i64 a0_1, .string a0_2, .bool a0_3, .int .i64 a0_4] 24 (0, 0)) (by (with_reducible repeat (first | refine blk_drewN ?_ _ | refine blk_drew ?_ | refine blk_alloc ?_ _)); exact BK202.out)) : gb202 ≠ gb203)); have n6_ := Aside0.mk ((by rw [hg]; exact Nat.ne_of_gt (blk_lt (g := gb202) (o := .cells #[.int .i64 a0_0, .int .i64 a0_1, .string a0_2, .bool a0_3, .int .i64 a0_4] 24 (0, 0)) (by (with_reducible repeat (first | refine blk_drewN ?_ _ | refine blk_drew ?_ | refine blk_alloc ?_ _)); exact BK202.out)) : gb203 ≠ gb202)); clear BK202; clear HB; have BK202 := n0_; have HB := n1_; have BK203 := n2_; have GW203 := n3_; have GE203 := n4_; have NB202_203 := n5_; have NB203_202 := n6_; clear n0_ n1_ n2_ n3_ n4_ n5_ n6_; clear hb hbox hg; have hnb24 := NB202_203.out; have hnc24 := NB203_202.out; have hcz25_0 : w23.cell? ⟨gb202, 0, none⟩ = some (.int .i64 a0_0) := (blk_cell BK202.out 0).trans rfl; have hcz25_1 : w23.cell? ⟨gb202, 1, none⟩ = some (.int .i64 a0_1) := (blk_cell BK202.out 1).trans rfl; have hcz25_2 : w23.cell? ⟨gb202, 2, none⟩ = some (.string a0_2) := (blk_cell BK202.out 2).trans rfl; have hcz25_3 : w23.cell? ⟨gb202, 3, none⟩ = some (.bool a0_3) := (blk_cell BK202.out 3).trans rfl; have hcz25_4 : w23.cell? ⟨gb202, 4, none⟩ = some (.int .i64 a0_4) := (blk_cell BK202.out 4).trans rfl; have hfz25_0 := blk_frozen BK202.out 0; have hfz25_1 := blk_frozen BK202.out 1; have hfz25_2 := blk_frozen BK202.out 2; have hfz25_3 := blk_frozen BK202.out 3; have hfz25_4 := blk_frozen BK202.out 4; have hcz26_0 : w23.cell? ⟨gb203, 0, none⟩ = some (.int .i64 a1_0) := (blk_cell BK203.out 0).trans rfl; have hcz26_1 : w23.cell? ⟨gb203, 1, none⟩ = some (.int .i64 a1_1) := (blk_cell BK203.out 1).trans rfl; have hcz26_2 : w23.cell? ⟨gb203, 2, none⟩ = some (.string a1_2) := (blk_cell BK203.out 2).trans rfl; have hcz26_3 : w23.cell? ⟨gb203, 3, none⟩ = some (.bool a1_3) := (blk_cell BK203.out 3).trans rfl; have hcz26_4 : w23.cell? ⟨gb203, 4, none⟩ = some (.int .i64 a1_4) := (blk_cell BK203.out 4).trans rfl; have hfz26_0 := blk_frozen BK203.out 0; have hfz26_1 := blk_frozen BK203.out 1; have hfz26_2 := blk_frozen BK203.out 2; have hfz26_3 := blk_frozen BK203.out 3; have hfz26_4 := blk_frozen BK203.out 4))
   go_ret
   exact ⟨by first | rfl | (simp [errW_none, errW_some] <;> rfl) | (simp [*, errW_none, errW_some] <;> rfl) | (simp [*, errW_none, errW_some] <;> (generalize ByteArray.toList _ = l_; cases l_ <;> rfl)), by repeat (first | (with_reducible first | exact HB.out | apply below_alloc | apply pw_below_drewN | apply below_drew1 | refine below_set ?_ GE202.out | refine below_set ?_ GE203.out) | exact HB.out)⟩
 ·rw [if_neg c3] at H
  have c3b0 : (a0_0 == a1_0) = false := beq_eq_false_iff_ne.mpr c3
  have c3b1 : (a0_0 != a1_0) = true := bne_iff_ne.mpr c3
  obtain rfl := Option.some.inj H
  go_enter Tryz.func14, Tryz.ntmps14
  go_wp2_with (first | ((with_reducible refine gate_dst (N := 2) rfl ?_); refine box_event ?hg (N := 2) ?hd (cs := #[.int .i64 a0_0, .int .i64 a0_1, .string a0_2, .bool a0_3, .int .i64 a0_4]) (t := 24) ?hr ?_; (case hd => rfl); (case hg => rfl); (case hr => first | (go_simp; done) | (go_simp; rfl)); intro gb202 hg w27 hbox hb; have n0_ := Aside0.mk (below_step (by repeat (first | (with_reducible first | exact HB.out | apply below_alloc | apply pw_below_drewN | apply below_drew1) | exact HB.out)) hb); have n1_ := Aside0.mk (hbox); have n2_ := Aside0.mk ((by rw [hg]; exact (below_size (by repeat (first | (with_reducible first | exact HB.out | apply below_alloc | apply pw_below_drewN | apply below_drew1) | exact HB.out))) : w.heap.size ≤ gb202)); have n3_ := Aside0.mk ((by rw [hg]; exact (below_size (by repeat (first | (with_reducible first | exact HB.out | apply below_alloc | apply pw_below_drewN | apply below_drew1) | exact HB.out))) : w.heap.size ≤ gb202)); clear HB; have HB := n0_; have BK202 := n1_; have GW202 := n2_; have GE202 := n3_; clear n0_ n1_ n2_ n3_; clear hb hbox hg) | ((with_reducible refine gate_dst (N := 3) rfl ?_); refine box_event ?hg (N := 3) ?hd (cs := #[.int .i64 a1_0, .int .i64 a1_1, .string a1_2, .bool a1_3, .int .i64 a1_4]) (t := 24) ?hr ?_; (case hd => rfl); (case hg => rfl); (case hr => first | (go_simp; done) | (go_simp; rfl)); intro gb203 hg w28 hbox hb; have n0_ := Aside0.mk (blk_below (g := gb202) (o := .cells #[.int .i64 a0_0, .int .i64 a0_1, .string a0_2, .bool a0_3, .int .i64 a0_4] 24 (0, 0)) (by (with_reducible repeat (first | refine blk_drewN ?_ _ | refine blk_drew ?_ | refine blk_alloc ?_ _)); exact BK202.out) hb); have n1_ := Aside0.mk (below_step (by repeat (first | (with_reducible first | exact HB.out | apply below_alloc | apply pw_below_drewN | apply below_drew1 | refine below_set ?_ GE202.out) | exact HB.out)) hb); have n2_ := Aside0.mk (hbox); have n3_ := Aside0.mk ((by rw [hg]; exact (below_size (by repeat (first | (with_reducible first | exact HB.out | apply below_alloc | apply pw_below_drewN | apply below_drew1 | refine below_set ?_ GE202.out) | exact HB.out))) : w.heap.size ≤ gb203)); have n4_ := Aside0.mk ((by rw [hg]; exact (below_size (by repeat (first | (with_reducible first | exact HB.out | apply below_alloc | apply pw_below_drewN | apply below_drew1 | refine below_set ?_ GE202.out) | exact HB.out))) : w.heap.size ≤ gb203)); have n5_ := Aside0.mk ((by rw [hg]; exact Nat.ne_of_lt (blk_lt (g := gb202) (o := .cells #[.int .i64 a0_0, .int .i64 a0_1, .string a0_2, .bool a0_3, .int .i64 a0_4] 24 (0, 0)) (by (with_reducible repeat (first | refine blk_drewN ?_ _ | refine blk_drew ?_ | refine blk_alloc ?_ _)); exact BK202.out)) : gb202 ≠ gb203)); have n6_ := Aside0.mk ((by rw [hg]; exact Nat.ne_of_gt (blk_lt (g := gb202) (o := .cells #[.int .i64 a0_0, .int .i64 a0_1, .string a0_2, .bool a0_3, .int .i64 a0_4] 24 (0, 0)) (by (with_reducible repeat (first | refine blk_drewN ?_ _ | refine blk_drew ?_ | refine blk_alloc ?_ _)); exact BK202.out)) : gb203 ≠ gb202)); clear BK202; clear HB; have BK202 := n0_; have HB := n1_; have BK203 := n2_; have GW203 := n3_; have GE203 := n4_; have NB202_203 := n5_; have NB203_202 := n6_; clear n0_ n1_ n2_ n3_ n4_ n5_ n6_; clear hb hbox hg; have hnb29 := NB202_203.out; have hnc29 := NB203_202.out; have hcz30_0 : w28.cell? ⟨gb202, 0, none⟩ = some (.int .i64 a0_0) := (blk_cell BK202.out 0).trans rfl; have hcz30_1 : w28.cell? ⟨gb202, 1, none⟩ = some (.int .i64 a0_1) := (blk_cell BK202.out 1).trans rfl; have hcz30_2 : w28.cell? ⟨gb202, 2, none⟩ = some (.string a0_2) := (blk_cell BK202.out 2).trans rfl; have hcz30_3 : w28.cell? ⟨gb202, 3, none⟩ = some (.bool a0_3) := (blk_cell BK202.out 3).trans rfl; have hcz30_4 : w28.cell? ⟨gb202, 4, none⟩ = some (.int .i64 a0_4) := (blk_cell BK202.out 4).trans rfl; have hfz30_0 := blk_frozen BK202.out 0; have hfz30_1 := blk_frozen BK202.out 1; have hfz30_2 := blk_frozen BK202.out 2; have hfz30_3 := blk_frozen BK202.out 3; have hfz30_4 := blk_frozen BK202.out 4; have hcz31_0 : w28.cell? ⟨gb203, 0, none⟩ = some (.int .i64 a1_0) := (blk_cell BK203.out 0).trans rfl; have hcz31_1 : w28.cell? ⟨gb203, 1, none⟩ = some (.int .i64 a1_1) := (blk_cell BK203.out 1).trans rfl; have hcz31_2 : w28.cell? ⟨gb203, 2, none⟩ = some (.string a1_2) := (blk_cell BK203.out 2).trans rfl; have hcz31_3 : w28.cell? ⟨gb203, 3, none⟩ = some (.bool a1_3) := (blk_cell BK203.out 3).trans rfl; have hcz31_4 : w28.cell? ⟨gb203, 4, none⟩ = some (.int .i64 a1_4) := (blk_cell BK203.out 4).trans rfl; have hfz31_0 := blk_frozen BK203.out 0; have hfz31_1 := blk_frozen BK203.out 1; have hfz31_2 := blk_frozen BK203.out 2; have hfz31_3 := blk_frozen BK203.out 3; have hfz31_4 := blk_frozen BK203.out 4))
  go_ret
  exact ⟨by first | rfl | (simp [errW_none, errW_some] <;> rfl) | (simp [*, errW_none, errW_some] <;> rfl) | (simp [*, errW_none, errW_some] <;> (generalize ByteArray.toList _ = l_; cases l_ <;> rfl)), by repeat (first | (with_reducible first | exact HB.out | apply below_alloc | apply pw_below_drewN | apply below_drew1 | refine below_set ?_ GE202.out | refine below_set ?_ GE203.out) | exact HB.out)⟩
end Go.Proofs.YtfnbflhoaemmeaaGreatDoor.EVal
end
section
namespace Go.Proofs.YtfnbflhoaemmeaaGreatDoor.EBui
open Go.RowKit Go.Lib Go.Proofs.YtfnbflhoaemmeaaGreatDoorW.PrintWords Go.Proofs.YtfnbflhoaemmeaaGreatDoorW.PrintLast Go.Proofs.YtfnbflhoaemmeaaGreatDoor.Ext Go.Proofs.YtfnbflhoaemmeaaGreatDoor.EFxA Go.Proofs.YtfnbflhoaemmeaaGreatDoor.EFix Go.Proofs.YtfnbflhoaemmeaaGreatDoor.EVal
set_option linter.unusedVariables false
set_option linter.unusedSimpArgs false
def okX (x : S24) : Prop := x.f2.size ≤ 250 ∧ int64 x.f1
theorem cutAll_l (l0 : List S24) (m : Nat) (hm : m ≤ 100) (hi : ∀ x ∈ l0, int64 x.f1) : ∀ (n j : Nat), j + n = m → ∀ x5 : List S24, x5.length = j → (∀ x ∈ x5, okX x) →
    ∃ l, (∀ k, n + 1 ≤ k → counterpanelaw2_CutAll.l0 k l0 (m : Int) x5 (j : Int) = some l) ∧ l.length ≤ m ∧ ∀ x ∈ l, okX x
  | 0, j, hj, x5, h5, ho => ⟨x5, fun k hk => by
    obtain ⟨q, rfl⟩ : ∃ q, k = q + 1 := ⟨k - 1, by omega⟩
    rw [counterpanelaw2_CutAll.l0, if_neg (show ¬ ((j : Int) < (m : Int)) by omega)]
    split <;> rfl, by omega, ho⟩
  | n + 1, j, hj, x5, h5, ho => by
    by_cases c : j < l0.length
    · obtain ⟨x, hx⟩ : ∃ x, l0[j] = x := ⟨_, rfl⟩
      have hxm : x ∈ l0 := hx ▸ List.getElem_mem c
      obtain ⟨t, ht, hs⟩ := cut_f x.f0 x.f1 x.f2 x.f3 x.f4
      obtain ⟨l, h1, h2, h3⟩ := cutAll_l l0 m hm hi n (j + 1) (by omega) (x5 ++ [⟨x.f0, x.f1, t, x.f3, x.f4⟩]) (by rw [List.length_append, List.length_singleton, h5]) (fun y hy => by
        rw [List.mem_append, List.mem_singleton] at hy
        rcases hy with hy | rfl
        · exact ho y hy
        · exact ⟨hs, hi x hxm⟩)
      refine ⟨l, fun k hk => ?_, h2, h3⟩
      obtain ⟨q, rfl⟩ : ∃ q, k = q + 1 := ⟨k - 1, by omega⟩
      rw [counterpanelaw2_CutAll.l0, if_pos (by omega), if_pos (by omega), if_pos (by omega), rdX l0 j c, hx, ht, Option.bind_some, if_pos (by omega), wr1 j m (by omega) (by omega)]
      exact h1 q (by omega)
    · exact ⟨x5, fun k hk => by
        obtain ⟨q, rfl⟩ : ∃ q, k = q + 1 := ⟨k - 1, by omega⟩
        rw [counterpanelaw2_CutAll.l0, if_neg (by omega)], by omega, ho⟩
theorem cutAll_f (l0 : List S24) (m : Nat) (hm : m ≤ 100) (hi : ∀ x ∈ l0, int64 x.f1) : ∃ k l, counterpanelaw2_CutAll.f k l0 (m : Int) = some l ∧ l.length ≤ m ∧ ∀ x ∈ l, okX x := by
  obtain ⟨l, h1, h2, h3⟩ := cutAll_l l0 m hm hi m 0 (by omega) [] rfl (by simp)
  exact ⟨m + 1, l, h1 _ (Nat.le_refl _), h2, h3⟩
theorem wst_zero (a : Int) : wst a 0 = a := by
  unfold wst
  rw [if_neg (fun h => absurd h.1 (by decide))]
theorem refWorst_l (l : List S24) (hl : l.length ≤ 1000) (ho : ∀ x ∈ l, okX x) : ∀ (n j : Nat), j + n = l.length → ∀ (a : Int) (k : Nat), n + 3000 ≤ k → counterpaneref1_Worst.l0 k l a (j : Int) = some ((l.drop j).foldl (fun a x => wst a (errX x)) a)
  | 0, j, hj, a, k, hk => by
    obtain ⟨q, rfl⟩ : ∃ q, k = q + 1 := ⟨k - 1, by omega⟩
    rw [counterpaneref1_Worst.l0, if_neg (by omega), List.drop_of_length_le (by omega)]
    rfl
  | n + 1, j, hj, a, k, hk => by
    obtain ⟨q, rfl⟩ : ∃ q, k = q + 1 := ⟨k - 1, by omega⟩
    have c : j < l.length := by omega
    obtain ⟨x, hx⟩ : ∃ x, l[j] = x := ⟨_, rfl⟩
    have hxo := ho x (hx ▸ List.getElem_mem c)
    have ih : ∀ b : Int, counterpaneref1_Worst.l0 q l b ((j + 1 : Nat) : Int) = some ((l.drop (j + 1)).foldl (fun a x => wst a (errX x)) b) := fun b => refWorst_l l hl ho n (j + 1) (by omega) b q (by omega)
    rw [counterpaneref1_Worst.l0, if_pos (by omega), if_pos (by omega), rdX l j c, hx, wr1 j _ c (by omega), refMay_f q x.f0 x.f1 x.f2 x.f3 x.f4 (by have := hxo.1; omega) (by have := hxo.1; omega), Option.bind_some, List.drop_eq_getElem_cons c, hx, List.foldl_cons]
    simp only [ih]
    by_cases c4 : x.f0 = 4
    · rw [if_pos c4]
      cases g : mayS (x.f0, x.f1, x.f2, x.f3, x.f4) with
      | false =>
        have he : errX x = 0 := by unfold errX; rw [if_neg (fun h => by have := h.2; rw [show v5 x = (x.f0, x.f1, x.f2, x.f3, x.f4) from rfl, g] at this; cases this)]
        rw [if_neg (by simp), he, wst_zero]
      | true =>
        have he : errX x = x.f4 := by unfold errX; rw [if_pos ⟨c4, g⟩]
        have hp : x.f4 > 0 := by
          rcases may_def _ _ _ _ _ g with h | h | h | h | h <;> omega
        rw [if_pos rfl, he]
        by_cases c5 : a = 0
        · rw [if_pos c5]
          unfold wst
          rw [if_pos ⟨hp, Or.inl c5⟩]
        · rw [if_neg c5]
          by_cases c6 : x.f4 < a
          · rw [if_pos c6]
            unfold wst
            rw [if_pos ⟨hp, Or.inr c6⟩]
          · rw [if_neg c6]
            unfold wst
            rw [if_neg (fun h => by rcases h.2 with h | h <;> omega)]
    · have he : errX x = 0 := by unfold errX; rw [if_neg (fun h => c4 h.1)]
      rw [if_neg c4, he, wst_zero]
theorem fold2 : ∀ (l : List S24) (p : List Int × Int), (l.foldl stepA p).2 = l.foldl (fun a x => wst a (errX x)) p.2
  | [], p => rfl
  | x :: l, p => by rw [List.foldl_cons, List.foldl_cons, fold2 l]; rfl
theorem fold1 : ∀ (l : List S24) (p : List Int × Int), (∀ x ∈ l, int64 x.f1) → (∀ a ∈ p.1, int64 a) → (∀ a ∈ (l.foldl stepA p).1, int64 a) ∧ (l.foldl stepA p).1.length ≤ p.1.length + l.length
  | [], p, _, hp => ⟨hp, by simp⟩
  | x :: l, p, hl, hp => by
    rw [List.foldl_cons, List.length_cons]
    obtain ⟨h1, h2⟩ := fold1 l (stepA p x) (fun y hy => hl y (List.mem_cons_of_mem _ hy)) (by
      rw [stepA_eq]
      intro a ha
      simp only at ha
      split at ha
      · rw [List.mem_append, List.mem_singleton] at ha
        rcases ha with ha | rfl
        · exact hp a ha
        · exact hl x List.mem_cons_self
      · exact hp a ha)
    refine ⟨h1, ?_⟩
    have : (stepA p x).1.length ≤ p.1.length + 1 := by
      rw [stepA_eq]
      simp only
      split
      · rw [List.length_append, List.length_singleton]; omega
      · omega
    omega
theorem refWorst_f (l : List S24) (hl : l.length ≤ 1000) (ho : ∀ x ∈ l, okX x) : ∃ k, counterpaneref1_Worst.f k l = some (l.foldl stepA ([], 0)).2 := by
  refine ⟨l.length + 3000, ?_⟩
  unfold counterpaneref1_Worst.f
  have := refWorst_l l hl ho l.length 0 (by omega) 0 (l.length + 3000) (Nat.le_refl _)
  rw [fold2]
  exact this
theorem both_eq (nm : ByteArray) (l : List S24) (hl : l.length ≤ 1000) (ho : ∀ x ∈ l, okX x) :
    ∃ r : R5, ((l.foldl stepA ([], 0)).2 > 0 → r = (4, 0, (⟨#[]⟩ : ByteArray), false, (l.foldl stepA ([], 0)).2)) ∧
      ∀ c, c ≤ l.length → (∃ k, builtin_all.f k nm [⟨true, l⟩] = some r) ∧ (∃ k, builtin_all.f k nm [⟨true, l.take c⟩, ⟨true, l.drop c⟩] = some r) := by
  obtain ⟨f1, f2⟩ := fold1 l ([], 0) (fun x hx => (ho x hx).2) (by simp)
  obtain ⟨r, h1, _, h3⟩ := all_eq nm (l.foldl stepA ([], 0)) (by simp at f2; omega) f1
  refine ⟨r, h1, fun c hc => ⟨h3 _ ?_ (by simp) ?_, h3 _ ?_ (by simp) ?_⟩⟩
  · intro a ha
    rw [List.mem_singleton] at ha
    subst ha
    exact ⟨fun x hx => by have := (ho x hx).1; omega, hl⟩
  · show (l ++ []).foldl stepA ([], 0) = _
    rw [List.append_nil]
  · intro a ha
    simp only [List.mem_cons, List.not_mem_nil, or_false] at ha
    rcases ha with rfl | rfl
    · exact ⟨fun x hx => by have := (ho x (List.mem_of_mem_take hx)).1; omega, by show (l.take c).length ≤ _; rw [List.length_take]; omega⟩
    · exact ⟨fun x hx => by have := (ho x (List.mem_of_mem_drop hx)).1; omega, by show (l.drop c).length ≤ _; rw [List.length_drop]; omega⟩
  · show (l.take c ++ (l.drop c ++ [])).foldl stepA ([], 0) = _
    rw [List.append_nil, List.take_append_drop]
theorem eq_self (a b : Int) (t : ByteArray) (d : Bool) (e : Int) : counterpaneref1_Eq.f a b t d e a b t d e = some true := by
  unfold counterpaneref1_Eq.f
  rw [if_pos rfl, if_pos rfl, if_pos rfl, if_pos (by simp)]
  simp
end Go.Proofs.YtfnbflhoaemmeaaGreatDoor.EBui
end
