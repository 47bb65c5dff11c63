/- Part 6 of what the claim's proof stands on: contracts of the program's functions, by walks, and plain laws. -/
import Derived.Test.YtfnbflhoaemmeaaGreatDoorZc5
import Derived.Deep.QuietTactic
import Derived.WalkKit
section
namespace Go.Proofs.YtfnbflhoaemmeaaGreatDoor.EBui
open Go.RowKit Go.Lib Go.Proofs.YtfnbflhoaemmeaaGreatDoorW.PrintWords Go.Proofs.YtfnbflhoaemmeaaGreatDoorW.PrintLast Go.Proofs.YtfnbflhoaemmeaaGreatDoorW.PrintMore Go.Proofs.YtfnbflhoaemmeaaGreatDoor.Ext Go.Proofs.YtfnbflhoaemmeaaGreatDoor.EFxA Go.Proofs.YtfnbflhoaemmeaaGreatDoor.EFix Go.Proofs.YtfnbflhoaemmeaaGreatDoor.EVal
attribute [local go_sem] max2_int min2_int max_two min_two max_three min_three max_four min_four
set_option linter.unusedVariables false
set_option linter.unusedSimpArgs false
set_option maxHeartbeats 8000000 in
set_option maxRecDepth 100000 in
theorem arity_SUM (w : World) :
    Calls Tryz.prog 53 #[.string (⟨#[83, 85, 77]⟩ : ByteArray)] w fun e w' => e = .returned (.tuple #[.int .i64 0, .int .i64 810000, .bool true]) ∧ Drawn0 w w' := by
  have hu24 := Tryz.underlying24
  have HB := Aside0.mk (Below.refl w.heap.size w)
  go_enter Tryz.func53, Tryz.ntmps53
  go_wp2
  go_ret3
  exact ⟨by first | rfl | (simp; done) | (simp [*]; done), by repeat (first | exact Drawn0.refl _ | apply Drawn0.step)⟩
set_option maxHeartbeats 8000000 in
set_option maxRecDepth 100000 in
theorem arity_IF (w : World) :
    Calls Tryz.prog 53 #[.string (⟨#[73, 70]⟩ : ByteArray)] w fun e w' => e = .returned (.tuple #[.int .i64 2, .int .i64 3, .bool false]) ∧ Drawn0 w w' := by
  have hu24 := Tryz.underlying24
  have HB := Aside0.mk (Below.refl w.heap.size w)
  go_enter Tryz.func53, Tryz.ntmps53
  go_wp2
  go_ret3
  exact ⟨by first | rfl | (simp; done) | (simp [*]; done), by repeat (first | exact Drawn0.refl _ | apply Drawn0.step)⟩
set_option maxHeartbeats 8000000 in
set_option maxRecDepth 100000 in
theorem arity_if (w : World) :
    Calls Tryz.prog 53 #[.string (⟨#[105, 102]⟩ : ByteArray)] w fun e w' => e = .returned (.tuple #[.int .i64 (-1), .int .i64 (-1), .bool false]) ∧ Drawn0 w w' := by
  have hu24 := Tryz.underlying24
  have HB := Aside0.mk (Below.refl w.heap.size w)
  go_enter Tryz.func53, Tryz.ntmps53
  go_wp2
  go_ret3
  exact ⟨by first | rfl | (simp; done) | (simp [*]; done), by repeat (first | exact Drawn0.refl _ | apply Drawn0.step)⟩
set_option maxHeartbeats 8000000 in
set_option maxRecDepth 100000 in
theorem known_IF (w : World) :
    Calls Tryz.prog 51 #[.string (⟨#[73, 70]⟩ : ByteArray)] w fun e w' => e = .returned (.bool true) ∧ Drawn0 w w' := by
  have hu24 := Tryz.underlying24
  have HB := Aside0.mk (Below.refl w.heap.size w)
  go_enter Tryz.func51, Tryz.ntmps51
  go_wp2_with (first
    | ((with_reducible refine gate_callee (f := 53) rfl ?_); (try (refine gate_guard (by rfl) ?_; dsimp only)); refine goesL_ (some 8) rfl rfl Tryz.func53 (by kernel_rfl) rfl #[.string (⟨#[73, 70]⟩ : ByteArray)] rfl (by (try simp only [List.map_toArray, List.map_cons, List.map_nil]); first | done | rfl) ?_; (refine (arity_IF _).mono ?_); rintro e_ w_ ⟨rfl, ⟨nd, rfl⟩⟩; refine ⟨_, rfl, ?_⟩))
  go_ret
  exact ⟨by first | rfl | (simp; done) | (simp [*]; done), by repeat (first | exact Drawn0.refl _ | apply Drawn0.step)⟩
set_option maxHeartbeats 8000000 in
set_option maxRecDepth 100000 in
theorem known_if (w : World) :
    Calls Tryz.prog 51 #[.string (⟨#[105, 102]⟩ : ByteArray)] w fun e w' => e = .returned (.bool false) ∧ Drawn0 w w' := by
  have hu24 := Tryz.underlying24
  have HB := Aside0.mk (Below.refl w.heap.size w)
  go_enter Tryz.func51, Tryz.ntmps51
  go_wp2_with (first
    | ((with_reducible refine gate_callee (f := 53) rfl ?_); (try (refine gate_guard (by rfl) ?_; dsimp only)); refine goesL_ (some 8) rfl rfl Tryz.func53 (by kernel_rfl) rfl #[.string (⟨#[105, 102]⟩ : ByteArray)] rfl (by (try simp only [List.map_toArray, List.map_cons, List.map_nil]); first | done | rfl) ?_; (refine (arity_if _).mono ?_); rintro e_ w_ ⟨rfl, ⟨nd, rfl⟩⟩; refine ⟨_, rfl, ?_⟩))
  go_ret
  exact ⟨by first | rfl | (simp; done) | (simp [*]; done), by repeat (first | exact Drawn0.refl _ | apply Drawn0.step)⟩
set_option maxHeartbeats 8000000 in
set_option maxRecDepth 100000 in
theorem least_00 (w : World) :
    Calls Tryz.prog 57 #[.int .i64 0, .int .i64 0] w fun e w' => e = .returned (.int .i64 0) ∧ Drawn0 w w' := by
  have hu24 := Tryz.underlying24
  have HB := Aside0.mk (Below.refl w.heap.size w)
  go_enter Tryz.func57, Tryz.ntmps57
  go_wp2
  go_ret
  exact ⟨by first | rfl | (simp; done) | (simp [*]; done), by repeat (first | exact Drawn0.refl _ | apply Drawn0.step)⟩
set_option maxHeartbeats 8000000 in
set_option maxRecDepth 100000 in
theorem arith_div (w : World) :
    Calls Tryz.prog 58 #[.string (⟨#[47]⟩ : ByteArray), .int .i64 1, .int .i64 0] w fun e w' => e = .returned (.agg #[.int .i64 4, .int .i64 0, .string (⟨#[]⟩ : ByteArray), .bool false, .int .i64 3]) ∧ Below w.heap.size w w' := by
  have hu24 := Tryz.underlying24
  have HB := Aside0.mk (Below.refl w.heap.size w)
  go_enter Tryz.func58, Tryz.ntmps58
  go_wp2_with (first
    | ((with_reducible refine gate_dst (N := 6) rfl ?_); (try (refine gate_guard (by rfl) ?_; dsimp only)); refine box_event ?hg (N := 6) ?hd (cs := cs5 0 0 (⟨#[]⟩ : ByteArray) false 0) (t := 24) ?hr ?_; (case hd => rfl); (case hg => rfl); (case hr => first | (go_simp; done) | (go_simp; rfl)); intro gR hg wR hbox hb; have GER := Aside0.mk ((by rw [hg]; exact (below_size (by repeat (first | (with_reducible first | exact HB.out | apply bA | apply below_drew | apply bN | apply bD) | exact HB.out))) : w.heap.size ≤ gR)); have nX_ := Aside0.mk hbox; have n0_ := Aside0.mk (below_step (by repeat (first | (with_reducible first | exact HB.out | apply bA | apply below_drew | apply bN | apply bD) | exact HB.out)) hb); clear HB ; have HB := n0_; clear n0_ hb; have BKR := nX_; clear nX_ hbox hg; obtain ⟨zR0, zR1, zR2, zR3, zR4, zRf0, zRf1, zRf2, zRf3, zRf4⟩ := five BKR.out)
    | ((with_reducible refine gate_callee (f := 54) rfl ?_); (try (refine gate_guard (by rfl) ?_; dsimp only)); refine goesL_ (some 38) rfl rfl Tryz.func54 (by kernel_rfl) rfl #[.int .i64 3] rfl (by (try simp only [List.map_toArray, List.map_cons, List.map_nil]); first | done | rfl) ?_; (refine (builtin_failed.calls 3 4 0 (⟨#[]⟩ : ByteArray) false 3 _ rfl).mono ?_); rintro e_ v1 ⟨rfl, hb⟩; refine ⟨_, rfl, ?_⟩; have mR_ := Aside0.mk (blk_below (by (with_reducible repeat (first | refine blk_drewN ?_ _ | refine blk_drew ?_ | refine blk_alloc ?_ _)); exact BKR.out) hb); have n0_ := Aside0.mk (below_step (by repeat (first | (with_reducible first | exact HB.out | apply bA | apply below_drew | apply bN | apply bD | refine below_set ?_ GER.out) | exact HB.out)) hb); clear HB BKR; have HB := n0_; have BKR := mR_; clear n0_ mR_ hb; obtain ⟨zR0, zR1, zR2, zR3, zR4, zRf0, zRf1, zRf2, zRf3, zRf4⟩ := five BKR.out))
  refine bodyPost_ret (results_cell_row rfl _ _ gR 24 (cs5 4 0 (⟨#[]⟩ : ByteArray) false 3) (0, 0) _ rfl (vput (by (with_reducible repeat (first | refine blk_drewN ?_ _ | refine blk_drew ?_ | refine blk_alloc ?_ _)); exact BKR.out) _ _ _ _ _) Tryz.underlying24 rfl (by kernel_rfl)) rfl ?_
  exact ⟨by first | rfl | (simp; done) | (simp [*]; done), (by repeat (first | (with_reducible first | exact HB.out | apply bA | apply below_drew | apply bN | apply bD | refine below_set ?_ GER.out) | exact HB.out))⟩
theorem sub03 (w : World) : Calls Tryz.prog 88 #[.int .i64 0, .int .i64 3] w fun e w' => e = .returned (.tuple #[.int .i64 (-3), .bool true]) ∧ Below w.heap.size w w' := by
  refine (fixnum_Sub.calls 0 3 (-3) true w (by unfold fixnum_Sub.f; rw [wr _ (by decide) (by decide)]; rfl)).mono ?_
  rintro e w' ⟨h1, h2⟩
  exact ⟨h1, h2.below⟩
set_option maxHeartbeats 8000000 in
set_option maxRecDepth 100000 in
theorem arith_neg (w : World) :
    Calls Tryz.prog 58 #[.string (⟨#[45]⟩ : ByteArray), .int .i64 0, .int .i64 3] w fun e w' => e = .returned (.agg #[.int .i64 1, .int .i64 (-3), .string (⟨#[]⟩ : ByteArray), .bool false, .int .i64 0]) ∧ Below w.heap.size w w' := by
  have hu24 := Tryz.underlying24
  have HB := Aside0.mk (Below.refl w.heap.size w)
  go_enter Tryz.func58, Tryz.ntmps58
  go_wp2_with (first
    | ((with_reducible refine gate_dst (N := 6) rfl ?_); (try (refine gate_guard (by rfl) ?_; dsimp only)); refine box_event ?hg (N := 6) ?hd (cs := cs5 0 0 (⟨#[]⟩ : ByteArray) false 0) (t := 24) ?hr ?_; (case hd => rfl); (case hg => rfl); (case hr => first | (go_simp; done) | (go_simp; rfl)); intro gR hg wR hbox hb; have GER := Aside0.mk ((by rw [hg]; exact (below_size (by repeat (first | (with_reducible first | exact HB.out | apply bA | apply below_drew | apply bN | apply bD) | exact HB.out))) : w.heap.size ≤ gR)); have nX_ := Aside0.mk hbox; have n0_ := Aside0.mk (below_step (by repeat (first | (with_reducible first | exact HB.out | apply bA | apply below_drew | apply bN | apply bD) | exact HB.out)) hb); clear HB ; have HB := n0_; clear n0_ hb; have BKR := nX_; clear nX_ hbox hg; obtain ⟨zR0, zR1, zR2, zR3, zR4, zRf0, zRf1, zRf2, zRf3, zRf4⟩ := five BKR.out)
    | ((with_reducible refine gate_callee (f := 88) rfl ?_); (try (refine gate_guard (by rfl) ?_; dsimp only)); refine goesL_ (some 23) rfl rfl Tryz.func88 (by kernel_rfl) rfl #[.int .i64 0, .int .i64 3] rfl (by (try simp only [List.map_toArray, List.map_cons, List.map_nil]); first | done | rfl) ?_; (refine (sub03 _).mono ?_); rintro e_ v1 ⟨rfl, hb⟩; refine ⟨_, rfl, ?_⟩; have mR_ := Aside0.mk (blk_below (by (with_reducible repeat (first | refine blk_drewN ?_ _ | refine blk_drew ?_ | refine blk_alloc ?_ _)); exact BKR.out) hb); have n0_ := Aside0.mk (below_step (by repeat (first | (with_reducible first | exact HB.out | apply bA | apply below_drew | apply bN | apply bD | refine below_set ?_ GER.out) | exact HB.out)) hb); clear HB BKR; have HB := n0_; have BKR := mR_; clear n0_ mR_ hb)
    | ((with_reducible refine gate_callee (f := 82) rfl ?_); (try (refine gate_guard (by rfl) ?_; dsimp only)); refine goesL_ (some 49) rfl rfl Tryz.func82 (by kernel_rfl) rfl #[.int .i64 (-3)] rfl (by (try simp only [List.map_toArray, List.map_cons, List.map_nil]); first | done | rfl) ?_; (refine (builtin_number.calls (-3) 1 (-3) (⟨#[]⟩ : ByteArray) false 0 _ rfl).mono ?_); rintro e_ v2 ⟨rfl, hb⟩; refine ⟨_, rfl, ?_⟩; have mR_ := Aside0.mk (blk_below (by (with_reducible repeat (first | refine blk_drewN ?_ _ | refine blk_drew ?_ | refine blk_alloc ?_ _)); exact BKR.out) hb); have n0_ := Aside0.mk (below_step (by repeat (first | (with_reducible first | exact HB.out | apply bA | apply below_drew | apply bN | apply bD | refine below_set ?_ GER.out) | exact HB.out)) hb); clear HB BKR; have HB := n0_; have BKR := mR_; clear n0_ mR_ hb; obtain ⟨zR0, zR1, zR2, zR3, zR4, zRf0, zRf1, zRf2, zRf3, zRf4⟩ := five BKR.out))
  refine bodyPost_ret (results_cell_row rfl _ _ gR 24 (cs5 1 (-3) (⟨#[]⟩ : ByteArray) false 0) (0, 0) _ rfl (vput (by (with_reducible repeat (first | refine blk_drewN ?_ _ | refine blk_drew ?_ | refine blk_alloc ?_ _)); exact BKR.out) _ _ _ _ _) Tryz.underlying24 rfl (by kernel_rfl)) rfl ?_
  exact ⟨by first | rfl | (simp; done) | (simp [*]; done), (by repeat (first | (with_reducible first | exact HB.out | apply bA | apply below_drew | apply bN | apply bD | refine below_set ?_ GER.out) | exact HB.out))⟩
theorem num_num (n : Int) : value_Number.f 1 n (⟨#[]⟩ : ByteArray) false 0 = some (n, 0) := by
  rw [number_f 1 n _ false 0 (by decide)]
  rfl
set_option maxHeartbeats 8000000 in
set_option maxRecDepth 100000 in
theorem neg_3 (w : World)(hL : Aside0 (Lq w)) :
    Calls Tryz.prog 52 #[.agg #[.int .i64 1, .int .i64 3, .string (⟨#[]⟩ : ByteArray), .bool false, .int .i64 0]] w fun e w' => e = .returned (.agg #[.int .i64 1, .int .i64 (-3), .string (⟨#[]⟩ : ByteArray), .bool false, .int .i64 0]) ∧ Below w.heap.size w w' := by
  have hu24 := Tryz.underlying24
  have HB := Aside0.mk (Below.refl w.heap.size w)
  go_enter Tryz.func52, Tryz.ntmps52
  go_wp2_with (first
    | ((with_reducible refine gate_dst (N := 1) rfl ?_); (try (refine gate_guard (by rfl) ?_; dsimp only)); refine box_event ?hg (N := 1) ?hd (cs := cs5 1 3 (⟨#[]⟩ : ByteArray) false 0) (t := 24) ?hr ?_; (case hd => rfl); (case hg => rfl); (case hr => first | (go_simp; done) | (go_simp; rfl)); intro gA hg wA hbox hb; have GEA := Aside0.mk ((by rw [hg]; exact (below_size (by repeat (first | (with_reducible first | exact HB.out | apply bA | apply below_drew | apply bN | apply bD) | exact HB.out))) : w.heap.size ≤ gA)); have nX_ := Aside0.mk hbox; have n0_ := Aside0.mk (below_step (by repeat (first | (with_reducible first | exact HB.out | apply bA | apply below_drew | apply bN | apply bD) | exact HB.out)) hb); clear HB ; have HB := n0_; clear n0_ hb; have BKA := nX_; clear nX_ hbox hg; obtain ⟨zA0, zA1, zA2, zA3, zA4, zAf0, zAf1, zAf2, zAf3, zAf4⟩ := five BKA.out)
    | ((with_reducible refine gate_dst (N := 2) rfl ?_); (try (refine gate_guard (by rfl) ?_; dsimp only)); refine box_event ?hg (N := 2) ?hd (cs := cs5 0 0 (⟨#[]⟩ : ByteArray) false 0) (t := 24) ?hr ?_; (case hd => rfl); (case hg => rfl); (case hr => first | (go_simp; done) | (go_simp; rfl)); intro gR hg wR hbox hb; have GER := Aside0.mk ((by rw [hg]; exact (below_size (by repeat (first | (with_reducible first | exact HB.out | apply bA | apply below_drew | apply bN | apply bD | refine below_set ?_ GEA.out) | exact HB.out))) : w.heap.size ≤ gR)); have NEAR : gA ≠ gR := (by rw [hg]; exact Nat.ne_of_lt (blk_lt (by (with_reducible repeat (first | refine blk_drewN ?_ _ | refine blk_drew ?_ | refine blk_alloc ?_ _)); exact BKA.out))); have NERA : gR ≠ gA := Ne.symm NEAR; have nX_ := Aside0.mk hbox; have mA_ := Aside0.mk (blk_below (by (with_reducible repeat (first | refine blk_drewN ?_ _ | refine blk_drew ?_ | refine blk_alloc ?_ _)); exact BKA.out) hb); have n0_ := Aside0.mk (below_step (by repeat (first | (with_reducible first | exact HB.out | apply bA | apply below_drew | apply bN | apply bD | refine below_set ?_ GEA.out) | exact HB.out)) hb); clear HB BKA; have HB := n0_; have BKA := mA_; clear n0_ mA_ hb; have BKR := nX_; clear nX_ hbox hg; clear zA0 zAf0 zA1 zAf1 zA2 zAf2 zA3 zAf3 zA4 zAf4; obtain ⟨zA0, zA1, zA2, zA3, zA4, zAf0, zAf1, zAf2, zAf3, zAf4⟩ := five BKA.out; obtain ⟨zR0, zR1, zR2, zR3, zR4, zRf0, zRf1, zRf2, zRf3, zRf4⟩ := five BKR.out)
    | ((with_reducible refine gate_callee (f := 17) rfl ?_); (try (refine gate_guard (by rfl) ?_; dsimp only)); refine goesL_ (some 7) rfl rfl Tryz.func17 (by kernel_rfl) rfl #[.agg #[.int .i64 1, .int .i64 3, .string (⟨#[]⟩ : ByteArray), .bool false, .int .i64 0]] rfl (by (try simp only [List.map_toArray, List.map_cons, List.map_nil]); first | done | rfl) ?_; (refine (value_Number.calls (hL := ⟨hL.out.below (by repeat (first | (with_reducible first | exact HB.out | apply bA | apply below_drew | apply bN | apply bD | refine below_set ?_ GEA.out | refine below_set ?_ GER.out) | exact HB.out))⟩) 1 3 (⟨#[]⟩ : ByteArray) false 0 3 0 _ (num_num 3)).mono ?_); rintro e_ v1 ⟨rfl, hb⟩; refine ⟨_, rfl, ?_⟩; have mA_ := Aside0.mk (blk_below (by (with_reducible repeat (first | refine blk_drewN ?_ _ | refine blk_drew ?_ | refine blk_alloc ?_ _)); exact BKA.out) hb); have mR_ := Aside0.mk (blk_below (by (with_reducible repeat (first | refine blk_drewN ?_ _ | refine blk_drew ?_ | refine blk_alloc ?_ _)); exact BKR.out) hb); have n0_ := Aside0.mk (below_step (by repeat (first | (with_reducible first | exact HB.out | apply bA | apply below_drew | apply bN | apply bD | refine below_set ?_ GEA.out | refine below_set ?_ GER.out) | exact HB.out)) hb); clear HB BKA BKR; have HB := n0_; have BKA := mA_; have BKR := mR_; clear n0_ mA_ mR_ hb)
    | ((with_reducible refine gate_callee (f := 58) rfl ?_); (try (refine gate_guard (by rfl) ?_; dsimp only)); refine goesL_ (some 15) rfl rfl Tryz.func58 (by kernel_rfl) rfl #[.string (⟨#[45]⟩ : ByteArray), .int .i64 0, .int .i64 3] rfl (by (try simp only [List.map_toArray, List.map_cons, List.map_nil]); first | done | rfl) ?_; (refine (arith_neg _).mono ?_); rintro e_ v2 ⟨rfl, hb⟩; refine ⟨_, rfl, ?_⟩; have mA_ := Aside0.mk (blk_below (by (with_reducible repeat (first | refine blk_drewN ?_ _ | refine blk_drew ?_ | refine blk_alloc ?_ _)); exact BKA.out) hb); have mR_ := Aside0.mk (blk_below (by (with_reducible repeat (first | refine blk_drewN ?_ _ | refine blk_drew ?_ | refine blk_alloc ?_ _)); exact BKR.out) hb); have n0_ := Aside0.mk (below_step (by repeat (first | (with_reducible first | exact HB.out | apply bA | apply below_drew | apply bN | apply bD | refine below_set ?_ GEA.out | refine below_set ?_ GER.out) | exact HB.out)) hb); clear HB BKA BKR; have HB := n0_; have BKA := mA_; have BKR := mR_; clear n0_ mA_ mR_ hb; obtain ⟨zR0, zR1, zR2, zR3, zR4, zRf0, zRf1, zRf2, zRf3, zRf4⟩ := five BKR.out))
  refine bodyPost_ret (results_cell_row rfl _ _ gR 24 (cs5 1 (-3) (⟨#[]⟩ : ByteArray) false 0) (0, 0) _ rfl (vput (by (with_reducible repeat (first | refine blk_drewN ?_ _ | refine blk_drew ?_ | refine blk_alloc ?_ _)); exact BKR.out) _ _ _ _ _) Tryz.underlying24 rfl (by kernel_rfl)) rfl ?_
  exact ⟨by first | rfl | (simp; done) | (simp [*]; done), (by repeat (first | (with_reducible first | exact HB.out | apply bA | apply below_drew | apply bN | apply bD | refine below_set ?_ GEA.out | refine below_set ?_ GER.out) | exact HB.out))⟩
theorem txt_num (n : Int) (h : -9223372036854775808 ≤ n ∧ n ≤ 9223372036854775807) : ∃ p, value_Text.f 1 n (⟨#[]⟩ : ByteArray) false 0 = some (p, 0) := by
  obtain ⟨p, hp, _⟩ := print_f n h.1 h.2
  refine ⟨p, ?_⟩
  rw [text_f 1 n _ false 0 p hp (by decide)]
  rfl
set_option maxHeartbeats 8000000 in
set_option maxRecDepth 100000 in
theorem binary_div (w : World)(hL : Aside0 (Lq w)) :
    Calls Tryz.prog 31 #[.string (⟨#[47]⟩ : ByteArray), .agg #[.int .i64 1, .int .i64 1, .string (⟨#[]⟩ : ByteArray), .bool false, .int .i64 0], .agg #[.int .i64 1, .int .i64 0, .string (⟨#[]⟩ : ByteArray), .bool false, .int .i64 0]] w fun e w' => e = .returned (.agg #[.int .i64 4, .int .i64 0, .string (⟨#[]⟩ : ByteArray), .bool false, .int .i64 3]) ∧ Below w.heap.size w w' := by
  have hu24 := Tryz.underlying24
  have HB := Aside0.mk (Below.refl w.heap.size w)
  obtain ⟨P1, p1⟩ := txt_num 1 (by decide)
  obtain ⟨P0, p0⟩ := txt_num 0 (by decide)
  have HP1 := Aside0.mk p1
  have HP0 := Aside0.mk p0
  clear p1 p0
  go_enter Tryz.func31, Tryz.ntmps31
  go_wp2_with (first
    | ((with_reducible refine gate_dst (N := 4) rfl ?_); (try (refine gate_guard (by rfl) ?_; dsimp only)); refine box_event ?hg (N := 4) ?hd (cs := cs5 1 1 (⟨#[]⟩ : ByteArray) false 0) (t := 24) ?hr ?_; (case hd => rfl); (case hg => rfl); (case hr => first | (go_simp; done) | (go_simp; rfl)); intro gA hg wA hbox hb; have GEA := Aside0.mk ((by rw [hg]; exact (below_size (by repeat (first | (with_reducible first | exact HB.out | apply bA | apply below_drew | apply bN | apply bD) | exact HB.out))) : w.heap.size ≤ gA)); have nX_ := Aside0.mk hbox; have n0_ := Aside0.mk (below_step (by repeat (first | (with_reducible first | exact HB.out | apply bA | apply below_drew | apply bN | apply bD) | exact HB.out)) hb); clear HB ; have HB := n0_; clear n0_ hb; have BKA := nX_; clear nX_ hbox hg; obtain ⟨zA0, zA1, zA2, zA3, zA4, zAf0, zAf1, zAf2, zAf3, zAf4⟩ := five BKA.out)
    | ((with_reducible refine gate_dst (N := 5) rfl ?_); (try (refine gate_guard (by rfl) ?_; dsimp only)); refine box_event ?hg (N := 5) ?hd (cs := cs5 1 0 (⟨#[]⟩ : ByteArray) false 0) (t := 24) ?hr ?_; (case hd => rfl); (case hg => rfl); (case hr => first | (go_simp; done) | (go_simp; rfl)); intro gB hg wB hbox hb; have GEB := Aside0.mk ((by rw [hg]; exact (below_size (by repeat (first | (with_reducible first | exact HB.out | apply bA | apply below_drew | apply bN | apply bD | refine below_set ?_ GEA.out) | exact HB.out))) : w.heap.size ≤ gB)); have NEAB : gA ≠ gB := (by rw [hg]; exact Nat.ne_of_lt (blk_lt (by (with_reducible repeat (first | refine blk_drewN ?_ _ | refine blk_drew ?_ | refine blk_alloc ?_ _)); exact BKA.out))); have NEBA : gB ≠ gA := Ne.symm NEAB; have nX_ := Aside0.mk hbox; have mA_ := Aside0.mk (blk_below (by (with_reducible repeat (first | refine blk_drewN ?_ _ | refine blk_drew ?_ | refine blk_alloc ?_ _)); exact BKA.out) hb); have n0_ := Aside0.mk (below_step (by repeat (first | (with_reducible first | exact HB.out | apply bA | apply below_drew | apply bN | apply bD | refine below_set ?_ GEA.out) | exact HB.out)) hb); clear HB BKA; have HB := n0_; have BKA := mA_; clear n0_ mA_ hb; have BKB := nX_; clear nX_ hbox hg; clear zA0 zAf0 zA1 zAf1 zA2 zAf2 zA3 zAf3 zA4 zAf4; obtain ⟨zA0, zA1, zA2, zA3, zA4, zAf0, zAf1, zAf2, zAf3, zAf4⟩ := five BKA.out; obtain ⟨zB0, zB1, zB2, zB3, zB4, zBf0, zBf1, zBf2, zBf3, zBf4⟩ := five BKB.out)
    | ((with_reducible refine gate_dst (N := 6) rfl ?_); (try (refine gate_guard (by rfl) ?_; dsimp only)); refine box_event ?hg (N := 6) ?hd (cs := cs5 0 0 (⟨#[]⟩ : ByteArray) false 0) (t := 24) ?hr ?_; (case hd => rfl); (case hg => rfl); (case hr => first | (go_simp; done) | (go_simp; rfl)); intro gR hg wR hbox hb; have GER := Aside0.mk ((by rw [hg]; exact (below_size (by repeat (first | (with_reducible first | exact HB.out | apply bA | apply below_drew | apply bN | apply bD | refine below_set ?_ GEA.out | refine below_set ?_ GEB.out) | exact HB.out))) : w.heap.size ≤ gR)); have NEAR : gA ≠ gR := (by rw [hg]; exact Nat.ne_of_lt (blk_lt (by (with_reducible repeat (first | refine blk_drewN ?_ _ | refine blk_drew ?_ | refine blk_alloc ?_ _)); exact BKA.out))); have NERA : gR ≠ gA := Ne.symm NEAR; have NEBR : gB ≠ gR := (by rw [hg]; exact Nat.ne_of_lt (blk_lt (by (with_reducible repeat (first | refine blk_drewN ?_ _ | refine blk_drew ?_ | refine blk_alloc ?_ _)); exact BKB.out))); have NERB : gR ≠ gB := Ne.symm NEBR; have nX_ := Aside0.mk hbox; have mA_ := Aside0.mk (blk_below (by (with_reducible repeat (first | refine blk_drewN ?_ _ | refine blk_drew ?_ | refine blk_alloc ?_ _)); exact BKA.out) hb); have mB_ := Aside0.mk (blk_below (by (with_reducible repeat (first | refine blk_drewN ?_ _ | refine blk_drew ?_ | refine blk_alloc ?_ _)); exact BKB.out) hb); have n0_ := Aside0.mk (below_step (by repeat (first | (with_reducible first | exact HB.out | apply bA | apply below_drew | apply bN | apply bD | refine below_set ?_ GEA.out | refine below_set ?_ GEB.out) | exact HB.out)) hb); clear HB BKA BKB; have HB := n0_; have BKA := mA_; have BKB := mB_; clear n0_ mA_ mB_ hb; have BKR := nX_; clear nX_ hbox hg; clear zA0 zAf0 zA1 zAf1 zA2 zAf2 zA3 zAf3 zA4 zAf4; obtain ⟨zA0, zA1, zA2, zA3, zA4, zAf0, zAf1, zAf2, zAf3, zAf4⟩ := five BKA.out; clear zB0 zBf0 zB1 zBf1 zB2 zBf2 zB3 zBf3 zB4 zBf4; obtain ⟨zB0, zB1, zB2, zB3, zB4, zBf0, zBf1, zBf2, zBf3, zBf4⟩ := five BKB.out; obtain ⟨zR0, zR1, zR2, zR3, zR4, zRf0, zRf1, zRf2, zRf3, zRf4⟩ := five BKR.out)
    | ((with_reducible refine gate_callee (f := 19) rfl ?_); (try (refine gate_guard (by rfl) ?_; dsimp only)); refine goesL_ (some 23) rfl rfl Tryz.func19 (by kernel_rfl) rfl #[.agg #[.int .i64 1, .int .i64 1, .string (⟨#[]⟩ : ByteArray), .bool false, .int .i64 0]] rfl (by (try simp only [List.map_toArray, List.map_cons, List.map_nil]); first | done | rfl) ?_; (refine (value_Text.calls (hL := ⟨hL.out.below (by repeat (first | (with_reducible first | exact HB.out | apply bA | apply below_drew | apply bN | apply bD | refine below_set ?_ GEA.out | refine below_set ?_ GEB.out | refine below_set ?_ GER.out) | exact HB.out))⟩) 1 1 (⟨#[]⟩ : ByteArray) false 0 P1 0 _ HP1.out).mono ?_); rintro e_ v1 ⟨rfl, hb⟩; refine ⟨_, rfl, ?_⟩; have mA_ := Aside0.mk (blk_below (by (with_reducible repeat (first | refine blk_drewN ?_ _ | refine blk_drew ?_ | refine blk_alloc ?_ _)); exact BKA.out) hb); have mB_ := Aside0.mk (blk_below (by (with_reducible repeat (first | refine blk_drewN ?_ _ | refine blk_drew ?_ | refine blk_alloc ?_ _)); exact BKB.out) hb); have mR_ := Aside0.mk (blk_below (by (with_reducible repeat (first | refine blk_drewN ?_ _ | refine blk_drew ?_ | refine blk_alloc ?_ _)); exact BKR.out) hb); have n0_ := Aside0.mk (below_step (by repeat (first | (with_reducible first | exact HB.out | apply bA | apply below_drew | apply bN | apply bD | refine below_set ?_ GEA.out | refine below_set ?_ GEB.out | refine below_set ?_ GER.out) | exact HB.out)) hb); clear HB BKA BKB BKR; have HB := n0_; have BKA := mA_; have BKB := mB_; have BKR := mR_; clear n0_ mA_ mB_ mR_ hb; obtain ⟨zB0, zB1, zB2, zB3, zB4, zBf0, zBf1, zBf2, zBf3, zBf4⟩ := five BKB.out)
    | ((with_reducible refine gate_callee (f := 19) rfl ?_); (try (refine gate_guard (by rfl) ?_; dsimp only)); refine goesL_ (some 28) rfl rfl Tryz.func19 (by kernel_rfl) rfl #[.agg #[.int .i64 1, .int .i64 0, .string (⟨#[]⟩ : ByteArray), .bool false, .int .i64 0]] rfl (by (try simp only [List.map_toArray, List.map_cons, List.map_nil]); first | done | rfl) ?_; (refine (value_Text.calls (hL := ⟨hL.out.below (by repeat (first | (with_reducible first | exact HB.out | apply bA | apply below_drew | apply bN | apply bD | refine below_set ?_ GEA.out | refine below_set ?_ GEB.out | refine below_set ?_ GER.out) | exact HB.out))⟩) 1 0 (⟨#[]⟩ : ByteArray) false 0 P0 0 _ HP0.out).mono ?_); rintro e_ v2 ⟨rfl, hb⟩; refine ⟨_, rfl, ?_⟩; have mA_ := Aside0.mk (blk_below (by (with_reducible repeat (first | refine blk_drewN ?_ _ | refine blk_drew ?_ | refine blk_alloc ?_ _)); exact BKA.out) hb); have mB_ := Aside0.mk (blk_below (by (with_reducible repeat (first | refine blk_drewN ?_ _ | refine blk_drew ?_ | refine blk_alloc ?_ _)); exact BKB.out) hb); have mR_ := Aside0.mk (blk_below (by (with_reducible repeat (first | refine blk_drewN ?_ _ | refine blk_drew ?_ | refine blk_alloc ?_ _)); exact BKR.out) hb); have n0_ := Aside0.mk (below_step (by repeat (first | (with_reducible first | exact HB.out | apply bA | apply below_drew | apply bN | apply bD | refine below_set ?_ GEA.out | refine below_set ?_ GEB.out | refine below_set ?_ GER.out) | exact HB.out)) hb); clear HB BKA BKB BKR; have HB := n0_; have BKA := mA_; have BKB := mB_; have BKR := mR_; clear n0_ mA_ mB_ mR_ hb)
    | ((with_reducible refine gate_callee (f := 57) rfl ?_); (try (refine gate_guard (by rfl) ?_; dsimp only)); refine goesL_ (some 33) rfl rfl Tryz.func57 (by kernel_rfl) rfl #[.int .i64 0, .int .i64 0] rfl (by (try simp only [List.map_toArray, List.map_cons, List.map_nil]); first | done | rfl) ?_; (refine (least_00 _).mono ?_); rintro e_ w_ ⟨rfl, ⟨nd, rfl⟩⟩; refine ⟨_, rfl, ?_⟩; obtain ⟨zA0, zA1, zA2, zA3, zA4, zAf0, zAf1, zAf2, zAf3, zAf4⟩ := five BKA.out)
    | ((with_reducible refine gate_callee (f := 17) rfl ?_); (try (refine gate_guard (by rfl) ?_; dsimp only)); refine goesL_ (some 46) rfl rfl Tryz.func17 (by kernel_rfl) rfl #[.agg #[.int .i64 1, .int .i64 1, .string (⟨#[]⟩ : ByteArray), .bool false, .int .i64 0]] rfl (by (try simp only [List.map_toArray, List.map_cons, List.map_nil]); first | done | rfl) ?_; (refine (value_Number.calls (hL := ⟨hL.out.below (by repeat (first | (with_reducible first | exact HB.out | apply bA | apply below_drew | apply bN | apply bD | refine below_set ?_ GEA.out | refine below_set ?_ GEB.out | refine below_set ?_ GER.out) | exact HB.out))⟩) 1 1 (⟨#[]⟩ : ByteArray) false 0 1 0 _ (num_num 1)).mono ?_); rintro e_ v3 ⟨rfl, hb⟩; refine ⟨_, rfl, ?_⟩; have mA_ := Aside0.mk (blk_below (by (with_reducible repeat (first | refine blk_drewN ?_ _ | refine blk_drew ?_ | refine blk_alloc ?_ _)); exact BKA.out) hb); have mB_ := Aside0.mk (blk_below (by (with_reducible repeat (first | refine blk_drewN ?_ _ | refine blk_drew ?_ | refine blk_alloc ?_ _)); exact BKB.out) hb); have mR_ := Aside0.mk (blk_below (by (with_reducible repeat (first | refine blk_drewN ?_ _ | refine blk_drew ?_ | refine blk_alloc ?_ _)); exact BKR.out) hb); have n0_ := Aside0.mk (below_step (by repeat (first | (with_reducible first | exact HB.out | apply bA | apply below_drew | apply bN | apply bD | refine below_set ?_ GEA.out | refine below_set ?_ GEB.out | refine below_set ?_ GER.out) | exact HB.out)) hb); clear HB BKA BKB BKR; have HB := n0_; have BKA := mA_; have BKB := mB_; have BKR := mR_; clear n0_ mA_ mB_ mR_ hb; obtain ⟨zB0, zB1, zB2, zB3, zB4, zBf0, zBf1, zBf2, zBf3, zBf4⟩ := five BKB.out)
    | ((with_reducible refine gate_callee (f := 17) rfl ?_); (try (refine gate_guard (by rfl) ?_; dsimp only)); refine goesL_ (some 51) rfl rfl Tryz.func17 (by kernel_rfl) rfl #[.agg #[.int .i64 1, .int .i64 0, .string (⟨#[]⟩ : ByteArray), .bool false, .int .i64 0]] rfl (by (try simp only [List.map_toArray, List.map_cons, List.map_nil]); first | done | rfl) ?_; (refine (value_Number.calls (hL := ⟨hL.out.below (by repeat (first | (with_reducible first | exact HB.out | apply bA | apply below_drew | apply bN | apply bD | refine below_set ?_ GEA.out | refine below_set ?_ GEB.out | refine below_set ?_ GER.out) | exact HB.out))⟩) 1 0 (⟨#[]⟩ : ByteArray) false 0 0 0 _ (num_num 0)).mono ?_); rintro e_ v4 ⟨rfl, hb⟩; refine ⟨_, rfl, ?_⟩; have mA_ := Aside0.mk (blk_below (by (with_reducible repeat (first | refine blk_drewN ?_ _ | refine blk_drew ?_ | refine blk_alloc ?_ _)); exact BKA.out) hb); have mB_ := Aside0.mk (blk_below (by (with_reducible repeat (first | refine blk_drewN ?_ _ | refine blk_drew ?_ | refine blk_alloc ?_ _)); exact BKB.out) hb); have mR_ := Aside0.mk (blk_below (by (with_reducible repeat (first | refine blk_drewN ?_ _ | refine blk_drew ?_ | refine blk_alloc ?_ _)); exact BKR.out) hb); have n0_ := Aside0.mk (below_step (by repeat (first | (with_reducible first | exact HB.out | apply bA | apply below_drew | apply bN | apply bD | refine below_set ?_ GEA.out | refine below_set ?_ GEB.out | refine below_set ?_ GER.out) | exact HB.out)) hb); clear HB BKA BKB BKR; have HB := n0_; have BKA := mA_; have BKB := mB_; have BKR := mR_; clear n0_ mA_ mB_ mR_ hb)
    | ((with_reducible refine gate_callee (f := 57) rfl ?_); (try (refine gate_guard (by rfl) ?_; dsimp only)); refine goesL_ (some 56) rfl rfl Tryz.func57 (by kernel_rfl) rfl #[.int .i64 0, .int .i64 0] rfl (by (try simp only [List.map_toArray, List.map_cons, List.map_nil]); first | done | rfl) ?_; (refine (least_00 _).mono ?_); rintro e_ w_ ⟨rfl, ⟨nd, rfl⟩⟩; refine ⟨_, rfl, ?_⟩)
    | ((with_reducible refine gate_callee (f := 58) rfl ?_); (try (refine gate_guard (by rfl) ?_; dsimp only)); refine goesL_ (some 64) rfl rfl Tryz.func58 (by kernel_rfl) rfl #[.string (⟨#[47]⟩ : ByteArray), .int .i64 1, .int .i64 0] rfl (by (try simp only [List.map_toArray, List.map_cons, List.map_nil]); first | done | rfl) ?_; (refine (arith_div _).mono ?_); rintro e_ v5 ⟨rfl, hb⟩; refine ⟨_, rfl, ?_⟩; have mA_ := Aside0.mk (blk_below (by (with_reducible repeat (first | refine blk_drewN ?_ _ | refine blk_drew ?_ | refine blk_alloc ?_ _)); exact BKA.out) hb); have mB_ := Aside0.mk (blk_below (by (with_reducible repeat (first | refine blk_drewN ?_ _ | refine blk_drew ?_ | refine blk_alloc ?_ _)); exact BKB.out) hb); have mR_ := Aside0.mk (blk_below (by (with_reducible repeat (first | refine blk_drewN ?_ _ | refine blk_drew ?_ | refine blk_alloc ?_ _)); exact BKR.out) hb); have n0_ := Aside0.mk (below_step (by repeat (first | (with_reducible first | exact HB.out | apply bA | apply below_drew | apply bN | apply bD | refine below_set ?_ GEA.out | refine below_set ?_ GEB.out | refine below_set ?_ GER.out) | exact HB.out)) hb); clear HB BKA BKB BKR; have HB := n0_; have BKA := mA_; have BKB := mB_; have BKR := mR_; clear n0_ mA_ mB_ mR_ hb; obtain ⟨zR0, zR1, zR2, zR3, zR4, zRf0, zRf1, zRf2, zRf3, zRf4⟩ := five BKR.out))
  refine bodyPost_ret (results_cell_row rfl _ _ gR 24 (cs5 4 0 (⟨#[]⟩ : ByteArray) false 3) (0, 0) _ rfl (vput (by (with_reducible repeat (first | refine blk_drewN ?_ _ | refine blk_drew ?_ | refine blk_alloc ?_ _)); exact BKR.out) _ _ _ _ _) Tryz.underlying24 rfl (by kernel_rfl)) rfl ?_
  exact ⟨by first | rfl | (simp; done) | (simp [*]; done), (by repeat (first | (with_reducible first | exact HB.out | apply bA | apply below_drew | apply bN | apply bD | refine below_set ?_ GEA.out | refine below_set ?_ GEB.out | refine below_set ?_ GER.out) | exact HB.out))⟩
set_option maxHeartbeats 8000000 in
set_option maxRecDepth 100000 in
theorem call_all (k : Nat) (nm : ByteArray) (ha : ∀ w, Calls Tryz.prog 53 #[.string nm] w fun e w' => e = .returned (.tuple #[.int .i64 0, .int .i64 810000, .bool true]) ∧ Drawn0 w w') (A1 : Option Addr) (c1 : Nat) (l1 : List S44) (hl : l1.length ≤ 810000) (r1 r2 : Int) (r3 : ByteArray) (r4 : Bool) (r5 : Int) (w : World) (hL : Aside0 (Lq w)) (hr1 : Kd.C k44 w A1 l1.length l1) (hc1 : l1.length ≤ c1) (h : builtin_all.f k nm l1 = some (r1, r2, r3, r4, r5)) :
    Calls Tryz.prog 28 #[.string nm, .slice A1 l1.length c1] w fun e w' => e = .returned (.agg #[.int .i64 r1, .int .i64 r2, .string r3, .bool r4, .int .i64 r5]) ∧ Below w.heap.size w w' := by
  have hu24 := Tryz.underlying24
  have HB := Aside0.mk (Below.refl w.heap.size w)
  have hu44 := Tryz.underlying44
  have HR1 := Aside0.mk hr1
  have HC1 := Aside0.mk hc1
  have H := Aside0.mk h
  have HA := Aside0.mk ha
  have d1 : decide ((l1.length : Int) < 0) = false := decide_eq_false (by omega)
  have d2 : decide ((810000 : Int) < (l1.length : Int)) = false := decide_eq_false (by omega)
  clear hr1 hc1 h ha hl
  go_enter Tryz.func28, Tryz.ntmps28
  go_wp2_with (first
    | ((with_reducible refine gate_dst (N := 4) rfl ?_); (try (refine gate_guard (by rfl) ?_; dsimp only)); refine box_event ?hg (N := 4) ?hd (cs := cs5 0 0 (⟨#[]⟩ : ByteArray) false 0) (t := 24) ?hr ?_; (case hd => rfl); (case hg => rfl); (case hr => first | (go_simp; done) | (go_simp; rfl)); intro gR hg wR hbox hb; have GER := Aside0.mk ((by rw [hg]; exact (below_size (by repeat (first | (with_reducible first | exact HB.out | apply bA | apply below_drew | apply bN | apply bD) | exact HB.out))) : w.heap.size ≤ gR)); have nX_ := Aside0.mk hbox; have n0_ := Aside0.mk (below_step (by repeat (first | (with_reducible first | exact HB.out | apply bA | apply below_drew | apply bN | apply bD) | exact HB.out)) hb); clear HB ; have HB := n0_; clear n0_ hb; have BKR := nX_; clear nX_ hbox hg; obtain ⟨zR0, zR1, zR2, zR3, zR4, zRf0, zRf1, zRf2, zRf3, zRf4⟩ := five BKR.out)
    | ((with_reducible refine gate_callee (f := 53) rfl ?_); (try (refine gate_guard (by rfl) ?_; dsimp only)); refine goesL_ (some 14) rfl rfl Tryz.func53 (by kernel_rfl) rfl #[.string nm] rfl (by (try simp only [List.map_toArray, List.map_cons, List.map_nil]); first | done | rfl) ?_; (refine (HA.out _).mono ?_); rintro e_ w_ ⟨rfl, ⟨nd, rfl⟩⟩; refine ⟨_, rfl, ?_⟩)
    | ((with_reducible refine gate_callee (f := 55) rfl ?_); refine goesL_ (some 38) rfl rfl Tryz.func55 (by kernel_rfl) rfl #[.string nm, .slice A1 l1.length c1] rfl (by (try simp only [List.map_toArray, List.map_cons, List.map_nil]); first | done | rfl) ?_; (with_reducible refine (builtin_all.calls (hL := ⟨hL.out.below (by repeat (first | (with_reducible first | exact HB.out | apply bA | apply below_drew | apply bN | apply bD | refine below_set ?_ GER.out) | exact HB.out))⟩) k nm _ _ l1 r1 r2 r3 r4 r5 _ ?side1 ?side2 H.out).mono ?_); (case side1 => exact Kd.C_below HR1.out (by repeat (first | (with_reducible first | exact HB.out | apply bA | apply below_drew | apply bN | apply bD | refine below_set ?_ GER.out) | exact HB.out))); (case side2 => exact HC1.out); rintro e_ vX ⟨rfl, hb⟩; refine ⟨_, rfl, ?_⟩; have mR_ := Aside0.mk (blk_below (by (with_reducible repeat (first | refine blk_drewN ?_ _ | refine blk_drew ?_ | refine blk_alloc ?_ _)); exact BKR.out) hb); have n0_ := Aside0.mk (below_step (by repeat (first | (with_reducible first | exact HB.out | apply bA | apply below_drew | apply bN | apply bD | refine below_set ?_ GER.out) | exact HB.out)) hb); clear HB BKR; have HB := n0_; have BKR := mR_; clear n0_ mR_ hb; obtain ⟨zR0, zR1, zR2, zR3, zR4, zRf0, zRf1, zRf2, zRf3, zRf4⟩ := five BKR.out))
  refine bodyPost_ret (results_cell_row rfl _ _ gR 24 (cs5 r1 r2 r3 r4 r5) (0, 0) _ rfl (vput (by (with_reducible repeat (first | refine blk_drewN ?_ _ | refine blk_drew ?_ | refine blk_alloc ?_ _)); exact BKR.out) _ _ _ _ _) Tryz.underlying24 rfl (by kernel_rfl)) rfl ?_
  exact ⟨by first | rfl | (simp; done) | (simp [*]; done), (by repeat (first | (with_reducible first | exact HB.out | apply bA | apply below_drew | apply bN | apply bD | refine below_set ?_ GER.out) | exact HB.out))⟩
end Go.Proofs.YtfnbflhoaemmeaaGreatDoor.EBui
end
section
namespace Go.Proofs.YtfnbflhoaemmeaaGreatDoor.EBui
open Go.RowKit Go.Proofs.YtfnbflhoaemmeaaGreatDoor.Ext Go.Proofs.YtfnbflhoaemmeaaGreatDoor.EFxA Go.Proofs.YtfnbflhoaemmeaaGreatDoor.EFix Go.Proofs.YtfnbflhoaemmeaaGreatDoor.EVal Go.Proofs.YtfnbflhoaemmeaaGreatDoorW.PrintWords Go.Proofs.YtfnbflhoaemmeaaGreatDoorW.PrintLast Go.Proofs.YtfnbflhoaemmeaaGreatDoorW.PrintMore
attribute [local go_sem] max2_int min2_int max_two min_two max_three min_three max_four min_four   
set_option linter.unusedVariables false
set_option linter.unusedSimpArgs false
def builtin_compared.f (a0 : ByteArray) (a1 : Int) : Option (Bool × Bool) := if a0.toList = ([61] : List UInt8) then (some ((a1 == 0), true)) else (if a0.toList = ([60, 62] : List UInt8) then (some ((a1 != 0), true)) else (if a0.toList = ([60] : List UInt8) then (some (decide (a1 < 0), true)) else (if a0.toList = ([60, 61] : List UInt8) then (some (decide (a1 ≤ 0), true)) else (if a0.toList = ([62] : List UInt8) then (some (decide (a1 > 0), true)) else (if a0.toList = ([62, 61] : List UInt8) then (some (decide (a1 ≥ 0), true)) else (some (false, false)))))))
set_option maxHeartbeats 8000000 in
set_option maxRecDepth 100000 in
theorem builtin_compared.calls (a0 : ByteArray) (a1 : Int) (r1 : Bool) (r2 : Bool) (w : World) (h : builtin_compared.f a0 a1 = some (r1, r2)) :
    Calls Tryz.prog 60 #[.string a0, .int .i64 a1] w fun e w' => e = .returned (.tuple #[.bool r1, .bool r2]) ∧ Drawn0 w w' := by
  have H : (if a0.toList = ([61] : List UInt8) then (some ((a1 == 0), true)) else (if a0.toList = ([60, 62] : List UInt8) then (some ((a1 != 0), true)) else (if a0.toList = ([60] : List UInt8) then (some (decide (a1 < 0), true)) else (if a0.toList = ([60, 61] : List UInt8) then (some (decide (a1 ≤ 0), true)) else (if a0.toList = ([62] : List UInt8) then (some (decide (a1 > 0), true)) else (if a0.toList = ([62, 61] : List UInt8) then (some (decide (a1 ≥ 0), true)) else (some (false, false)))))))) = some (r1, r2) := h
  clear h
  by_cases c3 : a0.toList = ([61] : List UInt8)
  · rw [if_pos c3] at H
    have c3b0 : (a0.toList == ([61] : List UInt8)) = true := beq_iff_eq.mpr c3
    have c3b1 : (a0.toList != ([61] : List UInt8)) = false := bne_eq_false_iff_eq.mpr c3
    clear c3
    simp only [Option.some.injEq, Prod.mk.injEq] at H
    obtain ⟨rfl, rfl⟩ := H
    go_enter Tryz.func60, Tryz.ntmps60
    go_wp2
    go_ret2
    exact ⟨by first | rfl | (simp; done) | (simp [*]; done) | (simp; generalize ByteArray.toList _ = l_; cases l_ <;> rfl), by repeat (first | exact Drawn0.refl _ | apply Drawn0.step)⟩
  · rw [if_neg c3] at H
    have c3b0 : (a0.toList == ([61] : List UInt8)) = false := beq_eq_false_iff_ne.mpr c3
    have c3b1 : (a0.toList != ([61] : List UInt8)) = true := bne_iff_ne.mpr c3
    by_cases c4 : a0.toList = ([60, 62] : List UInt8)
    · rw [if_pos c4] at H
      have c4b0 : (a0.toList == ([60, 62] : List UInt8)) = true := beq_iff_eq.mpr c4
      have c4b1 : (a0.toList != ([60, 62] : List UInt8)) = false := bne_eq_false_iff_eq.mpr c4
      clear c4
      simp only [Option.some.injEq, Prod.mk.injEq] at H
      obtain ⟨rfl, rfl⟩ := H
      go_enter Tryz.func60, Tryz.ntmps60
      go_wp2
      go_ret2
      exact ⟨by first | rfl | (simp; done) | (simp [*]; done) | (simp; generalize ByteArray.toList _ = l_; cases l_ <;> rfl), by repeat (first | exact Drawn0.refl _ | apply Drawn0.step)⟩
    · rw [if_neg c4] at H
      have c4b0 : (a0.toList == ([60, 62] : List UInt8)) = false := beq_eq_false_iff_ne.mpr c4
      have c4b1 : (a0.toList != ([60, 62] : List UInt8)) = true := bne_iff_ne.mpr c4
      by_cases c5 : a0.toList = ([60] : List UInt8)
      · rw [if_pos c5] at H
        have c5b0 : (a0.toList == ([60] : List UInt8)) = true := beq_iff_eq.mpr c5
        have c5b1 : (a0.toList != ([60] : List UInt8)) = false := bne_eq_false_iff_eq.mpr c5
        clear c5
        simp only [Option.some.injEq, Prod.mk.injEq] at H
        obtain ⟨rfl, rfl⟩ := H
        go_enter Tryz.func60, Tryz.ntmps60
        go_wp2
        go_ret2
        exact ⟨by first | rfl | (simp; done) | (simp [*]; done) | (simp; generalize ByteArray.toList _ = l_; cases l_ <;> rfl), by repeat (first | exact Drawn0.refl _ | apply Drawn0.step)⟩
      · rw [if_neg c5] at H
        have c5b0 : (a0.toList == ([60] : List UInt8)) = false := beq_eq_false_iff_ne.mpr c5
        have c5b1 : (a0.toList != ([60] : List UInt8)) = true := bne_iff_ne.mpr c5
        by_cases c6 : a0.toList = ([60, 61] : List UInt8)
        · rw [if_pos c6] at H
          have c6b0 : (a0.toList == ([60, 61] : List UInt8)) = true := beq_iff_eq.mpr c6
          have c6b1 : (a0.toList != ([60, 61] : List UInt8)) = false := bne_eq_false_iff_eq.mpr c6
          clear c6
          simp only [Option.some.injEq, Prod.mk.injEq] at H
          obtain ⟨rfl, rfl⟩ := H
          go_enter Tryz.func60, Tryz.ntmps60
          go_wp2
          go_ret2
          exact ⟨by first | rfl | (simp; done) | (simp [*]; done) | (simp; generalize ByteArray.toList _ = l_; cases l_ <;> rfl), by repeat (first | exact Drawn0.refl _ | apply Drawn0.step)⟩
        · rw [if_neg c6] at H
          have c6b0 : (a0.toList == ([60, 61] : List UInt8)) = false := beq_eq_false_iff_ne.mpr c6
          have c6b1 : (a0.toList != ([60, 61] : List UInt8)) = true := bne_iff_ne.mpr c6
          by_cases c7 : a0.toList = ([62] : List UInt8)
          · rw [if_pos c7] at H
            have c7b0 : (a0.toList == ([62] : List UInt8)) = true := beq_iff_eq.mpr c7
            have c7b1 : (a0.toList != ([62] : List UInt8)) = false := bne_eq_false_iff_eq.mpr c7
            clear c7
            simp only [Option.some.injEq, Prod.mk.injEq] at H
            obtain ⟨rfl, rfl⟩ := H
            go_enter Tryz.func60, Tryz.ntmps60
            go_wp2
            go_ret2
            exact ⟨by first | rfl | (simp; done) | (simp [*]; done) | (simp; generalize ByteArray.toList _ = l_; cases l_ <;> rfl), by repeat (first | exact Drawn0.refl _ | apply Drawn0.step)⟩
          · rw [if_neg c7] at H
            have c7b0 : (a0.toList == ([62] : List UInt8)) = false := beq_eq_false_iff_ne.mpr c7
            have c7b1 : (a0.toList != ([62] : List UInt8)) = true := bne_iff_ne.mpr c7
            by_cases c8 : a0.toList = ([62, 61] : List UInt8)
            · rw [if_pos c8] at H
              have c8b0 : (a0.toList == ([62, 61] : List UInt8)) = true := beq_iff_eq.mpr c8
              have c8b1 : (a0.toList != ([62, 61] : List UInt8)) = false := bne_eq_false_iff_eq.mpr c8
              clear c8
              simp only [Option.some.injEq, Prod.mk.injEq] at H
              obtain ⟨rfl, rfl⟩ := H
              go_enter Tryz.func60, Tryz.ntmps60
              go_wp2
              go_ret2
              exact ⟨by first | rfl | (simp; done) | (simp [*]; done) | (simp; generalize ByteArray.toList _ = l_; cases l_ <;> rfl), by repeat (first | exact Drawn0.refl _ | apply Drawn0.step)⟩
            · rw [if_neg c8] at H
              have c8b0 : (a0.toList == ([62, 61] : List UInt8)) = false := beq_eq_false_iff_ne.mpr c8
              have c8b1 : (a0.toList != ([62, 61] : List UInt8)) = true := bne_iff_ne.mpr c8
              simp only [Option.some.injEq, Prod.mk.injEq] at H
              obtain ⟨rfl, rfl⟩ := H
              go_enter Tryz.func60, Tryz.ntmps60
              go_wp2
              go_ret2
              exact ⟨by first | rfl | (simp; done) | (simp [*]; done) | (simp; generalize ByteArray.toList _ = l_; cases l_ <;> rfl), by repeat (first | exact Drawn0.refl _ | apply Drawn0.step)⟩
def builtin_filled.f (a0_0 : Int) (a0_1 : Int) (a0_2 : ByteArray) (a0_3 : Bool) (a0_4 : Int) (a1_0 : Int) (a1_1 : Int) (a1_2 : ByteArray) (a1_3 : Bool) (a1_4 : Int) : Option (Int × Int × ByteArray × Bool × Int) := if a0_0 = 0 then (some (a1_0, 0, (⟨#[]⟩ : ByteArray), false, 0)) else (some (a0_0, a0_1, a0_2, a0_3, a0_4))
set_option maxHeartbeats 8000000 in
set_option maxRecDepth 100000 in
theorem builtin_filled.calls (a0_0 : Int) (a0_1 : Int) (a0_2 : ByteArray) (a0_3 : Bool) (a0_4 : Int) (a1_0 : Int) (a1_1 : Int) (a1_2 : ByteArray) (a1_3 : Bool) (a1_4 : Int) (r1 : Int) (r2 : Int) (r3 : ByteArray) (r4 : Bool) (r5 : Int) (w : World) (h : builtin_filled.f a0_0 a0_1 a0_2 a0_3 a0_4 a1_0 a1_1 a1_2 a1_3 a1_4 = some (r1, r2, r3, r4, r5)) :
    Calls Tryz.prog 61 #[.agg #[.int .i64 a0_0, .int .i64 a0_1, .string a0_2, .bool a0_3, .int .i64 a0_4], .agg #[.int .i64 a1_0, .int .i64 a1_1, .string a1_2, .bool a1_3, .int .i64 a1_4]] w fun e w' => e = .returned (.agg #[.int .i64 r1, .int .i64 r2, .string r3, .bool r4, .int .i64 r5]) ∧ Below w.heap.size w w' := by
  have hu24 := Tryz.underlying24
  have HB := Aside0.mk (Below.refl w.heap.size w)
  have H : (if a0_0 = 0 then (some (a1_0, 0, (⟨#[]⟩ : ByteArray), false, 0)) else (some (a0_0, a0_1, a0_2, a0_3, a0_4))) = some (r1, r2, r3, r4, r5) := h
  clear h
  by_cases c3 : a0_0 = 0
  · rw [if_pos c3] at H
    have c3b0 : (a0_0 == 0) = true := beq_iff_eq.mpr c3
    have c3b1 : (a0_0 != 0) = false := bne_eq_false_iff_eq.mpr c3
    clear c3
    simp only [Option.some.injEq, Prod.mk.injEq] at H
    obtain ⟨rfl, rfl, rfl, rfl, rfl⟩ := H
    go_enter Tryz.func61, Tryz.ntmps61
    go_wp2_with (first | ((with_reducible refine gate_dst (N := 2) rfl ?_); refine box_event ?hg (N := 2) ?hd (cs := #[.int .i64 a0_0, .int .i64 a0_1, .string a0_2, .bool a0_3, .int .i64 a0_4]) (t := 24) ?hr ?_; (case hd => rfl); (case hg => rfl); (case hr => first | (go_simp; done) | (go_simp; rfl)); intro gb402 hg w4 hbox hb; have n0_ := Aside0.mk (below_step (by repeat (first | (with_reducible first | exact HB.out | apply below_alloc | apply pw_below_drewN | apply below_drew1) | exact HB.out)) hb); have n1_ := Aside0.mk (hbox); have n2_ := Aside0.mk ((by rw [hg]; exact (below_size (by repeat (first | (with_reducible first | exact HB.out | apply below_alloc | apply pw_below_drewN | apply below_drew1) | exact HB.out))) : w.heap.size ≤ gb402)); have n3_ := Aside0.mk ((by rw [hg]; exact (below_size (by repeat (first | (with_reducible first | exact HB.out | apply below_alloc | apply pw_below_drewN | apply below_drew1) | exact HB.out))) : w.heap.size ≤ gb402)); clear HB; have HB := n0_; have BK402 := n1_; have GW402 := n2_; have GE402 := n3_; clear n0_ n1_ n2_ n3_; clear hb hbox hg) | ((with_reducible refine gate_dst (N := 3) rfl ?_); refine box_event ?hg (N := 3) ?hd (cs := #[.int .i64 a1_0, .int .i64 a1_1, .string a1_2, .bool a1_3, .int .i64 a1_4]) (t := 24) ?hr ?_; (case hd => rfl); (case hg => rfl); (case hr => first | (go_simp; done) | (go_simp; rfl)); intro gb403 hg w5 hbox hb; have n0_ := Aside0.mk (blk_below (g := gb402) (o := .cells #[.int .i64 a0_0, .int .i64 a0_1, .string a0_2, .bool a0_3, .int .i64 a0_4] 24 (0, 0)) (by (with_reducible repeat (first | refine blk_drewN ?_ _ | refine blk_drew ?_ | refine blk_alloc ?_ _)); exact BK402.out) hb); have n1_ := Aside0.mk (below_step (by repeat (first | (with_reducible first | exact HB.out | apply below_alloc | apply pw_below_drewN | apply below_drew1 | refine below_set ?_ GE402.out) | exact HB.out)) hb); have n2_ := Aside0.mk (hbox); have n3_ := Aside0.mk ((by rw [hg]; exact (below_size (by repeat (first | (with_reducible first | exact HB.out | apply below_alloc | apply pw_below_drewN | apply below_drew1 | refine below_set ?_ GE402.out) | exact HB.out))) : w.heap.size ≤ gb403)); have n4_ := Aside0.mk ((by rw [hg]; exact (below_size (by repeat (first | (with_reducible first | exact HB.out | apply below_alloc | apply pw_below_drewN | apply below_drew1 | refine below_set ?_ GE402.out) | exact HB.out))) : w.heap.size ≤ gb403)); have n5_ := Aside0.mk ((by rw [hg]; exact Nat.ne_of_lt (blk_lt (g := gb402) (o := .cells #[.int .i64 a0_0, .int .i64 a0_1, .string a0_2, .bool a0_3, .int .i64 a0_4] 24 (0, 0)) (by (with_reducible repeat (first | refine blk_drewN ?_ _ | refine blk_drew ?_ | refine blk_alloc ?_ _)); exact BK402.out)) : gb402 ≠ gb403)); have n6_ := Aside0.mk ((by rw [hg]; exact Nat.ne_of_gt (blk_lt (g := gb402) (o := .cells #[.int .i64 a0_0, .int .i64 a0_1, .string a0_2, .bool a0_3, .int .i64 a0_4] 24 (0, 0)) (by (with_reducible repeat (first | refine blk_drewN ?_ _ | refine blk_drew ?_ | refine blk_alloc ?_ _)); exact BK402.out)) : gb403 ≠ gb402)); clear BK402; clear HB; have BK402 := n0_; have HB := n1_; have BK403 := n2_; have GW403 := n3_; have GE403 := n4_; have NB402_403 := n5_; have NB403_402 := n6_; clear n0_ n1_ n2_ n3_ n4_ n5_ n6_; clear hb hbox hg) | ((with_reducible refine gate_dst (N := 4) rfl ?_); refine box_event ?hg (N := 4) ?hd (cs := #[.int .i64 0, .int .i64 0, .string (⟨#[]⟩ : ByteArray), .bool false, .int .i64 0]) (t := 24) ?hr ?_; (case hd => rfl); (case hg => rfl); (case hr => first | (go_simp; done) | (go_simp; rfl)); intro gb404 hg w6 hbox hb; have n0_ := Aside0.mk (blk_below (g := gb402) (o := .cells #[.int .i64 a0_0, .int .i64 a0_1, .string a0_2, .bool a0_3, .int .i64 a0_4] 24 (0, 0)) (by (with_reducible repeat (first | refine blk_drewN ?_ _ | refine blk_drew ?_ | refine blk_alloc ?_ _)); exact BK402.out) hb); have n1_ := Aside0.mk (blk_below (g := gb403) (o := .cells #[.int .i64 a1_0, .int .i64 a1_1, .string a1_2, .bool a1_3, .int .i64 a1_4] 24 (0, 0)) (by (with_reducible repeat (first | refine blk_drewN ?_ _ | refine blk_drew ?_ | refine blk_alloc ?_ _)); exact BK403.out) hb); have n2_ := Aside0.mk (below_step (by repeat (first | (with_reducible first | exact HB.out | apply below_alloc | apply pw_below_drewN | apply below_drew1 | refine below_set ?_ GE402.out | refine below_set ?_ GE403.out) | exact HB.out)) hb); have n3_ := Aside0.mk (hbox); have n4_ := Aside0.mk ((by rw [hg]; exact (below_size (by repeat (first | (with_reducible first | exact HB.out | apply below_alloc | apply pw_below_drewN | apply below_drew1 | refine below_set ?_ GE402.out | refine below_set ?_ GE403.out) | exact HB.out))) : w.heap.size ≤ gb404)); have n5_ := Aside0.mk ((by rw [hg]; exact (below_size (by repeat (first | (with_reducible first | exact HB.out | apply below_alloc | apply pw_below_drewN | apply below_drew1 | refine below_set ?_ GE402.out | refine below_set ?_ GE403.out) | exact HB.out))) : w.heap.size ≤ gb404)); have n6_ := Aside0.mk ((by rw [hg]; exact Nat.ne_of_lt (blk_lt (g := gb402) (o := .cells #[.int .i64 a0_0, .int .i64 a0_1, .string a0_2, .bool a0_3, .int .i64 a0_4] 24 (0, 0)) (by (with_reducible repeat (first | refine blk_drewN ?_ _ | refine blk_drew ?_ | refine blk_alloc ?_ _)); exact BK402.out)) : gb402 ≠ gb404)); have n7_ := Aside0.mk ((by rw [hg]; exact Nat.ne_of_gt (blk_lt (g := gb402) (o := .cells #[.int .i64 a0_0, .int .i64 a0_1, .string a0_2, .bool a0_3, .int .i64 a0_4] 24 (0, 0)) (by (with_reducible repeat (first | refine blk_drewN ?_ _ | refine blk_drew ?_ | refine blk_alloc ?_ _)); exact BK402.out)) : gb404 ≠ gb402)); have n8_ := Aside0.mk ((by rw [hg]; exact Nat.ne_of_lt (blk_lt (g := gb403) (o := .cells #[.int .i64 a1_0, .int .i64 a1_1, .string a1_2, .bool a1_3, .int .i64 a1_4] 24 (0, 0)) (by (with_reducible repeat (first | refine blk_drewN ?_ _ | refine blk_drew ?_ | refine blk_alloc ?_ _)); exact BK403.out)) : gb403 ≠ gb404)); have n9_ := Aside0.mk ((by rw [hg]; exact Nat.ne_of_gt (blk_lt (g := gb403) (o := .cells #[.int .i64 a1_0, .int .i64 a1_1, .string a1_2, .bool a1_3, .int .i64 a1_4] 24 (0, 0)) (by (with_reducible repeat (first | refine blk_drewN ?_ _ | refine blk_drew ?_ | refine blk_alloc ?_ _)); exact BK403.out)) : gb404 ≠ gb403)); clear BK402; clear BK403; clear HB; have BK402 := n0_; have BK403 := n1_; have HB := n2_; have BK404 := n3_; have GW404 := n4_; have GE404 := n5_; have NB402_404 := n6_; have NB404_402 := n7_; have NB403_404 := n8_; have NB404_403 := n9_; clear n0_ n1_ n2_ n3_ n4_ n5_ n6_ n7_ n8_ n9_; clear hb hbox hg; have hnb7 := NB402_403.out; have hnc7 := NB403_402.out; have hnb8 := NB402_404.out; have hnc8 := NB404_402.out; have hcz9_0 : w6.cell? ⟨gb402, 0, none⟩ = some (.int .i64 a0_0) := (blk_cell BK402.out 0).trans rfl; have hcz9_1 : w6.cell? ⟨gb402, 1, none⟩ = some (.int .i64 a0_1) := (blk_cell BK402.out 1).trans rfl; have hcz9_2 : w6.cell? ⟨gb402, 2, none⟩ = some (.string a0_2) := (blk_cell BK402.out 2).trans rfl; have hcz9_3 : w6.cell? ⟨gb402, 3, none⟩ = some (.bool a0_3) := (blk_cell BK402.out 3).trans rfl; have hcz9_4 : w6.cell? ⟨gb402, 4, none⟩ = some (.int .i64 a0_4) := (blk_cell BK402.out 4).trans rfl; have hfz9_0 := blk_frozen BK402.out 0; have hfz9_1 := blk_frozen BK402.out 1; have hfz9_2 := blk_frozen BK402.out 2; have hfz9_3 := blk_frozen BK402.out 3; have hfz9_4 := blk_frozen BK402.out 4; have hnb10 := NB403_404.out; have hnc10 := NB404_403.out; have hcz11_0 : w6.cell? ⟨gb403, 0, none⟩ = some (.int .i64 a1_0) := (blk_cell BK403.out 0).trans rfl; have hcz11_1 : w6.cell? ⟨gb403, 1, none⟩ = some (.int .i64 a1_1) := (blk_cell BK403.out 1).trans rfl; have hcz11_2 : w6.cell? ⟨gb403, 2, none⟩ = some (.string a1_2) := (blk_cell BK403.out 2).trans rfl; have hcz11_3 : w6.cell? ⟨gb403, 3, none⟩ = some (.bool a1_3) := (blk_cell BK403.out 3).trans rfl; have hcz11_4 : w6.cell? ⟨gb403, 4, none⟩ = some (.int .i64 a1_4) := (blk_cell BK403.out 4).trans rfl; have hfz11_0 := blk_frozen BK403.out 0; have hfz11_1 := blk_frozen BK403.out 1; have hfz11_2 := blk_frozen BK403.out 2; have hfz11_3 := blk_frozen BK403.out 3; have hfz11_4 := blk_frozen BK403.out 4; have hcz12_0 : w6.cell? ⟨gb404, 0, none⟩ = some (.int .i64 0) := (blk_cell BK404.out 0).trans rfl; have hcz12_1 : w6.cell? ⟨gb404, 1, none⟩ = some (.int .i64 0) := (blk_cell BK404.out 1).trans rfl; have hcz12_2 : w6.cell? ⟨gb404, 2, none⟩ = some (.string (⟨#[]⟩ : ByteArray)) := (blk_cell BK404.out 2).trans rfl; have hcz12_3 : w6.cell? ⟨gb404, 3, none⟩ = some (.bool false) := (blk_cell BK404.out 3).trans rfl; have hcz12_4 : w6.cell? ⟨gb404, 4, none⟩ = some (.int .i64 0) := (blk_cell BK404.out 4).trans rfl; have hfz12_0 := blk_frozen BK404.out 0; have hfz12_1 := blk_frozen BK404.out 1; have hfz12_2 := blk_frozen BK404.out 2; have hfz12_3 := blk_frozen BK404.out 3; have hfz12_4 := blk_frozen BK404.out 4))
    refine bodyPost_ret (results_cell_row rfl _ _ gb404 24 #[.int .i64 a1_0, .int .i64 0, .string (⟨#[]⟩ : ByteArray), .bool false, .int .i64 0] (0, 0) _ rfl (by (with_reducible repeat (first | refine blk_drewN ?_ _ | refine blk_drew ?_ | refine blk_alloc ?_ _)); refine blk_put (cs := #[.int .i64 a1_0, .int .i64 0, .string (⟨#[]⟩ : ByteArray), .bool false, .int .i64 0]) ?_ 4 _ rfl; (with_reducible repeat (first | refine blk_drewN ?_ _ | refine blk_drew ?_ | refine blk_alloc ?_ _)); refine blk_put (cs := #[.int .i64 a1_0, .int .i64 0, .string (⟨#[]⟩ : ByteArray), .bool false, .int .i64 0]) ?_ 3 _ rfl; (with_reducible repeat (first | refine blk_drewN ?_ _ | refine blk_drew ?_ | refine blk_alloc ?_ _)); refine blk_put (cs := #[.int .i64 a1_0, .int .i64 0, .string (⟨#[]⟩ : ByteArray), .bool false, .int .i64 0]) ?_ 2 _ rfl; (with_reducible repeat (first | refine blk_drewN ?_ _ | refine blk_drew ?_ | refine blk_alloc ?_ _)); refine blk_put (cs := #[.int .i64 a1_0, .int .i64 0, .string (⟨#[]⟩ : ByteArray), .bool false, .int .i64 0]) ?_ 1 _ rfl; (with_reducible repeat (first | refine blk_drewN ?_ _ | refine blk_drew ?_ | refine blk_alloc ?_ _)); refine blk_put (cs := #[.int .i64 0, .int .i64 0, .string (⟨#[]⟩ : ByteArray), .bool false, .int .i64 0]) ?_ 0 _ rfl; (with_reducible repeat (first | refine blk_drewN ?_ _ | refine blk_drew ?_ | refine blk_alloc ?_ _)); exact BK404.out) Tryz.underlying24 rfl (by kernel_rfl)) rfl ?_
    exact ⟨by first | rfl | (simp [errW_none, errW_some] <;> rfl) | (simp [*, errW_none, errW_some] <;> rfl) | (simp [*, errW_none, errW_some] <;> (generalize ByteArray.toList _ = l_; cases l_ <;> rfl)), by repeat (first | (with_reducible first | exact HB.out | apply below_alloc | apply pw_below_drewN | apply below_drew1 | refine below_set ?_ GE402.out | refine below_set ?_ GE403.out | refine below_set ?_ GE404.out) | exact HB.out)⟩
  · rw [if_neg c3] at H
    have c3b0 : (a0_0 == 0) = false := beq_eq_false_iff_ne.mpr c3
    have c3b1 : (a0_0 != 0) = true := bne_iff_ne.mpr c3
    simp only [Option.some.injEq, Prod.mk.injEq] at H
    obtain ⟨rfl, rfl, rfl, rfl, rfl⟩ := H
    go_enter Tryz.func61, Tryz.ntmps61
    go_wp2_with (first | ((with_reducible refine gate_dst (N := 2) rfl ?_); refine box_event ?hg (N := 2) ?hd (cs := #[.int .i64 a0_0, .int .i64 a0_1, .string a0_2, .bool a0_3, .int .i64 a0_4]) (t := 24) ?hr ?_; (case hd => rfl); (case hg => rfl); (case hr => first | (go_simp; done) | (go_simp; rfl)); intro gb402 hg w13 hbox hb; have n0_ := Aside0.mk (below_step (by repeat (first | (with_reducible first | exact HB.out | apply below_alloc | apply pw_below_drewN | apply below_drew1) | exact HB.out)) hb); have n1_ := Aside0.mk (hbox); have n2_ := Aside0.mk ((by rw [hg]; exact (below_size (by repeat (first | (with_reducible first | exact HB.out | apply below_alloc | apply pw_below_drewN | apply below_drew1) | exact HB.out))) : w.heap.size ≤ gb402)); have n3_ := Aside0.mk ((by rw [hg]; exact (below_size (by repeat (first | (with_reducible first | exact HB.out | apply below_alloc | apply pw_below_drewN | apply below_drew1) | exact HB.out))) : w.heap.size ≤ gb402)); clear HB; have HB := n0_; have BK402 := n1_; have GW402 := n2_; have GE402 := n3_; clear n0_ n1_ n2_ n3_; clear hb hbox hg) | ((with_reducible refine gate_dst (N := 3) rfl ?_); refine box_event ?hg (N := 3) ?hd (cs := #[.int .i64 a1_0, .int .i64 a1_1, .string a1_2, .bool a1_3, .int .i64 a1_4]) (t := 24) ?hr ?_; (case hd => rfl); (case hg => rfl); (case hr => first | (go_simp; done) | (go_simp; rfl)); intro gb403 hg w14 hbox hb; have n0_ := Aside0.mk (blk_below (g := gb402) (o := .cells #[.int .i64 a0_0, .int .i64 a0_1, .string a0_2, .bool a0_3, .int .i64 a0_4] 24 (0, 0)) (by (with_reducible repeat (first | refine blk_drewN ?_ _ | refine blk_drew ?_ | refine blk_alloc ?_ _)); exact BK402.out) hb); have n1_ := Aside0.mk (below_step (by repeat (first | (with_reducible first | exact HB.out | apply below_alloc | apply pw_below_drewN | apply below_drew1 | refine below_set ?_ GE402.out) | exact HB.out)) hb); have n2_ := Aside0.mk (hbox); have n3_ := Aside0.mk ((by rw [hg]; exact (below_size (by repeat (first | (with_reducible first | exact HB.out | apply below_alloc | apply pw_below_drewN | apply below_drew1 | refine below_set ?_ GE402.out) | exact HB.out))) : w.heap.size ≤ gb403)); have n4_ := Aside0.mk ((by rw [hg]; exact (below_size (by repeat (first | (with_reducible first | exact HB.out | apply below_alloc | apply pw_below_drewN | apply below_drew1 | refine below_set ?_ GE402.out) | exact HB.out))) : w.heap.size ≤ gb403)); have n5_ := Aside0.mk ((by rw [hg]; exact Nat.ne_of_lt (blk_lt (g := gb402) (o := .cells #[.int .i64 a0_0, .int .i64 a0_1, .string a0_2, .bool a0_3, .int .i64 a0_4] 24 (0, 0)) (by (with_reducible repeat (first | refine blk_drewN ?_ _ | refine blk_drew ?_ | refine blk_alloc ?_ _)); exact BK402.out)) : gb402 ≠ gb403)); have n6_ := Aside0.mk ((by rw [hg]; exact Nat.ne_of_gt (blk_lt (g := gb402) (o := .cells #[.int .i64 a0_0, .int .i64 a0_1, .string a0_2, .bool a0_3, .int .i64 a0_4] 24 (0, 0)) (by (with_reducible repeat (first | refine blk_drewN ?_ _ | refine blk_drew ?_ | refine blk_alloc ?_ _)); exact BK402.out)) : gb403 ≠ gb402)); clear BK402; clear HB; have BK402 := n0_; have HB := n1_; have BK403 := n2_; have GW403 := n3_; have GE403 := n4_; have NB402_403 := n5_; have NB403_402 := n6_; clear n0_ n1_ n2_ n3_ n4_ n5_ n6_; clear hb hbox hg) | ((with_reducible refine gate_dst (N := 4) rfl ?_); refine box_event ?hg (N := 4) ?hd (cs := #[.int .i64 0, .int .i64 0, .string (⟨#[]⟩ : ByteArray), .bool false, .int .i64 0]) (t := 24) ?hr ?_; (case hd => rfl); (case hg => rfl); (case hr => first | (go_simp; done) | (go_simp; rfl)); intro gb404 hg w15 hbox hb; have n0_ := Aside0.mk (blk_below (g := gb402) (o := .cells #[.int .i64 a0_0, .int .i64 a0_1, .string a0_2, .bool a0_3, .int .i64 a0_4] 24 (0, 0)) (by (with_reducible repeat (first | refine blk_drewN ?_ _ | refine blk_drew ?_ | refine blk_alloc ?_ _)); exact BK402.out) hb); have n1_ := Aside0.mk (blk_below (g := gb403) (o := .cells #[.int .i64 a1_0, .int .i64 a1_1, .string a1_2, .bool a1_3, .int .i64 a1_4] 24 (0, 0)) (by (with_reducible repeat (first | refine blk_drewN ?_ _ | refine blk_drew ?_ | refine blk_alloc ?_ _)); exact BK403.out) hb); have n2_ := Aside0.mk (below_step (by repeat (first | (with_reducible first | exact HB.out | apply below_alloc | apply pw_below_drewN | apply below_drew1 | refine below_set ?_ GE402.out | refine below_set ?_ GE403.out) | exact HB.out)) hb); have n3_ := Aside0.mk (hbox); have n4_ := Aside0.mk ((by rw [hg]; exact (below_size (by repeat (first | (with_reducible first | exact HB.out | apply below_alloc | apply pw_below_drewN | apply below_drew1 | refine below_set ?_ GE402.out | refine below_set ?_ GE403.out) | exact HB.out))) : w.heap.size ≤ gb404)); have n5_ := Aside0.mk ((by rw [hg]; exact (below_size (by repeat (first | (with_reducible first | exact HB.out | apply below_alloc | apply pw_below_drewN | apply below_drew1 | refine below_set ?_ GE402.out | refine below_set ?_ GE403.out) | exact HB.out))) : w.heap.size ≤ gb404)); have n6_ := Aside0.mk ((by rw [hg]; exact Nat.ne_of_lt (blk_lt (g := gb402) (o := .cells #[.int .i64 a0_0, .int .i64 a0_1, .string a0_2, .bool a0_3, .int .i64 a0_4] 24 (0, 0)) (by (with_reducible repeat (first | refine blk_drewN ?_ _ | refine blk_drew ?_ | refine blk_alloc ?_ _)); exact BK402.out)) : gb402 ≠ gb404)); have n7_ := Aside0.mk ((by rw [hg]; exact Nat.ne_of_gt (blk_lt (g := gb402) (o := .cells #[.int .i64 a0_0, .int .i64 a0_1, .string a0_2, .bool a0_3, .int .i64 a0_4] 24 (0, 0)) (by (with_reducible repeat (first | refine blk_drewN ?_ _ | refine blk_drew ?_ | refine blk_alloc ?_ _)); exact BK402.out)) : gb404 ≠ gb402)); have n8_ := Aside0.mk ((by rw [hg]; exact Nat.ne_of_lt (blk_lt (g := gb403) (o := .cells #[.int .i64 a1_0, .int .i64 a1_1, .string a1_2, .bool a1_3, .int .i64 a1_4] 24 (0, 0)) (by (with_reducible repeat (first | refine blk_drewN ?_ _ | refine blk_drew ?_ | refine blk_alloc ?_ _)); exact BK403.out)) : gb403 ≠ gb404)); have n9_ := Aside0.mk ((by rw [hg]; exact Nat.ne_of_gt (blk_lt (g := gb403) (o := .cells #[.int .i64 a1_0, .int .i64 a1_1, .string a1_2, .bool a1_3, .int .i64 a1_4] 24 (0, 0)) (by (with_reducible repeat (first | refine blk_drewN ?_ _ | refine blk_drew ?_ | refine blk_alloc ?_ _)); exact BK403.out)) : gb404 ≠ gb403)); clear BK402; clear BK403; clear HB; have BK402 := n0_; have BK403 := n1_; have HB := n2_; have BK404 := n3_; have GW404 := n4_; have GE404 := n5_; have NB402_404 := n6_; have NB404_402 := n7_; have NB403_404 := n8_; have NB404_403 := n9_; clear n0_ n1_ n2_ n3_ n4_ n5_ n6_ n7_ n8_ n9_; clear hb hbox hg; have hnb16 := NB402_403.out; have hnc16 := NB403_402.out; have hnb17 := NB402_404.out; have hnc17 := NB404_402.out; have hcz18_0 : w15.cell? ⟨gb402, 0, none⟩ = some (.int .i64 a0_0) := (blk_cell BK402.out 0).trans rfl; have hcz18_1 : w15.cell? ⟨gb402, 1, none⟩ = some (.int .i64 a0_1) := (blk_cell BK402.out 1).trans rfl; have hcz18_2 : w15.cell? ⟨gb402, 2, none⟩ = some (.string a0_2) := (blk_cell BK402.out 2).trans rfl; have hcz18_3 : w15.cell? ⟨gb402, 3, none⟩ = some (.bool a0_3) := (blk_cell BK402.out 3).trans rfl; have hcz18_4 : w15.cell? ⟨gb402, 4, none⟩ = some (.int .i64 a0_4) := (blk_cell BK402.out 4).trans rfl; have hfz18_0 := blk_frozen BK402.out 0; have hfz18_1 := blk_frozen BK402.out 1; have hfz18_2 := blk_frozen BK402.out 2; have hfz18_3 := blk_frozen BK402.out 3; have hfz18_4 := blk_frozen BK402.out 4; have hnb19 := NB404_403.out; have hnc19 := NB403_404.out; have hcz20_0 : w15.cell? ⟨gb404, 0, none⟩ = some (.int .i64 0) := (blk_cell BK404.out 0).trans rfl; have hcz20_1 : w15.cell? ⟨gb404, 1, none⟩ = some (.int .i64 0) := (blk_cell BK404.out 1).trans rfl; have hcz20_2 : w15.cell? ⟨gb404, 2, none⟩ = some (.string (⟨#[]⟩ : ByteArray)) := (blk_cell BK404.out 2).trans rfl; have hcz20_3 : w15.cell? ⟨gb404, 3, none⟩ = some (.bool false) := (blk_cell BK404.out 3).trans rfl; have hcz20_4 : w15.cell? ⟨gb404, 4, none⟩ = some (.int .i64 0) := (blk_cell BK404.out 4).trans rfl; have hfz20_0 := blk_frozen BK404.out 0; have hfz20_1 := blk_frozen BK404.out 1; have hfz20_2 := blk_frozen BK404.out 2; have hfz20_3 := blk_frozen BK404.out 3; have hfz20_4 := blk_frozen BK404.out 4))
    refine bodyPost_ret (results_cell_row rfl _ _ gb404 24 #[.int .i64 a0_0, .int .i64 a0_1, .string a0_2, .bool a0_3, .int .i64 a0_4] (0, 0) _ rfl (by (with_reducible repeat (first | refine blk_drewN ?_ _ | refine blk_drew ?_ | refine blk_alloc ?_ _)); refine blk_put (cs := #[.int .i64 a0_0, .int .i64 a0_1, .string a0_2, .bool a0_3, .int .i64 0]) ?_ 4 _ rfl; (with_reducible repeat (first | refine blk_drewN ?_ _ | refine blk_drew ?_ | refine blk_alloc ?_ _)); refine blk_put (cs := #[.int .i64 a0_0, .int .i64 a0_1, .string a0_2, .bool false, .int .i64 0]) ?_ 3 _ rfl; (with_reducible repeat (first | refine blk_drewN ?_ _ | refine blk_drew ?_ | refine blk_alloc ?_ _)); refine blk_put (cs := #[.int .i64 a0_0, .int .i64 a0_1, .string (⟨#[]⟩ : ByteArray), .bool false, .int .i64 0]) ?_ 2 _ rfl; (with_reducible repeat (first | refine blk_drewN ?_ _ | refine blk_drew ?_ | refine blk_alloc ?_ _)); refine blk_put (cs := #[.int .i64 a0_0, .int .i64 0, .string (⟨#[]⟩ : ByteArray), .bool false, .int .i64 0]) ?_ 1 _ rfl; (with_reducible repeat (first | refine blk_drewN ?_ _ | refine blk_drew ?_ | refine blk_alloc ?_ _)); refine blk_put (cs := #[.int .i64 0, .int .i64 0, .string (⟨#[]⟩ : ByteArray), .bool false, .int .i64 0]) ?_ 0 _ rfl; (with_reducible repeat (first | refine blk_drewN ?_ _ | refine blk_drew ?_ | refine blk_alloc ?_ _)); exact BK404.out) Tryz.underlying24 rfl (by kernel_rfl)) rfl ?_
    exact ⟨by first | rfl | (simp [errW_none, errW_some] <;> rfl) | (simp [*, errW_none, errW_some] <;> rfl) | (simp [*, errW_none, errW_some] <;> (generalize ByteArray.toList _ = l_; cases l_ <;> rfl)), by repeat (first | (with_reducible first | exact HB.out | apply below_alloc | apply pw_below_drewN | apply below_drew1 | refine below_set ?_ GE402.out | refine below_set ?_ GE403.out | refine below_set ?_ GE404.out) | exact HB.out)⟩
end Go.Proofs.YtfnbflhoaemmeaaGreatDoor.EBui
end
section
namespace Go.Proofs.YtfnbflhoaemmeaaGreatDoor.EBui
open Go.RowKit Go.Proofs.YtfnbflhoaemmeaaGreatDoor.Ext Go.Proofs.YtfnbflhoaemmeaaGreatDoor.EFxA Go.Proofs.YtfnbflhoaemmeaaGreatDoor.EFix Go.Proofs.YtfnbflhoaemmeaaGreatDoor.EVal Go.Proofs.YtfnbflhoaemmeaaGreatDoorW.PrintWords Go.Proofs.YtfnbflhoaemmeaaGreatDoorW.PrintLast Go.Proofs.YtfnbflhoaemmeaaGreatDoorW.PrintMore
attribute [local go_sem] max2_int min2_int max_two min_two max_three min_three max_four min_four   
set_option linter.unusedVariables false
set_option linter.unusedSimpArgs false
def builtin_truth.f (a0 : Bool) : Option (Int × Int × ByteArray × Bool × Int) := some (3, 0, (⟨#[]⟩ : ByteArray), a0, 0)
set_option maxHeartbeats 8000000 in
set_option maxRecDepth 100000 in
theorem builtin_truth.calls (a0 : Bool) (r1 : Int) (r2 : Int) (r3 : ByteArray) (r4 : Bool) (r5 : Int) (w : World) (h : builtin_truth.f a0 = some (r1, r2, r3, r4, r5)) :
    Calls Tryz.prog 62 #[.bool a0] w fun e w' => e = .returned (.agg #[.int .i64 r1, .int .i64 r2, .string r3, .bool r4, .int .i64 r5]) ∧ Below w.heap.size w w' := by
  have hu24 := Tryz.underlying24
  have HB := Aside0.mk (Below.refl w.heap.size w)
  have H : (some (3, 0, (⟨#[]⟩ : ByteArray), a0, 0)) = some (r1, r2, r3, r4, r5) := h
  clear h
  simp only [Option.some.injEq, Prod.mk.injEq] at H
  obtain ⟨rfl, rfl, rfl, rfl, rfl⟩ := H
  go_enter Tryz.func62, Tryz.ntmps62
  go_wp2_with (first | ((with_reducible refine gate_dst (N := 2) rfl ?_); refine box_event ?hg (N := 2) ?hd (cs := #[.int .i64 0, .int .i64 0, .string (⟨#[]⟩ : ByteArray), .bool false, .int .i64 0]) (t := 24) ?hr ?_; (case hd => rfl); (case hg => rfl); (case hr => first | (go_simp; done) | (go_simp; rfl)); intro gb191 hg w2 hbox hb; have n0_ := Aside0.mk (below_step (by repeat (first | (with_reducible first | exact HB.out | apply below_alloc | apply pw_below_drewN | apply below_drew1) | exact HB.out)) hb); have n1_ := Aside0.mk (hbox); have n2_ := Aside0.mk ((by rw [hg]; exact (below_size (by repeat (first | (with_reducible first | exact HB.out | apply below_alloc | apply pw_below_drewN | apply below_drew1) | exact HB.out))) : w.heap.size ≤ gb191)); have n3_ := Aside0.mk ((by rw [hg]; exact (below_size (by repeat (first | (with_reducible first | exact HB.out | apply below_alloc | apply pw_below_drewN | apply below_drew1) | exact HB.out))) : w.heap.size ≤ gb191)); clear HB; have HB := n0_; have BK191 := n1_; have GW191 := n2_; have GE191 := n3_; clear n0_ n1_ n2_ n3_; clear hb hbox hg; have hcz3_0 : w2.cell? ⟨gb191, 0, none⟩ = some (.int .i64 0) := (blk_cell BK191.out 0).trans rfl; have hcz3_1 : w2.cell? ⟨gb191, 1, none⟩ = some (.int .i64 0) := (blk_cell BK191.out 1).trans rfl; have hcz3_2 : w2.cell? ⟨gb191, 2, none⟩ = some (.string (⟨#[]⟩ : ByteArray)) := (blk_cell BK191.out 2).trans rfl; have hcz3_3 : w2.cell? ⟨gb191, 3, none⟩ = some (.bool false) := (blk_cell BK191.out 3).trans rfl; have hcz3_4 : w2.cell? ⟨gb191, 4, none⟩ = some (.int .i64 0) := (blk_cell BK191.out 4).trans rfl; have hfz3_0 := blk_frozen BK191.out 0; have hfz3_1 := blk_frozen BK191.out 1; have hfz3_2 := blk_frozen BK191.out 2; have hfz3_3 := blk_frozen BK191.out 3; have hfz3_4 := blk_frozen BK191.out 4))
  refine bodyPost_ret (results_cell_row rfl _ _ gb191 24 #[.int .i64 3, .int .i64 0, .string (⟨#[]⟩ : ByteArray), .bool a0, .int .i64 0] (0, 0) _ rfl (by (with_reducible repeat (first | refine blk_drewN ?_ _ | refine blk_drew ?_ | refine blk_alloc ?_ _)); refine blk_put (cs := #[.int .i64 3, .int .i64 0, .string (⟨#[]⟩ : ByteArray), .bool a0, .int .i64 0]) ?_ 4 _ rfl; (with_reducible repeat (first | refine blk_drewN ?_ _ | refine blk_drew ?_ | refine blk_alloc ?_ _)); refine blk_put (cs := #[.int .i64 3, .int .i64 0, .string (⟨#[]⟩ : ByteArray), .bool false, .int .i64 0]) ?_ 3 _ rfl; (with_reducible repeat (first | refine blk_drewN ?_ _ | refine blk_drew ?_ | refine blk_alloc ?_ _)); refine blk_put (cs := #[.int .i64 3, .int .i64 0, .string (⟨#[]⟩ : ByteArray), .bool false, .int .i64 0]) ?_ 2 _ rfl; (with_reducible repeat (first | refine blk_drewN ?_ _ | refine blk_drew ?_ | refine blk_alloc ?_ _)); refine blk_put (cs := #[.int .i64 3, .int .i64 0, .string (⟨#[]⟩ : ByteArray), .bool false, .int .i64 0]) ?_ 1 _ rfl; (with_reducible repeat (first | refine blk_drewN ?_ _ | refine blk_drew ?_ | refine blk_alloc ?_ _)); refine blk_put (cs := #[.int .i64 0, .int .i64 0, .string (⟨#[]⟩ : ByteArray), .bool false, .int .i64 0]) ?_ 0 _ rfl; (with_reducible repeat (first | refine blk_drewN ?_ _ | refine blk_drew ?_ | refine blk_alloc ?_ _)); exact BK191.out) Tryz.underlying24 rfl (by kernel_rfl)) rfl ?_
  exact ⟨by first | rfl | (simp [errW_none, errW_some] <;> rfl) | (simp [*, errW_none, errW_some] <;> rfl) | (simp [*, errW_none, errW_some] <;> (generalize ByteArray.toList _ = l_; cases l_ <;> rfl)), by repeat (first | (with_reducible first | exact HB.out | apply below_alloc | apply pw_below_drewN | apply below_drew1 | refine below_set ?_ GE191.out) | exact HB.out)⟩
end Go.Proofs.YtfnbflhoaemmeaaGreatDoor.EBui
end
section
namespace Go.Proofs.YtfnbflhoaemmeaaGreatDoor.EBui
open Go.RowKit Go.Lib Go.Proofs.YtfnbflhoaemmeaaGreatDoorW.PrintWords Go.Proofs.YtfnbflhoaemmeaaGreatDoorW.PrintLast Go.Proofs.YtfnbflhoaemmeaaGreatDoorW.PrintMore Go.Proofs.YtfnbflhoaemmeaaGreatDoor.Ext Go.Proofs.YtfnbflhoaemmeaaGreatDoor.EFxA Go.Proofs.YtfnbflhoaemmeaaGreatDoor.EFix Go.Proofs.YtfnbflhoaemmeaaGreatDoor.EVal
attribute [local go_sem] max2_int min2_int max_two min_two max_three min_three max_four min_four
set_option linter.unusedVariables false
set_option linter.unusedSimpArgs false
def bb_T : Bool × List (List Nat × List Nat) := (true, [([], []), ([], []), ([], []), ([1, 2], [1, 2]), ([], []), ([], []), ([4, 5, 3], [4, 5]), ([3, 6, 6], [3, 6]), ([0, 7, 7], [0, 7]), ([8], [8]), ([9], [9]), ([9], [9]), ([10, 8, 0, 1, 2, 3, 4, 5, 6, 7, 8, 9, 10], [10]), ([11, 12, 0, 1, 2, 3, 4, 5, 6, 7, 8, 9, 10, 11, 12], [11])])
def bb_B : List Nat := [0, 0, 0, 6, 0, 0, 62, 126, 255, 511, 1023, 1023, 2047, 8191]
theorem bb_tab : rtab .any (opsOf Tryz.f31 23) = bb_T := by kernel_rfl
theorem bb_bits : waitsOk bb_T.2 bb_B = true := by kernel_rfl
set_option maxHeartbeats 8000000 in
set_option maxRecDepth 100000 in
theorem binary_cmp (op : ByteArray) (h1 : op.toList ≠ ([43] : List UInt8)) (h2 : op.toList ≠ ([45] : List UInt8)) (h3 : op.toList ≠ ([42] : List UInt8)) (h4 : op.toList ≠ ([47] : List UInt8)) (h5 : op.toList ≠ ([38] : List UInt8)) (a0 a1 : Int) (a2 : ByteArray) (a3 : Bool) (a4 : Int) (b0 b1 : Int) (b2 : ByteArray) (b3 : Bool) (b4 : Int) (x0 x1 : Int) (x2 : ByteArray) (x3 : Bool) (x4 : Int) (y0 y1 : Int) (y2 : ByteArray) (y3 : Bool) (y4 : Int) (X Y : ByteArray) (c : Int) (q : Bool)
    (hX : value_Text.f a0 a1 a2 a3 a4 = some (X, 0)) (hY : value_Text.f b0 b1 b2 b3 b4 = some (Y, 0)) (hFA : builtin_filled.f a0 a1 a2 a3 a4 b0 b1 b2 b3 b4 = some (x0, x1, x2, x3, x4)) (hFB : builtin_filled.f b0 b1 b2 b3 b4 a0 a1 a2 a3 a4 = some (y0, y1, y2, y3, y4))
    (hc : value_Compare.f 10 x0 x1 x2 x3 x4 y0 y1 y2 y3 y4 = some c) (hq : builtin_compared.f op c = some (q, true)) (w : World) (hL : Aside0 (Lq w)) :
    Calls Tryz.prog 31 #[.string op, .agg #[.int .i64 a0, .int .i64 a1, .string a2, .bool a3, .int .i64 a4], .agg #[.int .i64 b0, .int .i64 b1, .string b2, .bool b3, .int .i64 b4]] w fun e w' => e = .returned (.agg #[.int .i64 3, .int .i64 0, .string (⟨#[]⟩ : ByteArray), .bool q, .int .i64 0]) ∧ Below w.heap.size w w' := by
  have hu24 := Tryz.underlying24
  have HB := Aside0.mk (Below.refl w.heap.size w)
  have HX := Aside0.mk hX
  have HY := Aside0.mk hY
  have HFA := Aside0.mk hFA
  have HFB := Aside0.mk hFB
  have HCC := Aside0.mk hc
  have HQ := Aside0.mk hq
  have k1 : (op.toList == ([43] : List UInt8)) = false := beq_eq_false_iff_ne.mpr h1
  have k2 : (op.toList == ([45] : List UInt8)) = false := beq_eq_false_iff_ne.mpr h2
  have k3 : (op.toList == ([42] : List UInt8)) = false := beq_eq_false_iff_ne.mpr h3
  have k4 : (op.toList == ([47] : List UInt8)) = false := beq_eq_false_iff_ne.mpr h4
  have k5 : (op.toList == ([38] : List UInt8)) = false := beq_eq_false_iff_ne.mpr h5
  clear hX hY hFA hFB hc hq h1 h2 h3 h4 h5
  go_enter Tryz.func31, Tryz.ntmps31
  go_upto_region 23 with (first
    | ((with_reducible refine gate_dst (N := 4) rfl ?_); (try (refine gate_guard (by rfl) ?_; dsimp only)); refine box_event ?hg (N := 4) ?hd (cs := cs5 a0 a1 a2 a3 a4) (t := 24) ?hr ?_; (case hd => rfl); (case hg => rfl); (case hr => first | (go_simp; done) | (go_simp; rfl)); intro gA hg wA hbox hb; have GEA := Aside0.mk ((by rw [hg]; exact (below_size (by repeat (first | (with_reducible first | exact HB.out | apply bA | apply below_drew | apply bN | apply bD) | exact HB.out))) : w.heap.size ≤ gA)); have nX_ := Aside0.mk hbox; have n0_ := Aside0.mk (below_step (by repeat (first | (with_reducible first | exact HB.out | apply bA | apply below_drew | apply bN | apply bD) | exact HB.out)) hb); clear HB ; have HB := n0_; clear n0_ hb; have BKA := nX_; clear nX_ hbox hg; obtain ⟨zA0, zA1, zA2, zA3, zA4, zAf0, zAf1, zAf2, zAf3, zAf4⟩ := five BKA.out)
    | ((with_reducible refine gate_dst (N := 5) rfl ?_); (try (refine gate_guard (by rfl) ?_; dsimp only)); refine box_event ?hg (N := 5) ?hd (cs := cs5 b0 b1 b2 b3 b4) (t := 24) ?hr ?_; (case hd => rfl); (case hg => rfl); (case hr => first | (go_simp; done) | (go_simp; rfl)); intro gB hg wB hbox hb; have GEB := Aside0.mk ((by rw [hg]; exact (below_size (by repeat (first | (with_reducible first | exact HB.out | apply bA | apply below_drew | apply bN | apply bD | refine below_set ?_ GEA.out) | exact HB.out))) : w.heap.size ≤ gB)); have NEAB : gA ≠ gB := (by rw [hg]; exact Nat.ne_of_lt (blk_lt (by (with_reducible repeat (first | refine blk_drewN ?_ _ | refine blk_drew ?_ | refine blk_alloc ?_ _)); exact BKA.out))); have NEBA : gB ≠ gA := Ne.symm NEAB; have nX_ := Aside0.mk hbox; have mA_ := Aside0.mk (blk_below (by (with_reducible repeat (first | refine blk_drewN ?_ _ | refine blk_drew ?_ | refine blk_alloc ?_ _)); exact BKA.out) hb); have n0_ := Aside0.mk (below_step (by repeat (first | (with_reducible first | exact HB.out | apply bA | apply below_drew | apply bN | apply bD | refine below_set ?_ GEA.out) | exact HB.out)) hb); clear HB BKA; have HB := n0_; have BKA := mA_; clear n0_ mA_ hb; have BKB := nX_; clear nX_ hbox hg; clear zA0 zAf0 zA1 zAf1 zA2 zAf2 zA3 zAf3 zA4 zAf4; obtain ⟨zA0, zA1, zA2, zA3, zA4, zAf0, zAf1, zAf2, zAf3, zAf4⟩ := five BKA.out; obtain ⟨zB0, zB1, zB2, zB3, zB4, zBf0, zBf1, zBf2, zBf3, zBf4⟩ := five BKB.out)
    | ((with_reducible refine gate_dst (N := 6) rfl ?_); (try (refine gate_guard (by rfl) ?_; dsimp only)); refine box_event ?hg (N := 6) ?hd (cs := cs5 0 0 (⟨#[]⟩ : ByteArray) false 0) (t := 24) ?hr ?_; (case hd => rfl); (case hg => rfl); (case hr => first | (go_simp; done) | (go_simp; rfl)); intro gR hg wR hbox hb; have GER := Aside0.mk ((by rw [hg]; exact (below_size (by repeat (first | (with_reducible first | exact HB.out | apply bA | apply below_drew | apply bN | apply bD | refine below_set ?_ GEA.out | refine below_set ?_ GEB.out) | exact HB.out))) : w.heap.size ≤ gR)); have NEAR : gA ≠ gR := (by rw [hg]; exact Nat.ne_of_lt (blk_lt (by (with_reducible repeat (first | refine blk_drewN ?_ _ | refine blk_drew ?_ | refine blk_alloc ?_ _)); exact BKA.out))); have NERA : gR ≠ gA := Ne.symm NEAR; have NEBR : gB ≠ gR := (by rw [hg]; exact Nat.ne_of_lt (blk_lt (by (with_reducible repeat (first | refine blk_drewN ?_ _ | refine blk_drew ?_ | refine blk_alloc ?_ _)); exact BKB.out))); have NERB : gR ≠ gB := Ne.symm NEBR; have nX_ := Aside0.mk hbox; have mA_ := Aside0.mk (blk_below (by (with_reducible repeat (first | refine blk_drewN ?_ _ | refine blk_drew ?_ | refine blk_alloc ?_ _)); exact BKA.out) hb); have mB_ := Aside0.mk (blk_below (by (with_reducible repeat (first | refine blk_drewN ?_ _ | refine blk_drew ?_ | refine blk_alloc ?_ _)); exact BKB.out) hb); have n0_ := Aside0.mk (below_step (by repeat (first | (with_reducible first | exact HB.out | apply bA | apply below_drew | apply bN | apply bD | refine below_set ?_ GEA.out | refine below_set ?_ GEB.out) | exact HB.out)) hb); clear HB BKA BKB; have HB := n0_; have BKA := mA_; have BKB := mB_; clear n0_ mA_ mB_ hb; have BKR := nX_; clear nX_ hbox hg; clear zA0 zAf0 zA1 zAf1 zA2 zAf2 zA3 zAf3 zA4 zAf4; obtain ⟨zA0, zA1, zA2, zA3, zA4, zAf0, zAf1, zAf2, zAf3, zAf4⟩ := five BKA.out; clear zB0 zBf0 zB1 zBf1 zB2 zBf2 zB3 zBf3 zB4 zBf4; obtain ⟨zB0, zB1, zB2, zB3, zB4, zBf0, zBf1, zBf2, zBf3, zBf4⟩ := five BKB.out; obtain ⟨zR0, zR1, zR2, zR3, zR4, zRf0, zRf1, zRf2, zRf3, zRf4⟩ := five BKR.out)
    | ((with_reducible refine gate_callee (f := 19) rfl ?_); (try (refine gate_guard (by rfl) ?_; dsimp only)); refine goesL_ (some 23) rfl rfl Tryz.func19 (by kernel_rfl) rfl #[.agg #[.int .i64 a0, .int .i64 a1, .string a2, .bool a3, .int .i64 a4]] rfl (by (try simp only [List.map_toArray, List.map_cons, List.map_nil]); first | done | rfl) ?_; (refine (value_Text.calls (hL := ⟨hL.out.below (by repeat (first | (with_reducible first | exact HB.out | apply bA | apply below_drew | apply bN | apply bD | refine below_set ?_ GEA.out | refine below_set ?_ GEB.out | refine below_set ?_ GER.out) | exact HB.out))⟩) a0 a1 a2 a3 a4 X 0 _ HX.out).mono ?_); rintro e_ v1 ⟨rfl, hb⟩; refine ⟨_, rfl, ?_⟩; have mA_ := Aside0.mk (blk_below (by (with_reducible repeat (first | refine blk_drewN ?_ _ | refine blk_drew ?_ | refine blk_alloc ?_ _)); exact BKA.out) hb); have mB_ := Aside0.mk (blk_below (by (with_reducible repeat (first | refine blk_drewN ?_ _ | refine blk_drew ?_ | refine blk_alloc ?_ _)); exact BKB.out) hb); have mR_ := Aside0.mk (blk_below (by (with_reducible repeat (first | refine blk_drewN ?_ _ | refine blk_drew ?_ | refine blk_alloc ?_ _)); exact BKR.out) hb); have n0_ := Aside0.mk (below_step (by repeat (first | (with_reducible first | exact HB.out | apply bA | apply below_drew | apply bN | apply bD | refine below_set ?_ GEA.out | refine below_set ?_ GEB.out | refine below_set ?_ GER.out) | exact HB.out)) hb); clear HB BKA BKB BKR; have HB := n0_; have BKA := mA_; have BKB := mB_; have BKR := mR_; clear n0_ mA_ mB_ mR_ hb; clear zA0 zAf0 zA1 zAf1 zA2 zAf2 zA3 zAf3 zA4 zAf4; clear zB0 zBf0 zB1 zBf1 zB2 zBf2 zB3 zBf3 zB4 zBf4; clear zR0 zRf0 zR1 zRf1 zR2 zRf2 zR3 zRf3 zR4 zRf4; obtain ⟨zB0, zB1, zB2, zB3, zB4, zBf0, zBf1, zBf2, zBf3, zBf4⟩ := five BKB.out)
    | ((with_reducible refine gate_callee (f := 19) rfl ?_); (try (refine gate_guard (by rfl) ?_; dsimp only)); refine goesL_ (some 28) rfl rfl Tryz.func19 (by kernel_rfl) rfl #[.agg #[.int .i64 b0, .int .i64 b1, .string b2, .bool b3, .int .i64 b4]] rfl (by (try simp only [List.map_toArray, List.map_cons, List.map_nil]); first | done | rfl) ?_; (refine (value_Text.calls (hL := ⟨hL.out.below (by repeat (first | (with_reducible first | exact HB.out | apply bA | apply below_drew | apply bN | apply bD | refine below_set ?_ GEA.out | refine below_set ?_ GEB.out | refine below_set ?_ GER.out) | exact HB.out))⟩) b0 b1 b2 b3 b4 Y 0 _ HY.out).mono ?_); rintro e_ v2 ⟨rfl, hb⟩; refine ⟨_, rfl, ?_⟩; have mA_ := Aside0.mk (blk_below (by (with_reducible repeat (first | refine blk_drewN ?_ _ | refine blk_drew ?_ | refine blk_alloc ?_ _)); exact BKA.out) hb); have mB_ := Aside0.mk (blk_below (by (with_reducible repeat (first | refine blk_drewN ?_ _ | refine blk_drew ?_ | refine blk_alloc ?_ _)); exact BKB.out) hb); have mR_ := Aside0.mk (blk_below (by (with_reducible repeat (first | refine blk_drewN ?_ _ | refine blk_drew ?_ | refine blk_alloc ?_ _)); exact BKR.out) hb); have n0_ := Aside0.mk (below_step (by repeat (first | (with_reducible first | exact HB.out | apply bA | apply below_drew | apply bN | apply bD | refine below_set ?_ GEA.out | refine below_set ?_ GEB.out | refine below_set ?_ GER.out) | exact HB.out)) hb); clear HB BKA BKB BKR; have HB := n0_; have BKA := mA_; have BKB := mB_; have BKR := mR_; clear n0_ mA_ mB_ mR_ hb; clear zB0 zBf0 zB1 zBf1 zB2 zBf2 zB3 zBf3 zB4 zBf4)
    | ((with_reducible refine gate_callee (f := 57) rfl ?_); (try (refine gate_guard (by rfl) ?_; dsimp only)); refine goesL_ (some 33) rfl rfl Tryz.func57 (by kernel_rfl) rfl #[.int .i64 0, .int .i64 0] rfl (by (try simp only [List.map_toArray, List.map_cons, List.map_nil]); first | done | rfl) ?_; (refine (least_00 _).mono ?_); rintro e_ w_ ⟨rfl, ⟨nd, rfl⟩⟩; refine ⟨_, rfl, ?_⟩; have mA_ := Aside0.mk (blk_drewN BKA.out nd); have mB_ := Aside0.mk (blk_drewN BKB.out nd); have mR_ := Aside0.mk (blk_drewN BKR.out nd); have n0_ := Aside0.mk (bN HB.out nd); clear HB BKA BKB BKR; have HB := n0_; have BKA := mA_; have BKB := mB_; have BKR := mR_; clear n0_ mA_ mB_ mR_))
  (try simp only [Act.put, List.setIfInBounds_toArray, List.set_cons_zero, List.set_cons_succ])
  refine start_ (n := 14) (S := fun w' => w'.heap[gA]? = some (.cells (cs5 a0 a1 a2 a3 a4) 24 (0, 0)) ∧ w'.heap[gB]? = some (.cells (cs5 b0 b1 b2 b3 b4) 24 (0, 0))) (ds := []) #[false, false, false, false, false, false, false, false, false, false, false, false, false, false] (by kernel_rfl) rfl rfl (⟨BKA.out, BKB.out⟩) (fun hHeld => ?_)
  refine with_tabW bb_tab bb_bits (fun HT_ HW_ => ?_)
  have mA_ := Aside0.mk (blk_drew BKA.out)
  have mB_ := Aside0.mk (blk_drew BKB.out)
  have mR_ := Aside0.mk (blk_drew BKR.out)
  have n0_ := Aside0.mk (below_drew1 HB.out)
  clear HB BKA BKB BKR
  have BKA := mA_
  have BKB := mB_
  have BKR := mR_
  have HB := n0_
  clear n0_ mA_ mB_ mR_
  generalize World.drew _ = wD at BKA BKB BKR HB hHeld ⊢
  refine pure_ (i := 0) (N := some 89) (v := ?_) (a' := ?_) #[true, false, false, false, false, false, false, false, false, false, false, false, false, false] rfl rfl (any_of HT_.out (by kernel_rfl)) (fun _ _ _ h => h) (Or.inl ⟨by rfl, ?_⟩) ?_ ?_
  rotate_left
  · intro w'
    go_simp
    with_reducible rfl
  rotate_left
  · simp only [Act.put, List.setIfInBounds_toArray, List.set_cons_zero, List.set_cons_succ, i64_w, i32_w]
    rfl
  refine take_ (i := 1) (N := some 90) (v := ?_) (a' := ?_) #[true, true, false, false, false, false, false, false, false, false, false, false, false, false] rfl rfl (take_ofW HT_.out HW_.out (by kernel_rfl)) (fun _ _ _ h => h) (Or.inl ⟨by rfl, ?_⟩) hHeld ?_ ?_
  rotate_left
  · intro w' sA
    obtain ⟨sA1_, sB1_⟩ := sA
    have sA0 : w'.cell? ⟨gA, 0, none⟩ = some (.int .i64 a0) := (blk_cell sA1_ 0).trans rfl
    have sA1 : w'.cell? ⟨gA, 1, none⟩ = some (.int .i64 a1) := (blk_cell sA1_ 1).trans rfl
    have sA2 : w'.cell? ⟨gA, 2, none⟩ = some (.string a2) := (blk_cell sA1_ 2).trans rfl
    have sA3 : w'.cell? ⟨gA, 3, none⟩ = some (.bool a3) := (blk_cell sA1_ 3).trans rfl
    have sA4 : w'.cell? ⟨gA, 4, none⟩ = some (.int .i64 a4) := (blk_cell sA1_ 4).trans rfl
    have sB0 : w'.cell? ⟨gB, 0, none⟩ = some (.int .i64 b0) := (blk_cell sB1_ 0).trans rfl
    have sB1 : w'.cell? ⟨gB, 1, none⟩ = some (.int .i64 b1) := (blk_cell sB1_ 1).trans rfl
    have sB2 : w'.cell? ⟨gB, 2, none⟩ = some (.string b2) := (blk_cell sB1_ 2).trans rfl
    have sB3 : w'.cell? ⟨gB, 3, none⟩ = some (.bool b3) := (blk_cell sB1_ 3).trans rfl
    have sB4 : w'.cell? ⟨gB, 4, none⟩ = some (.int .i64 b4) := (blk_cell sB1_ 4).trans rfl
    clear sA1_ sB1_
    go_simp
    with_reducible rfl
  rotate_left
  · simp only [Act.put, List.setIfInBounds_toArray, List.set_cons_zero, List.set_cons_succ, i64_w, i32_w]
    rfl
  refine take_ (i := 2) (N := some 91) (v := ?_) (a' := ?_) #[true, true, true, false, false, false, false, false, false, false, false, false, false, false] rfl rfl (take_ofW HT_.out HW_.out (by kernel_rfl)) (fun _ _ _ h => h) (Or.inl ⟨by rfl, ?_⟩) hHeld ?_ ?_
  rotate_left
  · intro w' sA
    obtain ⟨sA1_, sB1_⟩ := sA
    have sA0 : w'.cell? ⟨gA, 0, none⟩ = some (.int .i64 a0) := (blk_cell sA1_ 0).trans rfl
    have sA1 : w'.cell? ⟨gA, 1, none⟩ = some (.int .i64 a1) := (blk_cell sA1_ 1).trans rfl
    have sA2 : w'.cell? ⟨gA, 2, none⟩ = some (.string a2) := (blk_cell sA1_ 2).trans rfl
    have sA3 : w'.cell? ⟨gA, 3, none⟩ = some (.bool a3) := (blk_cell sA1_ 3).trans rfl
    have sA4 : w'.cell? ⟨gA, 4, none⟩ = some (.int .i64 a4) := (blk_cell sA1_ 4).trans rfl
    have sB0 : w'.cell? ⟨gB, 0, none⟩ = some (.int .i64 b0) := (blk_cell sB1_ 0).trans rfl
    have sB1 : w'.cell? ⟨gB, 1, none⟩ = some (.int .i64 b1) := (blk_cell sB1_ 1).trans rfl
    have sB2 : w'.cell? ⟨gB, 2, none⟩ = some (.string b2) := (blk_cell sB1_ 2).trans rfl
    have sB3 : w'.cell? ⟨gB, 3, none⟩ = some (.bool b3) := (blk_cell sB1_ 3).trans rfl
    have sB4 : w'.cell? ⟨gB, 4, none⟩ = some (.int .i64 b4) := (blk_cell sB1_ 4).trans rfl
    clear sA1_ sB1_
    go_simp
    with_reducible rfl
  rotate_left
  · simp only [Act.put, List.setIfInBounds_toArray, List.set_cons_zero, List.set_cons_succ, i64_w, i32_w]
    rfl
  refine take_ (i := 4) (N := some 93) (v := ?_) (a' := ?_) #[true, true, true, false, true, false, false, false, false, false, false, false, false, false] rfl rfl (take_ofW HT_.out HW_.out (by kernel_rfl)) (fun _ _ _ h => h) (Or.inl ⟨by rfl, ?_⟩) hHeld ?_ ?_
  rotate_left
  · intro w' sA
    obtain ⟨sA1_, sB1_⟩ := sA
    have sA0 : w'.cell? ⟨gA, 0, none⟩ = some (.int .i64 a0) := (blk_cell sA1_ 0).trans rfl
    have sA1 : w'.cell? ⟨gA, 1, none⟩ = some (.int .i64 a1) := (blk_cell sA1_ 1).trans rfl
    have sA2 : w'.cell? ⟨gA, 2, none⟩ = some (.string a2) := (blk_cell sA1_ 2).trans rfl
    have sA3 : w'.cell? ⟨gA, 3, none⟩ = some (.bool a3) := (blk_cell sA1_ 3).trans rfl
    have sA4 : w'.cell? ⟨gA, 4, none⟩ = some (.int .i64 a4) := (blk_cell sA1_ 4).trans rfl
    have sB0 : w'.cell? ⟨gB, 0, none⟩ = some (.int .i64 b0) := (blk_cell sB1_ 0).trans rfl
    have sB1 : w'.cell? ⟨gB, 1, none⟩ = some (.int .i64 b1) := (blk_cell sB1_ 1).trans rfl
    have sB2 : w'.cell? ⟨gB, 2, none⟩ = some (.string b2) := (blk_cell sB1_ 2).trans rfl
    have sB3 : w'.cell? ⟨gB, 3, none⟩ = some (.bool b3) := (blk_cell sB1_ 3).trans rfl
    have sB4 : w'.cell? ⟨gB, 4, none⟩ = some (.int .i64 b4) := (blk_cell sB1_ 4).trans rfl
    clear sA1_ sB1_
    go_simp
    with_reducible rfl
  rotate_left
  · simp only [Act.put, List.setIfInBounds_toArray, List.set_cons_zero, List.set_cons_succ, i64_w, i32_w]
    rfl
  refine take_ (i := 5) (N := some 94) (v := ?_) (a' := ?_) #[true, true, true, false, true, true, false, false, false, false, false, false, false, false] rfl rfl (take_ofW HT_.out HW_.out (by kernel_rfl)) (fun _ _ _ h => h) (Or.inl ⟨by rfl, ?_⟩) hHeld ?_ ?_
  rotate_left
  · intro w' sA
    obtain ⟨sA1_, sB1_⟩ := sA
    have sA0 : w'.cell? ⟨gA, 0, none⟩ = some (.int .i64 a0) := (blk_cell sA1_ 0).trans rfl
    have sA1 : w'.cell? ⟨gA, 1, none⟩ = some (.int .i64 a1) := (blk_cell sA1_ 1).trans rfl
    have sA2 : w'.cell? ⟨gA, 2, none⟩ = some (.string a2) := (blk_cell sA1_ 2).trans rfl
    have sA3 : w'.cell? ⟨gA, 3, none⟩ = some (.bool a3) := (blk_cell sA1_ 3).trans rfl
    have sA4 : w'.cell? ⟨gA, 4, none⟩ = some (.int .i64 a4) := (blk_cell sA1_ 4).trans rfl
    have sB0 : w'.cell? ⟨gB, 0, none⟩ = some (.int .i64 b0) := (blk_cell sB1_ 0).trans rfl
    have sB1 : w'.cell? ⟨gB, 1, none⟩ = some (.int .i64 b1) := (blk_cell sB1_ 1).trans rfl
    have sB2 : w'.cell? ⟨gB, 2, none⟩ = some (.string b2) := (blk_cell sB1_ 2).trans rfl
    have sB3 : w'.cell? ⟨gB, 3, none⟩ = some (.bool b3) := (blk_cell sB1_ 3).trans rfl
    have sB4 : w'.cell? ⟨gB, 4, none⟩ = some (.int .i64 b4) := (blk_cell sB1_ 4).trans rfl
    clear sA1_ sB1_
    go_simp
    with_reducible rfl
  rotate_left
  · simp only [Act.put, List.setIfInBounds_toArray, List.set_cons_zero, List.set_cons_succ, i64_w, i32_w]
    rfl
  refine one_ (i := 3) (N := some 92) #[true, true, true, true, true, true, false, false, false, false, false, false, false, false] rfl rfl (one_of HT_.out (by kernel_rfl)) (by decide) (fun K hK => ?_)
  refine goes_ Tryz.func61 (by kernel_rfl) rfl #[.agg #[.int .i64 a0, .int .i64 a1, .string a2, .bool a3, .int .i64 a4], .agg #[.int .i64 b0, .int .i64 b1, .string b2, .bool b3, .int .i64 b4]] (by rfl) rfl rfl (by (try simp only [List.map_toArray, List.map_cons, List.map_nil]); first | done | rfl) ?_
  refine (builtin_filled.calls a0 a1 a2 a3 a4 b0 b1 b2 b3 b4 x0 x1 x2 x3 x4 _ HFA.out).mono ?_
  rintro e_ w1 ⟨rfl, hb⟩
  refine ⟨_, rfl, ?_⟩
  have mA_ := Aside0.mk (blk_below (by (with_reducible repeat (first | refine blk_drewN ?_ _ | refine blk_drew ?_ | refine blk_alloc ?_ _)); exact BKA.out) hb); have mB_ := Aside0.mk (blk_below (by (with_reducible repeat (first | refine blk_drewN ?_ _ | refine blk_drew ?_ | refine blk_alloc ?_ _)); exact BKB.out) hb); have mR_ := Aside0.mk (blk_below (by (with_reducible repeat (first | refine blk_drewN ?_ _ | refine blk_drew ?_ | refine blk_alloc ?_ _)); exact BKR.out) hb); have n0_ := Aside0.mk (below_step (by repeat (first | (with_reducible first | exact HB.out | apply bA | apply below_drew | apply bN | apply bD | refine below_set ?_ GEA.out | refine below_set ?_ GEB.out | refine below_set ?_ GER.out) | exact HB.out)) hb); clear HB BKA BKB BKR; have HB := n0_; have BKA := mA_; have BKB := mB_; have BKR := mR_; clear n0_ mA_ mB_ mR_ hb
  refine hK.out _ _ (⟨BKA.out, BKB.out⟩) (fun hHeld => ?_)
  clear hK K
  refine norm_ (a' := ?_) ?_ ?_
  rotate_left
  · show Act.put _ (some 92) _ = _
    simp only [Act.put, List.setIfInBounds_toArray, List.set_cons_zero, List.set_cons_succ, i64_w, i32_w]
    rfl
  refine one_ (i := 6) (N := some 95) #[true, true, true, true, true, true, true, false, false, false, false, false, false, false] rfl rfl (one_of HT_.out (by kernel_rfl)) (by decide) (fun K hK => ?_)
  refine goes_ Tryz.func61 (by kernel_rfl) rfl #[.agg #[.int .i64 b0, .int .i64 b1, .string b2, .bool b3, .int .i64 b4], .agg #[.int .i64 a0, .int .i64 a1, .string a2, .bool a3, .int .i64 a4]] (by rfl) rfl rfl (by (try simp only [List.map_toArray, List.map_cons, List.map_nil]); first | done | rfl) ?_
  refine (builtin_filled.calls b0 b1 b2 b3 b4 a0 a1 a2 a3 a4 y0 y1 y2 y3 y4 _ HFB.out).mono ?_
  rintro e_ w1 ⟨rfl, hb⟩
  refine ⟨_, rfl, ?_⟩
  have mA_ := Aside0.mk (blk_below (by (with_reducible repeat (first | refine blk_drewN ?_ _ | refine blk_drew ?_ | refine blk_alloc ?_ _)); exact BKA.out) hb); have mB_ := Aside0.mk (blk_below (by (with_reducible repeat (first | refine blk_drewN ?_ _ | refine blk_drew ?_ | refine blk_alloc ?_ _)); exact BKB.out) hb); have mR_ := Aside0.mk (blk_below (by (with_reducible repeat (first | refine blk_drewN ?_ _ | refine blk_drew ?_ | refine blk_alloc ?_ _)); exact BKR.out) hb); have n0_ := Aside0.mk (below_step (by repeat (first | (with_reducible first | exact HB.out | apply bA | apply below_drew | apply bN | apply bD | refine below_set ?_ GEA.out | refine below_set ?_ GEB.out | refine below_set ?_ GER.out) | exact HB.out)) hb); clear HB BKA BKB BKR; have HB := n0_; have BKA := mA_; have BKB := mB_; have BKR := mR_; clear n0_ mA_ mB_ mR_ hb
  refine hK.out _ _ (⟨BKA.out, BKB.out⟩) (fun hHeld => ?_)
  clear hK K
  refine norm_ (a' := ?_) ?_ ?_
  rotate_left
  · show Act.put _ (some 95) _ = _
    simp only [Act.put, List.setIfInBounds_toArray, List.set_cons_zero, List.set_cons_succ, i64_w, i32_w]
    rfl
  refine one_ (i := 7) (N := some 96) #[true, true, true, true, true, true, true, true, false, false, false, false, false, false] rfl rfl (one_of HT_.out (by kernel_rfl)) (by decide) (fun K hK => ?_)
  refine goes_ Tryz.func11 (by kernel_rfl) rfl #[.agg #[.int .i64 x0, .int .i64 x1, .string x2, .bool x3, .int .i64 x4], .agg #[.int .i64 y0, .int .i64 y1, .string y2, .bool y3, .int .i64 y4]] (by rfl) rfl rfl (by (try simp only [List.map_toArray, List.map_cons, List.map_nil]); first | done | rfl) ?_
  refine (value_Compare.calls (hL := ⟨hL.out.below (by repeat (first | (with_reducible first | exact HB.out | apply bA | apply below_drew | apply bN | apply bD | refine below_set ?_ GEA.out | refine below_set ?_ GEB.out | refine below_set ?_ GER.out) | exact HB.out))⟩) 10 x0 x1 x2 x3 x4 y0 y1 y2 y3 y4 c _ HCC.out).mono ?_
  rintro e_ w1 ⟨rfl, hb⟩
  refine ⟨_, rfl, ?_⟩
  have mA_ := Aside0.mk (blk_below (by (with_reducible repeat (first | refine blk_drewN ?_ _ | refine blk_drew ?_ | refine blk_alloc ?_ _)); exact BKA.out) hb); have mB_ := Aside0.mk (blk_below (by (with_reducible repeat (first | refine blk_drewN ?_ _ | refine blk_drew ?_ | refine blk_alloc ?_ _)); exact BKB.out) hb); have mR_ := Aside0.mk (blk_below (by (with_reducible repeat (first | refine blk_drewN ?_ _ | refine blk_drew ?_ | refine blk_alloc ?_ _)); exact BKR.out) hb); have n0_ := Aside0.mk (below_step (by repeat (first | (with_reducible first | exact HB.out | apply bA | apply below_drew | apply bN | apply bD | refine below_set ?_ GEA.out | refine below_set ?_ GEB.out | refine below_set ?_ GER.out) | exact HB.out)) hb); clear HB BKA BKB BKR; have HB := n0_; have BKA := mA_; have BKB := mB_; have BKR := mR_; clear n0_ mA_ mB_ mR_ hb
  refine hK.out _ _ (⟨BKA.out, BKB.out⟩) (fun hHeld => ?_)
  clear hK K
  refine norm_ (a' := ?_) ?_ ?_
  rotate_left
  · show Act.put _ (some 96) _ = _
    simp only [Act.put, List.setIfInBounds_toArray, List.set_cons_zero, List.set_cons_succ, i64_w, i32_w]
    rfl
  refine one_ (i := 8) (N := some 97) #[true, true, true, true, true, true, true, true, true, false, false, false, false, false] rfl rfl (one_of HT_.out (by kernel_rfl)) (by decide) (fun K hK => ?_)
  refine goes_ Tryz.func60 (by kernel_rfl) rfl #[.string op, .int .i64 c] (by rfl) rfl rfl (by (try simp only [List.map_toArray, List.map_cons, List.map_nil]); first | done | rfl) ?_
  refine (builtin_compared.calls op c q true _ HQ.out).mono ?_
  rintro e_ w1 ⟨rfl, ⟨nd, rfl⟩⟩
  refine ⟨_, rfl, ?_⟩
  have mA_ := Aside0.mk (blk_drewN BKA.out nd); have mB_ := Aside0.mk (blk_drewN BKB.out nd); have mR_ := Aside0.mk (blk_drewN BKR.out nd); have n0_ := Aside0.mk (bN HB.out nd); clear HB BKA BKB BKR; have HB := n0_; have BKA := mA_; have BKB := mB_; have BKR := mR_; clear n0_ mA_ mB_ mR_
  refine hK.out _ _ (⟨BKA.out, BKB.out⟩) (fun hHeld => ?_)
  clear hK K
  refine norm_ (a' := ?_) ?_ ?_
  rotate_left
  · show Act.put _ (some 97) _ = _
    simp only [Act.put, List.setIfInBounds_toArray, List.set_cons_zero, List.set_cons_succ, i64_w, i32_w]
    rfl
  refine pure_ (i := 9) (N := some 88) (v := ?_) (a' := ?_) #[true, true, true, true, true, true, true, true, true, true, false, false, false, false] rfl rfl (any_of HT_.out (by kernel_rfl)) (fun _ _ _ h => h) (Or.inl ⟨by rfl, ?_⟩) ?_ ?_
  rotate_left
  · intro w'
    go_simp
    with_reducible rfl
  rotate_left
  · simp only [Act.put, List.setIfInBounds_toArray, List.set_cons_zero, List.set_cons_succ, i64_w, i32_w]
    rfl
  refine pure_ (i := 10) (N := some 98) (v := ?_) (a' := ?_) #[true, true, true, true, true, true, true, true, true, true, true, false, false, false] rfl rfl (any_of HT_.out (by kernel_rfl)) (fun _ _ _ h => h) (Or.inl ⟨by rfl, ?_⟩) ?_ ?_
  rotate_left
  · intro w'
    go_simp
    with_reducible rfl
  rotate_left
  · simp only [Act.put, List.setIfInBounds_toArray, List.set_cons_zero, List.set_cons_succ, i64_w, i32_w]
    rfl
  refine pure_ (i := 11) (N := some 99) (v := ?_) (a' := ?_) #[true, true, true, true, true, true, true, true, true, true, true, true, false, false] rfl rfl (any_of HT_.out (by kernel_rfl)) (fun _ _ _ h => h) (Or.inl ⟨by rfl, ?_⟩) ?_ ?_
  rotate_left
  · intro w'
    go_simp
    with_reducible rfl
  rotate_left
  · simp only [Act.put, List.setIfInBounds_toArray, List.set_cons_zero, List.set_cons_succ, i64_w, i32_w]
    rfl
  refine pure_ (i := 12) (N := some 19) (v := ?_) (a' := ?_) #[true, true, true, true, true, true, true, true, true, true, true, true, true, false] rfl rfl (any_of HT_.out (by kernel_rfl)) (fun _ _ _ h => h) (Or.inl ⟨by rfl, ?_⟩) ?_ ?_
  rotate_left
  · intro w'
    go_simp
    with_reducible rfl
  rotate_left
  · simp only [Act.put, List.setIfInBounds_toArray, List.set_cons_zero, List.set_cons_succ, i64_w, i32_w]
    rfl
  refine pure_ (i := 13) (N := some 20) (v := ?_) (a' := ?_) #[true, true, true, true, true, true, true, true, true, true, true, true, true, true] rfl rfl (any_of HT_.out (by kernel_rfl)) (fun _ _ _ h => h) (Or.inl ⟨by rfl, ?_⟩) ?_ ?_
  rotate_left
  · intro w'
    go_simp
    with_reducible rfl
  rotate_left
  · simp only [Act.put, List.setIfInBounds_toArray, List.set_cons_zero, List.set_cons_succ, i64_w, i32_w]
    rfl
  refine done_ (done_of HT_.out (by kernel_rfl)) ?_
  go_wp2_with (first
    | ((with_reducible refine gate_callee (f := 62) rfl ?_); (try (refine gate_guard (by rfl) ?_; dsimp only)); refine goesL_ (some 104) rfl rfl Tryz.func62 (by kernel_rfl) rfl #[.bool q] rfl (by (try simp only [List.map_toArray, List.map_cons, List.map_nil]); first | done | rfl) ?_; (refine (builtin_truth.calls q 3 0 (⟨#[]⟩ : ByteArray) q 0 _ rfl).mono ?_); rintro e_ v3 ⟨rfl, hb⟩; refine ⟨_, rfl, ?_⟩; have mA_ := Aside0.mk (blk_below (by (with_reducible repeat (first | refine blk_drewN ?_ _ | refine blk_drew ?_ | refine blk_alloc ?_ _)); exact BKA.out) hb); have mB_ := Aside0.mk (blk_below (by (with_reducible repeat (first | refine blk_drewN ?_ _ | refine blk_drew ?_ | refine blk_alloc ?_ _)); exact BKB.out) hb); have mR_ := Aside0.mk (blk_below (by (with_reducible repeat (first | refine blk_drewN ?_ _ | refine blk_drew ?_ | refine blk_alloc ?_ _)); exact BKR.out) hb); have n0_ := Aside0.mk (below_step (by repeat (first | (with_reducible first | exact HB.out | apply bA | apply below_drew | apply bN | apply bD | refine below_set ?_ GEA.out | refine below_set ?_ GEB.out | refine below_set ?_ GER.out) | exact HB.out)) hb); clear HB BKA BKB BKR; have HB := n0_; have BKA := mA_; have BKB := mB_; have BKR := mR_; clear n0_ mA_ mB_ mR_ hb; obtain ⟨zR0, zR1, zR2, zR3, zR4, zRf0, zRf1, zRf2, zRf3, zRf4⟩ := five BKR.out))
  refine bodyPost_ret (results_cell_row rfl _ _ gR 24 (cs5 3 0 (⟨#[]⟩ : ByteArray) q 0) (0, 0) _ rfl (vput (by (with_reducible repeat (first | refine blk_drewN ?_ _ | refine blk_drew ?_ | refine blk_alloc ?_ _)); exact BKR.out) _ _ _ _ _) Tryz.underlying24 rfl (by kernel_rfl)) rfl ?_
  exact ⟨by first | rfl | (simp; done) | (simp [*]; done), (by repeat (first | (with_reducible first | exact HB.out | apply bA | apply below_drew | apply bN | apply bD | refine below_set ?_ GEA.out | refine below_set ?_ GEB.out | refine below_set ?_ GER.out) | exact HB.out))⟩
end Go.Proofs.YtfnbflhoaemmeaaGreatDoor.EBui
end
section
namespace Go.Proofs.YtfnbflhoaemmeaaGreatDoor.EBui
open Go.RowKit Go.Lib Go.Proofs.YtfnbflhoaemmeaaGreatDoorW.PrintWords Go.Proofs.YtfnbflhoaemmeaaGreatDoorW.PrintLast Go.Proofs.YtfnbflhoaemmeaaGreatDoor.Ext Go.Proofs.YtfnbflhoaemmeaaGreatDoor.EFxA Go.Proofs.YtfnbflhoaemmeaaGreatDoor.EFix Go.Proofs.YtfnbflhoaemmeaaGreatDoor.EVal
set_option linter.unusedVariables false
set_option linter.unusedSimpArgs false
def v5 (x : S24) : V5 := (x.f0, x.f1, x.f2, x.f3, x.f4)
def errX (x : S24) : Int := if x.f0 = 4 ∧ mayS (v5 x) = true then x.f4 else 0
def wst (a e : Int) : Int := if e > 0 ∧ (a = 0 ∨ e < a) then e else a
def stepA (p : List Int × Int) (x : S24) : List Int × Int := (if x.f0 = 1 ∧ mayS (v5 x) = true then p.1 ++ [x.f1] else p.1, wst p.2 (errX x))
theorem stepA_eq (p : List Int × Int) (x : S24) : stepA p x = (if x.f0 = 1 ∧ mayS (v5 x) = true then p.1 ++ [x.f1] else p.1, wst p.2 (errX x)) := rfl
theorem wr1 (j n : Nat) (h : j < n) (hn : n ≤ 1000000) : wrap64 ((j : Int) + 1) = ((j + 1 : Nat) : Int) := by rw [wr _ (by omega) (by omega)]; rfl
theorem rdX (l : List S24) (j : Nat) (h : j < l.length) : rd_T24 l (j : Int) = l[j] := by
  unfold rd_T24
  rw [Int.toNat_natCast, List.getD_eq_getElem?_getD, List.getElem?_eq_getElem h]
  rfl
theorem rdA (l : List S44) (j : Nat) (h : j < l.length) : rd_T44 l (j : Int) = l[j] := by
  unfold rd_T44
  rw [Int.toNat_natCast, List.getD_eq_getElem?_getD, List.getElem?_eq_getElem h]
  rfl
theorem worst1 (k : Nat) (x : S24) (hx : x.f2.size ≤ 1000) : value_Worst.f (k + 2) [x] = some (errX x) := by
  have hr : rd_T24 [x] 0 = x := rfl
  have hw : wrap64 (0 + 1) = 1 := (wr _ (by decide) (by decide)).trans rfl
  have hm := may_f x.f0 x.f1 x.f2 x.f3 x.f4 (by omega)
  have hl : (([x] : List S24).length : Int) = 1 := rfl
  have h1 : ∀ y, value_Worst.l0 (k + 1) y [x] 1 1 = some y := fun y => by rw [value_Worst.l0, if_neg (by decide)]
  unfold value_Worst.f
  rw [hl, value_Worst.l0, if_pos (by decide), if_pos (by decide), if_pos (by rw [hl]; decide), hr, hw, h1, hm, Option.bind_some]
  unfold errX
  by_cases c : x.f0 = 4
  · rw [if_pos c]
    cases g : mayS (x.f0, x.f1, x.f2, x.f3, x.f4)
    · rw [if_neg (by simp), h1, if_neg (fun h => by have := h.2; rw [show v5 x = (x.f0, x.f1, x.f2, x.f3, x.f4) from rfl, g] at this; cases this)]
    · rw [if_pos rfl, if_pos rfl, if_pos ⟨c, g⟩]
  · rw [if_neg c, h1, if_neg (fun h => c h.1)]
theorem l1_eq (x0 : ByteArray) (x16 : List S44) (x17 x18 : Int) (l : List S24) (hX : ∀ x ∈ l, x.f2.size ≤ 1000) (hl : l.length ≤ 1000000) :
    ∀ (n j : Nat), j + n = l.length → ∀ (k : Nat) (x5 : List Int) (x6 : Int), x5.length + n ≤ 10000000 →
    builtin_all.l1 (k + 3 + 2 * n) x0 x5 x6 x16 x17 x18 l (l.length : Int) (j : Int) = builtin_all.l0 (k + 2) x0 ((l.drop j).foldl stepA (x5, x6)).1 ((l.drop j).foldl stepA (x5, x6)).2 x16 x17 (wrap64 (x18 + 1))
  | 0, j, hj, k, x5, x6, h5 => by
    rw [show k + 3 + 2 * 0 = (k + 2) + 1 from rfl, builtin_all.l1, if_neg (by omega), List.drop_of_length_le (by omega)]
    rfl
  | n + 1, j, hj, k, x5, x6, h5 => by
    have hlt : j < l.length := by omega
    have ih := l1_eq x0 x16 x17 x18 l hX hl n (j + 1) (by omega) k
    obtain ⟨x, hx⟩ : ∃ x, l[j] = x := ⟨_, rfl⟩
    have hxm : x ∈ l := hx ▸ List.getElem_mem hlt
    have hm := may_f x.f0 x.f1 x.f2 x.f3 x.f4 (by have := hX x hxm; omega)
    have J : ∀ (b : Bool) (y : Int), builtin_all.j2 (k + 3 + 2 * n + 1) x0 x5 x6 (errX x) x16 x17 x18 l (l.length : Int) (j : Int) b x.f0 x.f1 x.f2 x.f3 x.f4 =
        builtin_all.l1 (k + 3 + 2 * n) x0 (if x.f0 = 1 ∧ mayS (v5 x) = true then x5 ++ [x.f1] else x5) (if b = true then errX x else x6) x16 x17 x18 l (l.length : Int) ((j + 1 : Nat) : Int) := by
      intro b _
      rw [builtin_all.j2, wr1 j _ hlt hl, hm]
      simp only [Option.bind_some]
      have h5' : x5.length < 17592186044416 := by omega
      by_cases c : x.f0 = 1
      · cases g : mayS (x.f0, x.f1, x.f2, x.f3, x.f4)
        · rw [if_neg (show ¬ (x.f0 = 1 ∧ mayS (v5 x) = true) from fun h => by have := h.2; rw [show v5 x = (x.f0, x.f1, x.f2, x.f3, x.f4) from rfl, g] at this; cases this)]
          cases b <;> simp [c, h5']
        · rw [if_pos (show x.f0 = 1 ∧ mayS (v5 x) = true from ⟨c, g⟩)]
          cases b <;> simp [c, h5']
      · rw [if_neg (show ¬ (x.f0 = 1 ∧ mayS (v5 x) = true) from fun h => c h.1)]
        cases b <;> simp [c, h5']
    rw [show k + 3 + 2 * (n + 1) = (k + 3 + 2 * n + 1) + 1 by omega, builtin_all.l1, if_pos (by omega), if_pos (by omega), if_pos (by omega), rdX l j hlt, hx, show k + 3 + 2 * n + 1 = (k + 2 * n + 2) + 2 by omega, worst1 _ x (hX x hxm), Option.bind_some, show (k + 2 * n + 2) + 2 = k + 3 + 2 * n + 1 by omega]
    have hd : (l.drop j).foldl stepA (x5, x6) = (l.drop (j + 1)).foldl stepA (stepA (x5, x6) x) := by rw [List.drop_eq_getElem_cons hlt, hx]; rfl
    rw [hd, stepA_eq]
    have fin : ∀ b : Bool, (b = true ↔ (errX x > 0 ∧ (x6 = 0 ∨ errX x < x6))) → builtin_all.j2 (k + 3 + 2 * n + 1) x0 x5 x6 (errX x) x16 x17 x18 l (l.length : Int) (j : Int) b x.f0 x.f1 x.f2 x.f3 x.f4 =
        builtin_all.l0 (k + 2) x0 ((l.drop (j + 1)).foldl stepA (if x.f0 = 1 ∧ mayS (v5 x) = true then x5 ++ [x.f1] else x5, wst x6 (errX x))).1 ((l.drop (j + 1)).foldl stepA (if x.f0 = 1 ∧ mayS (v5 x) = true then x5 ++ [x.f1] else x5, wst x6 (errX x))).2 x16 x17 (wrap64 (x18 + 1)) := by
      intro b hb
      rw [J b 0]
      have hw : (if b = true then errX x else x6) = wst x6 (errX x) := by
        unfold wst
        by_cases c : b = true
        · rw [if_pos c, if_pos (hb.mp c)]
        · rw [if_neg c, if_neg (fun h => c (hb.mpr h))]
      rw [hw]
      refine ih _ _ ?_
      split
      · rw [List.length_append, List.length_singleton]; omega
      · omega
    by_cases c1 : errX x > 0
    · rw [if_pos c1]
      by_cases c2 : x6 = 0
      · rw [if_pos c2]; exact fin true (by simp [c1, c2])
      · rw [if_neg c2]; exact fin _ (by simp [c1, c2])
    · rw [if_neg c1]; exact fin false (by simp [c1])
theorem l0_eq (x0 : ByteArray) (l : List S44) (hX : ∀ a ∈ l, (∀ x ∈ a.f1, x.f2.size ≤ 1000) ∧ a.f1.length ≤ 1000) (hl : l.length ≤ 1000) :
    ∀ (n i : Nat), i + n = l.length → ∀ (x5 : List Int) (x6 : Int), x5.length + 1000 * n ≤ 9000000 → ∃ m, ∀ k,
    builtin_all.l0 (k + 2 + m) x0 x5 x6 l (l.length : Int) (i : Int) = builtin_all.l0 (k + 2) x0 (((l.drop i).flatMap (·.f1)).foldl stepA (x5, x6)).1 (((l.drop i).flatMap (·.f1)).foldl stepA (x5, x6)).2 l (l.length : Int) (l.length : Int)
  | 0, i, hi, x5, x6, h5 => ⟨0, fun k => by
    rw [List.drop_of_length_le (by omega), show (i : Int) = (l.length : Int) by omega]
    rfl⟩
  | n + 1, i, hi, x5, x6, h5 => by
    have hlt : i < l.length := by omega
    obtain ⟨a, ha⟩ : ∃ a, l[i] = a := ⟨_, rfl⟩
    have ham : a ∈ l := ha ▸ List.getElem_mem hlt
    obtain ⟨hx, hn⟩ := hX a ham
    have hle : (a.f1.foldl stepA (x5, x6)).1.length ≤ x5.length + a.f1.length := by
      have G : ∀ (s : List S24) (p : List Int × Int), (s.foldl stepA p).1.length ≤ p.1.length + s.length := by
        intro s
        induction s with
        | nil => intro p; simp
        | cons y s ih =>
          intro p
          rw [List.foldl_cons, List.length_cons]
          have := ih (stepA p y)
          have h2 : (stepA p y).1.length ≤ p.1.length + 1 := by
            rw [stepA_eq]
            split
            · simp
            · simp
          omega
      exact G _ _
    obtain ⟨m, hm⟩ := l0_eq x0 l hX hl n (i + 1) (by omega) (a.f1.foldl stepA (x5, x6)).1 (a.f1.foldl stepA (x5, x6)).2 (by omega)
    refine ⟨m + 2 * a.f1.length + 2, fun k => ?_⟩
    have h1 := l1_eq x0 l (l.length : Int) (i : Int) a.f1 hx (by omega) a.f1.length 0 (by omega) (k + m) x5 x6 (by omega)
    rw [show k + 2 + (m + 2 * a.f1.length + 2) = (k + m + 3 + 2 * a.f1.length) + 1 by omega, builtin_all.l0, if_pos (by omega), if_pos (by omega), if_pos (by omega), rdA l i hlt, ha]
    refine h1.trans ?_
    rw [wr1 i _ hlt (by omega), List.drop_zero, show k + m + 2 = k + 2 + m by omega, hm k, List.drop_eq_getElem_cons hlt, ha, List.flatMap_cons, List.foldl_append]
theorem ext_l (b : Bool) (l : List Int) (hl : l.length ≤ 1000000) : ∀ (n j : Nat), j + n = l.length → ∀ y, ∃ r, ∀ k, n + 1 ≤ k → builtin_extreme.l0 k b y l (l.length : Int) (j : Int) = some r
  | 0, j, hj, y => ⟨y, fun k hk => by
    obtain ⟨q, rfl⟩ : ∃ q, k = q + 1 := ⟨k - 1, by omega⟩
    rw [builtin_extreme.l0, if_neg (by omega)]⟩
  | n + 1, j, hj, y => by
    obtain ⟨r1, h1⟩ := ext_l b l hl n (j + 1) (by omega) (rd l (j : Int))
    obtain ⟨r2, h2⟩ := ext_l b l hl n (j + 1) (by omega) y
    have key : ∀ c d : Prop, [Decidable c] → [Decidable d] → ∃ r, ∀ k, n + 1 + 1 ≤ k + 1 → (if c then builtin_extreme.l0 k b (rd l (j : Int)) l (l.length : Int) ((j + 1 : Nat) : Int) else (if d then builtin_extreme.l0 k b (rd l (j : Int)) l (l.length : Int) ((j + 1 : Nat) : Int) else builtin_extreme.l0 k b y l (l.length : Int) ((j + 1 : Nat) : Int))) = some r := by
      intro c d _ _
      by_cases c1 : c
      · exact ⟨r1, fun k hk => by rw [if_pos c1]; exact h1 k (by omega)⟩
      · by_cases c2 : d
        · exact ⟨r1, fun k hk => by rw [if_neg c1, if_pos c2]; exact h1 k (by omega)⟩
        · exact ⟨r2, fun k hk => by rw [if_neg c1, if_neg c2]; exact h2 k (by omega)⟩
    obtain ⟨r, hr⟩ := key ((j : Int) = 0) (((decide ((rd l (j : Int)) > y)) == b) = true)
    refine ⟨r, fun k hk => ?_⟩
    obtain ⟨q, rfl⟩ : ∃ q, k = q + 1 := ⟨k - 1, by omega⟩
    rw [builtin_extreme.l0, if_pos (by omega), if_pos (by omega), if_pos (by omega), wr1 j _ (by omega) hl]
    exact hr q hk
def int64 (a : Int) : Prop := -9223372036854775808 ≤ a ∧ a ≤ 9223372036854775807
abbrev R5 := Int × Int × ByteArray × Bool × Int
theorem sum_in (T : Int) : int64 (sumS T).1 := by
  unfold sumS int64
  split
  · assumption
  · exact ⟨by decide, by decide⟩
theorem num_some (a : Int) : ((builtin_number.f a).bind fun bt => (some (bt.1, bt.2.1, bt.2.2.1, bt.2.2.2.1, bt.2.2.2.2) : Option R5)) = some (1, a, (⟨#[]⟩ : ByteArray), false, 0) := rfl
theorem fail_some (a : Int) : ((builtin_failed.f a).bind fun bt => (some (bt.1, bt.2.1, bt.2.2.1, bt.2.2.2.1, bt.2.2.2.2) : Option R5)) = some (4, 0, (⟨#[]⟩ : ByteArray), false, a) := rfl
theorem tail_eq (x0 : ByteArray) (l : List Int) (e : Int) (hl : l.length ≤ 1000000) (hi : ∀ a ∈ l, int64 a) :
    ∃ r : R5, (e > 0 → r = (4, 0, (⟨#[]⟩ : ByteArray), false, e)) ∧ (¬ e > 0 → by_ x0 = [83, 85, 77] → (sumS l.sum).2 = true → r = (1, (sumS l.sum).1, (⟨#[]⟩ : ByteArray), false, 0)) ∧
      ∃ K, ∀ k, K ≤ k → ∀ (A : List S44) (n : Int), builtin_all.l0 k x0 l e A n n = some r := by
  have hI : fixnum_Int.f (l.length : Int) = some ((l.length : Int) * 10000, true) := by
    unfold fixnum_Int.f
    rw [if_neg (by omega), if_neg (by omega), wr _ (by omega) (by omega)]
  by_cases c : e > 0
  · refine ⟨(4, 0, ⟨#[]⟩, false, e), fun _ => rfl, fun h => absurd c h, 1, fun k hk A n => ?_⟩
    obtain ⟨q, rfl⟩ : ∃ q, k = q + 1 := ⟨k - 1, by omega⟩
    rw [builtin_all.l0, if_neg (by omega), if_pos c, fail_some]
  · by_cases c1 : x0.toList = ([67, 79, 85, 78, 84] : List UInt8)
    · refine ⟨(1, (l.length : Int) * 10000, ⟨#[]⟩, false, 0), fun h => absurd h c, fun _ h2 => ?_, 1, fun k hk A n => ?_⟩
      · rw [to_by, h2] at c1; cases c1
      · obtain ⟨q, rfl⟩ : ∃ q, k = q + 1 := ⟨k - 1, by omega⟩
        rw [builtin_all.l0, if_neg (by omega), if_neg c, hI, Option.bind_some, if_pos c1, num_some]
    · have big : ∀ b : Bool, (by_ x0 = [83, 85, 77] → b = false) → ∃ r : R5, (e > 0 → r = (4, 0, (⟨#[]⟩ : ByteArray), false, e)) ∧ (¬ e > 0 → by_ x0 = [83, 85, 77] → (sumS l.sum).2 = true → r = (1, (sumS l.sum).1, (⟨#[]⟩ : ByteArray), false, 0)) ∧
          ∃ K, ∀ k, K ≤ k → builtin_all.j3 k x0 l ((l.length : Int) * 10000) true b = some r := by
        intro b hb
        cases b with
        | true =>
          obtain ⟨r, hr⟩ := ext_l (x0.toList == ([77, 65, 88] : List UInt8)) l hl l.length 0 (by omega) 0
          refine ⟨(1, r, ⟨#[]⟩, false, 0), fun h => absurd h c, fun _ h2 => absurd (hb h2) (by simp), l.length + 2, fun k hk => ?_⟩
          obtain ⟨q, rfl⟩ : ∃ q, k = q + 1 := ⟨k - 1, by omega⟩
          have : builtin_extreme.l0 q (x0.toList == ([77, 65, 88] : List UInt8)) 0 l (l.length : Int) 0 = some r := hr q (by omega)
          rw [builtin_all.j3, if_pos rfl]
          unfold builtin_extreme.f
          rw [this, Option.bind_some]
          exact num_some r
        | false =>
          have hS : ∀ q, l.length + 1 ≤ q → fixnum_Sum.f q l = some (sumS l.sum) := fun q hq => sum_f l hl (fun a ha => hi a ha) q hq
          obtain ⟨⟨s, o⟩, hs⟩ : ∃ p, sumS l.sum = p := ⟨_, rfl⟩
          have hin : int64 s := by have := sum_in l.sum; rw [hs] at this; exact this
          have H : ∀ q, l.length + 1 ≤ q → ∀ b4 : Bool, b4 = (if x0.toList = ([65, 86, 69, 82, 65, 71, 69] : List UInt8) then (l.length : Int) == 0 else false) → builtin_all.j3 (q + 1) x0 l ((l.length : Int) * 10000) true false = builtin_all.j4 q x0 ((l.length : Int) * 10000) true s o b4 := by
            intro q hq b4 hb4
            rw [builtin_all.j3, if_neg (by simp), hS q hq, hs, Option.bind_some, hb4]
            split <;> rfl
          obtain ⟨b4, hb4⟩ : ∃ b4, b4 = (if x0.toList = ([65, 86, 69, 82, 65, 71, 69] : List UInt8) then (l.length : Int) == 0 else false) := ⟨_, rfl⟩
          have hb5 : by_ x0 = [83, 85, 77] → b4 = false ∧ ¬ x0.toList = ([65, 86, 69, 82, 65, 71, 69] : List UInt8) := fun h => by
            have : ¬ x0.toList = ([65, 86, 69, 82, 65, 71, 69] : List UInt8) := by rw [to_by, h]; decide
            exact ⟨by rw [hb4, if_neg this], this⟩
          cases b4 with
          | true =>
            refine ⟨(4, 0, ⟨#[]⟩, false, 3), fun h => absurd h c, fun _ h2 => absurd (hb5 h2).1 (by simp), l.length + 3, fun k hk => ?_⟩
            obtain ⟨q, rfl⟩ : ∃ q, k = q + 2 := ⟨k - 2, by omega⟩
            rw [H (q + 1) (by omega) true hb4, builtin_all.j4, if_pos rfl, fail_some]
          | false =>
            cases o with
            | false =>
              refine ⟨(4, 0, ⟨#[]⟩, false, 4), fun h => absurd h c, fun _ _ h3 => (by rw [hs] at h3; cases h3), l.length + 4, fun k hk => ?_⟩
              obtain ⟨q, rfl⟩ : ∃ q, k = q + 3 := ⟨k - 3, by omega⟩
              rw [H (q + 2) (by omega) false hb4, builtin_all.j4, if_neg (by simp), if_neg (by simp), builtin_all.j5, if_pos rfl, fail_some]
            | true =>
              by_cases c5 : x0.toList = ([65, 86, 69, 82, 65, 71, 69] : List UInt8)
              · refine ⟨(1, (divS s ((l.length : Int) * 10000)).1, ⟨#[]⟩, false, 0), fun h => absurd h c, fun _ h2 => absurd c5 (hb5 h2).2, l.length + 4, fun k hk => ?_⟩
                obtain ⟨q, rfl⟩ : ∃ q, k = q + 3 := ⟨k - 3, by omega⟩
                have hd : div_.f s ((l.length : Int) * 10000) = some (divS s ((l.length : Int) * 10000)) := by
                  unfold div_.f
                  rw [if_pos ⟨hin, by omega, by omega⟩]
                rw [H (q + 2) (by omega) false hb4, builtin_all.j4, if_neg (by simp), if_pos rfl, builtin_all.j5, if_neg (by simp), if_pos c5, hd, Option.bind_some, num_some]
              · refine ⟨(1, s, ⟨#[]⟩, false, 0), fun h => absurd h c, fun _ _ _ => (by rw [hs]), l.length + 4, fun k hk => ?_⟩
                obtain ⟨q, rfl⟩ : ∃ q, k = q + 3 := ⟨k - 3, by omega⟩
                rw [H (q + 2) (by omega) false hb4, builtin_all.j4, if_neg (by simp), if_pos rfl, builtin_all.j5, if_neg (by simp), if_neg c5, num_some]
      obtain ⟨b, hb⟩ : ∃ b, b = (if x0.toList = ([77, 73, 78] : List UInt8) then (x0.toList == ([77, 73, 78] : List UInt8)) else (x0.toList == ([77, 65, 88] : List UInt8))) := ⟨_, rfl⟩
      obtain ⟨r, h1, h2, K, h3⟩ := big b (fun h => by rw [hb, to_by, h]; decide)
      refine ⟨r, h1, h2, K + 1, fun k hk A n => ?_⟩
      obtain ⟨q, rfl⟩ : ∃ q, k = q + 1 := ⟨k - 1, by omega⟩
      rw [builtin_all.l0, if_neg (by omega), if_neg c, hI, Option.bind_some, if_neg c1, ← h3 q (by omega), hb]
      split <;> rfl
theorem all_eq (x0 : ByteArray) (p : List Int × Int) (hl : p.1.length ≤ 1000000) (hi : ∀ a ∈ p.1, int64 a) :
    ∃ r : R5, (p.2 > 0 → r = (4, 0, (⟨#[]⟩ : ByteArray), false, p.2)) ∧ (¬ p.2 > 0 → by_ x0 = [83, 85, 77] → (sumS p.1.sum).2 = true → r = (1, (sumS p.1.sum).1, (⟨#[]⟩ : ByteArray), false, 0)) ∧
      ∀ l : List S44, (∀ a ∈ l, (∀ x ∈ a.f1, x.f2.size ≤ 1000) ∧ a.f1.length ≤ 1000) → l.length ≤ 1000 → (l.flatMap (·.f1)).foldl stepA ([], 0) = p → ∃ k, builtin_all.f k x0 l = some r := by
  obtain ⟨r, h1, h2, K, h3⟩ := tail_eq x0 p.1 p.2 hl hi
  refine ⟨r, h1, h2, fun l hX hn hp => ?_⟩
  obtain ⟨m, hm⟩ := l0_eq x0 l hX hn l.length 0 (by omega) [] 0 (by simp; omega)
  refine ⟨K + 2 + m, ?_⟩
  unfold builtin_all.f
  have := hm K
  rw [List.drop_zero, hp] at this
  refine Eq.trans this ?_
  exact h3 _ (by omega) _ _
end Go.Proofs.YtfnbflhoaemmeaaGreatDoor.EBui
end
section
namespace Go.Proofs.YtfnbflhoaemmeaaGreatDoor.EBui
open Go.RowKit Go.Lib Go.Proofs.YtfnbflhoaemmeaaGreatDoorW.PrintWords Go.Proofs.YtfnbflhoaemmeaaGreatDoorW.PrintLast Go.Proofs.YtfnbflhoaemmeaaGreatDoorW.PrintMore Go.Proofs.YtfnbflhoaemmeaaGreatDoor.Ext Go.Proofs.YtfnbflhoaemmeaaGreatDoor.EFxA Go.Proofs.YtfnbflhoaemmeaaGreatDoor.EFix Go.Proofs.YtfnbflhoaemmeaaGreatDoor.EVal
attribute [local go_sem] max2_int min2_int max_two min_two max_three min_three max_four min_four
set_option linter.unusedVariables false
set_option linter.unusedSimpArgs false
theorem may_num (n : Int) : mayS (1, n, (⟨#[]⟩ : ByteArray), false, 0) = true := by
  unfold mayS
  rfl
theorem sum_begun : ∃ k, builtin_all.f k (⟨#[83, 85, 77]⟩ : ByteArray) [⟨true, [(⟨1, 10000, (⟨#[]⟩ : ByteArray), false, 0⟩ : S24), (⟨2, 0, (⟨#[120]⟩ : ByteArray), false, 0⟩ : S24)]⟩, ⟨false, [(⟨1, 5000, (⟨#[]⟩ : ByteArray), false, 0⟩ : S24)]⟩] = some (1, 15000, (⟨#[]⟩ : ByteArray), false, 0) := by
  obtain ⟨r, h1, h2, h3⟩ := all_eq (⟨#[83, 85, 77]⟩ : ByteArray) ([10000, 5000], 0) (by decide) (by intro a ha; simp at ha; unfold int64; omega)
  have hs : sumS ([10000, 5000] : List Int).sum = (15000, true) := by decide
  have hr := h2 (by decide) rfl (by rw [hs])
  rw [hs] at hr
  subst hr
  refine h3 _ ?_ (by decide) ?_
  · intro a ha
    have q0 : ((⟨#[]⟩ : ByteArray)).size ≤ 1000 := by decide
    have q1 : ((⟨#[120]⟩ : ByteArray)).size ≤ 1000 := by decide
    simp only [List.mem_cons, List.not_mem_nil, or_false] at ha
    rcases ha with rfl | rfl
    · refine ⟨fun x hx => ?_, by decide⟩
      simp only [List.mem_cons, List.not_mem_nil, or_false] at hx
      rcases hx with rfl | rfl
      · exact q0
      · exact q1
    · refine ⟨fun x hx => ?_, by decide⟩
      simp only [List.mem_cons, List.not_mem_nil, or_false] at hx
      subst hx
      exact q0
  · have e1 : ∀ p : List Int × Int, ∀ n : Int, stepA p ⟨1, n, (⟨#[]⟩ : ByteArray), false, 0⟩ = (p.1 ++ [n], p.2) := by
      intro p n
      rw [stepA_eq, if_pos ⟨rfl, may_num n⟩]
      unfold errX wst
      rw [if_neg (by simp)]
    have e2 : ∀ p : List Int × Int, stepA p (⟨2, 0, (⟨#[120]⟩ : ByteArray), false, 0⟩ : S24) = p := by
      intro p
      rw [stepA_eq, if_neg (by simp)]
      unfold errX wst
      rw [if_neg (by simp)]
    show stepA (stepA (stepA ([], 0) (⟨1, 10000, (⟨#[]⟩ : ByteArray), false, 0⟩ : S24)) (⟨2, 0, (⟨#[120]⟩ : ByteArray), false, 0⟩ : S24)) (⟨1, 5000, (⟨#[]⟩ : ByteArray), false, 0⟩ : S24) = _
    rw [e1, e2, e1]
    rfl
theorem run_field1 (k n : Int) (t : ByteArray) (b : Bool) (e : Int) (w : World) : Sem.run Tryz.prog (Instr.field 24 (.agg #[.int .i64 k, .int .i64 n, .string t, .bool b, .int .i64 e]) 1) w = .ok (.int .i64 n) w := by kernel_rfl
attribute [local go_sem] run_field1
set_option maxHeartbeats 8000000 in
set_option maxRecDepth 100000 in
theorem begun12 (w : World) (hL : Aside0 (Lq w)) :
    Calls Tryz.prog 25 #[] w fun e w' => e = .returned (.bool true) ∧ Below w.heap.size w w' := by
  have hu44 := Tryz.underlying44
  have hu24 := Tryz.underlying24
  have HB := Aside0.mk (Below.refl w.heap.size w)
  obtain ⟨k, a4⟩ := sum_begun
  obtain ⟨y499, hy499⟩ : ∃ y_ : List (S24), y_ = [(⟨1, 10000, (⟨#[]⟩ : ByteArray), false, 0⟩ : S24), (⟨2, 0, (⟨#[120]⟩ : ByteArray), false, 0⟩ : S24)] := ⟨_, rfl⟩
  obtain ⟨y507, hy507⟩ : ∃ y_ : List (S24), y_ = [(⟨1, 5000, (⟨#[]⟩ : ByteArray), false, 0⟩ : S24)] := ⟨_, rfl⟩
  obtain ⟨y510, hy510⟩ : ∃ y_ : List (S44), y_ = [(⟨true, y499⟩ : S44), (⟨false, y507⟩ : S44)] := ⟨_, rfl⟩
  have A4 : Aside0 (builtin_all.f k (⟨#[83, 85, 77]⟩ : ByteArray) y510 = some (1, 15000, (⟨#[]⟩ : ByteArray), false, 0)) := ⟨by rw [hy510, hy499, hy507]; exact a4⟩
  have HY : Aside0 (y510.length ≤ 810000) := ⟨by rw [hy510]; exact (by decide : 2 ≤ 810000)⟩
  have Ny499 := Aside0.mk hy499
  have Ny507 := Aside0.mk hy507
  have Ny510 := Aside0.mk hy510
  clear hy499 hy507 hy510 a4
  go_enter Tryz.func25, Tryz.ntmps25
  go_wp2_with (first | ((with_reducible refine gate_callee (f := 34) rfl ?_); refine goesL_ (some 3) rfl rfl Tryz.func34 (by kernel_rfl) rfl #[.int .i64 10000] rfl (by (try simp only [List.map_toArray, List.map_cons, List.map_nil]); first | done | rfl) ?_; (with_reducible refine (counterpaneref1_Num.calls 10000 1 10000 (⟨#[]⟩ : ByteArray) false 0 _ rfl).mono ?_); rintro e w39 ⟨rfl, hb⟩; refine ⟨_, rfl, ?_⟩; have n0_ := Aside0.mk (below_step (by repeat (first | (with_reducible first | exact HB.out | apply bA | apply bN | apply bD) | exact HB.out)) hb); clear HB; have HB := n0_; clear n0_; (try clear hb); (try clear hb2); (try clear hk); (try clear hi)) | ((with_reducible refine gate_callee (f := 33) rfl ?_); refine goesL_ (some 4) rfl rfl Tryz.func33 (by kernel_rfl) rfl #[.string (⟨#[120]⟩ : ByteArray)] rfl (by (try simp only [List.map_toArray, List.map_cons, List.map_nil]); first | done | rfl) ?_; (with_reducible refine (counterpaneref1_Txt.calls (⟨#[120]⟩ : ByteArray) 2 0 (⟨#[120]⟩ : ByteArray) false 0 _ rfl).mono ?_); rintro e w40 ⟨rfl, hb⟩; refine ⟨_, rfl, ?_⟩; have n0_ := Aside0.mk (below_step (by repeat (first | (with_reducible first | exact HB.out | apply bA | apply bN | apply bD) | exact HB.out)) hb); clear HB; have HB := n0_; clear n0_; (try clear hb); (try clear hb2); (try clear hk); (try clear hi)) | ((with_reducible refine gate_dst (N := 5) rfl ?_); refine Kd.R_lit k24 _ 24 ?hg (N := 5) ?hd (xs := ([(⟨1, 10000, (⟨#[]⟩ : ByteArray), false, 0⟩ : S24), (⟨2, 0, (⟨#[120]⟩ : ByteArray), false, 0⟩ : S24)] : List (S24))) (inner := [.int .i64 1, .int .i64 10000, .string (⟨#[]⟩ : ByteArray), .bool false, .int .i64 0, .int .i64 2, .int .i64 0, .string (⟨#[120]⟩ : ByteArray), .bool false, .int .i64 0]) (ok := fun _ => True) (okp := fun _ => True) ?hr ?hp (fun _ hk => hk) trivial (Below.refl _ _) (Nat.le_refl _) (by simp) ?_; (case hd => rfl); (case hg => rfl); (case hr => first | (go_simp; done) | (go_simp; rfl)); (case hp => exact (Reps.c5 (show Kd.M k24 _ _ _ (⟨1, 10000, (⟨#[]⟩ : ByteArray), false, 0⟩ : S24) [.int .i64 1, .int .i64 10000, .string (⟨#[]⟩ : ByteArray), .bool false, .int .i64 0] from (k24_mkM _ _ _ (⟨1, 10000, (⟨#[]⟩ : ByteArray), false, 0⟩ : S24) )) (Reps.c5 (show Kd.M k24 _ _ _ (⟨2, 0, (⟨#[120]⟩ : ByteArray), false, 0⟩ : S24) [.int .i64 2, .int .i64 0, .string (⟨#[120]⟩ : ByteArray), .bool false, .int .i64 0] from (k24_mkM _ _ _ (⟨2, 0, (⟨#[120]⟩ : ByteArray), false, 0⟩ : S24) )) (Reps.none _ _)))); intro v500 w41 ho42 hb hg_ hnew_; clear hg_ hnew_; (first | rw [← Ny499.out] at ho42 | (simp only [Int.reduceToNat] at ho42; rw [← Ny499.out] at ho42)); have n0_ := Aside0.mk (Kd.R_lower ho42 (below_size (by repeat (first | (with_reducible first | exact HB.out | apply bA | apply bN | apply bD) | exact HB.out)))); have n1_ := Aside0.mk (below_step (by repeat (first | (with_reducible first | exact HB.out | apply bA | apply bN | apply bD) | exact HB.out)) hb); clear HB; have HO501 := n0_; have HB := n1_; clear n0_ n1_; clear hb ho42; obtain ⟨Ao43, co43, eo43⟩ := Kd.R_slice HO501.out; subst eo43) | ((with_reducible refine gate_callee (f := 34) rfl ?_); refine goesL_ (some 7) rfl rfl Tryz.func34 (by kernel_rfl) rfl #[.int .i64 5000] rfl (by (try simp only [List.map_toArray, List.map_cons, List.map_nil]); first | done | rfl) ?_; (with_reducible refine (counterpaneref1_Num.calls 5000 1 5000 (⟨#[]⟩ : ByteArray) false 0 _ rfl).mono ?_); rintro e w44 ⟨rfl, hb⟩; refine ⟨_, rfl, ?_⟩; have n0_ := Aside0.mk (Kd.R_below (by (with_reducible repeat (first | apply Kd.R_alloc | apply Kd.R_drewN | apply Kd.R_drew)); exact HO501.out) hb); have n1_ := Aside0.mk (below_step (by repeat (first | (with_reducible first | exact HB.out | apply bA | apply bN | apply bD) | exact HB.out)) hb); clear HO501; clear HB; have HO501 := n0_; have HB := n1_; clear n0_ n1_; (try clear hb); (try clear hb2); (try clear hk); (try clear hi)) | ((with_reducible refine gate_dst (N := 8) rfl ?_); refine Kd.R_lit k24 _ 24 ?hg (N := 8) ?hd (xs := ([(⟨1, 5000, (⟨#[]⟩ : ByteArray), false, 0⟩ : S24)] : List (S24))) (inner := [.int .i64 1, .int .i64 5000, .string (⟨#[]⟩ : ByteArray), .bool false, .int .i64 0]) (ok := fun _ => True) (okp := fun _ => True) ?hr ?hp (fun _ hk => hk) trivial (Below.refl _ _) (Nat.le_refl _) (by simp) ?_; (case hd => rfl); (case hg => rfl); (case hr => first | (go_simp; done) | (go_simp; rfl)); (case hp => exact (Reps.c5 (show Kd.M k24 _ _ _ (⟨1, 5000, (⟨#[]⟩ : ByteArray), false, 0⟩ : S24) [.int .i64 1, .int .i64 5000, .string (⟨#[]⟩ : ByteArray), .bool false, .int .i64 0] from (k24_mkM _ _ _ (⟨1, 5000, (⟨#[]⟩ : ByteArray), false, 0⟩ : S24) )) (Reps.none _ _))); intro v508 w45 ho46 hb hg_ hnew_; clear hg_ hnew_; (first | rw [← Ny507.out] at ho46 | (simp only [Int.reduceToNat] at ho46; rw [← Ny507.out] at ho46)); have n0_ := Aside0.mk (Kd.R_elder' (by (with_reducible repeat (first | apply Kd.R_alloc | apply Kd.R_drewN | apply Kd.R_drew)); exact HO501.out) (Kd.R_base ho46) hb); have n1_ := Aside0.mk (Kd.R_lower (Kd.R_new' ho46 (Kd.R_lt (by (with_reducible repeat (first | apply Kd.R_alloc | apply Kd.R_drewN | apply Kd.R_drew)); exact HO501.out))) (below_size (by repeat (first | (with_reducible first | exact HB.out | apply bA | apply bN | apply bD) | exact HB.out)))); have n2_ := Aside0.mk (below_step (by repeat (first | (with_reducible first | exact HB.out | apply bA | apply bN | apply bD) | exact HB.out)) hb); clear HO501; clear HB; have HO501 := n0_; have HO509 := n1_; have HB := n2_; clear n0_ n1_ n2_; clear hb ho46; obtain ⟨Ao47, co47, eo47⟩ := Kd.R_slice HO509.out; subst eo47) | ((with_reducible refine gate_dst (N := 10) rfl ?_); refine Kd.N_lit k44 _ 44 ?hg (N' := 10) ?hd (xs := ([(⟨true, y499⟩ : S44), (⟨false, y507⟩ : S44)] : List (S44))) (inner := [.bool true, .slice Ao43 y499.length co43, .bool false, .slice Ao47 y507.length co47]) (ok := (fun _ => True)) (okp := (fun _ => True)) ?hr ?hp (fun _ hk => hk) ((show ∀ k_, w45.heap.size ≤ k_ → (fun _ => True) k_ from fun k_ hk => trivial) _ (Nat.le_refl _)) (Below.refl _ _) (Nat.le_refl _) (by simp) ?_; (case hd => rfl); (case hg => rfl); (case hr => first | (go_simp; done) | (go_simp; rfl)); (case hp => exact (Reps.c2 (show Kd.FK k44 _ _ (⟨true, y499⟩ : S44) [.bool true, .slice Ao43 y499.length co43] from (k44_mkF _ _ (⟨true, y499⟩ : S44) (Kd.R_reads' (Kd.R_mono (ok' := (fun _ => True)) (HO501.out) (fun k_ hk => trivial))).2.1 (Kd.R_F (Kd.R_mono (ok' := (fun _ => True)) (HO501.out) (fun k_ hk => trivial))))) (Reps.c2 (show Kd.FK k44 _ _ (⟨false, y507⟩ : S44) [.bool false, .slice Ao47 y507.length co47] from (k44_mkF _ _ (⟨false, y507⟩ : S44) (Kd.R_reads' (Kd.R_mono (ok' := (fun _ => True)) (HO509.out) (fun k_ hk => trivial))).2.1 (Kd.R_F (Kd.R_mono (ok' := (fun _ => True)) (HO509.out) (fun k_ hk => trivial))))) (Reps.none _ _)))); intro v511 w48 ho49 hb hg_ hnew_; clear hg_ hnew_; (first | rw [← Ny510.out] at ho49 | (simp only [Int.reduceToNat] at ho49; rw [← Ny510.out] at ho49)); have n0_ := Aside0.mk (Kd.N_lower ho49 (below_size (by repeat (first | (with_reducible first | exact HB.out | apply bA | apply bN | apply bD) | exact HB.out)))); have n1_ := Aside0.mk (below_step (by repeat (first | (with_reducible first | exact HB.out | apply bA | apply bN | apply bD) | exact HB.out)) hb); clear HB; clear HO501; clear HO509; have HO512 := n0_; have HB := n1_; clear n0_ n1_; clear hb ho49; obtain ⟨Ao50, co50, eo50⟩ := Kd.N_slice HO512.out; subst eo50) | ((with_reducible refine gate_callee (f := 28) rfl ?_); refine goesL_ (some 11) rfl rfl Tryz.func28 (by kernel_rfl) rfl #[.string (⟨#[83, 85, 77]⟩ : ByteArray), .slice Ao50 y510.length co50] rfl (by (try simp only [List.map_toArray, List.map_cons, List.map_nil]); first | done | rfl) ?_; (with_reducible refine (call_all (hL := ⟨by first | exact hL.out | (refine hL.out.drawn ?_; (repeat (first | exact Drawn0.refl _ | apply Drawn0.step)); done) | (refine hL.out.below ?_; (repeat (first | (with_reducible first | exact HB.out | apply bA | apply bN | apply bD | refine below_set ?_ GE518.out | refine below_set ?_ GE534.out) | exact HB.out)); done)⟩) k (⟨#[83, 85, 77]⟩ : ByteArray) arity_SUM _ _ y510 HY.out 1 15000 (⟨#[]⟩ : ByteArray) false 0 _ ?side1 ?side2 A4.out).mono ?_); (case side1 => repeat (first | exact (Kd.N_reads' HO512.out).2.2 | (with_reducible refine Kd.C_alloc ?_ _) | (with_reducible refine Kd.C_drewN ?_ _) | (with_reducible refine Kd.C_drew ?_))); (case side2 => exact (Kd.N_reads' HO512.out).2.1); rintro e w51 ⟨rfl, hb⟩; refine ⟨_, rfl, ?_⟩; have n0_ := Aside0.mk (Kd.N_below (by (with_reducible repeat (first | apply Kd.N_alloc | apply Kd.N_drewN | apply Kd.N_drew)); exact HO512.out) hb); have n1_ := Aside0.mk (below_step (by repeat (first | (with_reducible first | exact HB.out | apply bA | apply bN | apply bD) | exact HB.out)) hb); clear HO512; clear HB; have HO512 := n0_; have HB := n1_; clear n0_ n1_; (try clear hb); (try clear hb2); (try clear hk); (try clear hi)) | ((with_reducible refine gate_dst (N := 1) rfl ?_); refine box_event ?hg (N := 1) ?hd (cs := #[.int .i64 0, .int .i64 0, .string (⟨#[]⟩ : ByteArray), .bool false, .int .i64 0]) (t := 24) ?hr ?_; (case hd => rfl); (case hg => rfl); (case hr => first | (go_simp; done) | (go_simp; rfl)); intro gb518 hg w52 hbox hb; have n0_ := Aside0.mk (Kd.N_below (Kd.N_elderB (by (with_reducible repeat (first | apply Kd.N_alloc | apply Kd.N_drewN | apply Kd.N_drew)); exact HO512.out) gb518 (Nat.le_of_eq hg.symm)) hb); have n1_ := Aside0.mk (below_step (by repeat (first | (with_reducible first | exact HB.out | apply bA | apply bN | apply bD) | exact HB.out)) hb); have n2_ := Aside0.mk (hbox); have n3_ := Aside0.mk ((by rw [hg]; exact (below_size (by repeat (first | (with_reducible first | exact HB.out | apply bA | apply bN | apply bD) | exact HB.out))) : w.heap.size ≤ gb518)); have n4_ := Aside0.mk ((by rw [hg]; exact (below_size (by repeat (first | (with_reducible first | exact HB.out | apply bA | apply bN | apply bD) | exact HB.out))) : w.heap.size ≤ gb518)); clear HO512; clear HB; have HO512 := n0_; have HB := n1_; have BK518 := n2_; have GW518 := n3_; have GE518 := n4_; clear n0_ n1_ n2_ n3_ n4_; clear hb hbox hg; have hcz53_0 : w52.cell? ⟨gb518, 0, none⟩ = some (.int .i64 0) := (blk_cell BK518.out 0).trans rfl; have hcz53_1 : w52.cell? ⟨gb518, 1, none⟩ = some (.int .i64 0) := (blk_cell BK518.out 1).trans rfl; have hcz53_2 : w52.cell? ⟨gb518, 2, none⟩ = some (.string (⟨#[]⟩ : ByteArray)) := (blk_cell BK518.out 2).trans rfl; have hcz53_3 : w52.cell? ⟨gb518, 3, none⟩ = some (.bool false) := (blk_cell BK518.out 3).trans rfl; have hcz53_4 : w52.cell? ⟨gb518, 4, none⟩ = some (.int .i64 0) := (blk_cell BK518.out 4).trans rfl; have hfz53_0 := blk_frozen BK518.out 0; have hfz53_1 := blk_frozen BK518.out 1; have hfz53_2 := blk_frozen BK518.out 2; have hfz53_3 := blk_frozen BK518.out 3; have hfz53_4 := blk_frozen BK518.out 4) | ((with_reducible refine gate_callee (f := 34) rfl ?_); refine goesL_ (some 12) rfl rfl Tryz.func34 (by kernel_rfl) rfl #[.int .i64 1] rfl (by (try simp only [List.map_toArray, List.map_cons, List.map_nil]); first | done | rfl) ?_; (with_reducible refine (counterpaneref1_Num.calls 1 1 1 (⟨#[]⟩ : ByteArray) false 0 _ rfl).mono ?_); rintro e w54 ⟨rfl, hb⟩; refine ⟨_, rfl, ?_⟩; have n0_ := Aside0.mk (Kd.N_below (by (with_reducible repeat (first | apply Kd.N_alloc | apply Kd.N_drewN | apply Kd.N_drew)); exact (Kd.N_mono (Kd.N_far (p := ⟨gb518, 4, none⟩) (Kd.N_far (p := ⟨gb518, 3, none⟩) (Kd.N_far (p := ⟨gb518, 2, none⟩) (Kd.N_far (p := ⟨gb518, 1, none⟩) (Kd.N_far (p := ⟨gb518, 0, none⟩) (Kd.N_mono HO512.out (fun k_ hk => (⟨hk, hk.2⟩ : _ ∧ k_ ≠ gb518))) (fun _ hk => hk.2) (.int .i64 1)) (fun _ hk => hk.2) (.int .i64 15000)) (fun _ hk => hk.2) (.string (⟨#[]⟩ : ByteArray))) (fun _ hk => hk.2) (.bool false)) (fun _ hk => hk.2) (.int .i64 0)) (fun _ h_ => h_.1))) hb); have n1_ := Aside0.mk (blk_below (g := gb518) (o := .cells #[.int .i64 1, .int .i64 15000, .string (⟨#[]⟩ : ByteArray), .bool false, .int .i64 0] 24 (0, 0)) (by (with_reducible repeat (first | refine blk_drewN ?_ _ | refine blk_drew ?_ | refine blk_alloc ?_ _)); refine blk_put (cs := #[.int .i64 1, .int .i64 15000, .string (⟨#[]⟩ : ByteArray), .bool false, .int .i64 0]) ?_ 4 _ rfl; (with_reducible repeat (first | refine blk_drewN ?_ _ | refine blk_drew ?_ | refine blk_alloc ?_ _)); refine blk_put (cs := #[.int .i64 1, .int .i64 15000, .string (⟨#[]⟩ : ByteArray), .bool false, .int .i64 0]) ?_ 3 _ rfl; (with_reducible repeat (first | refine blk_drewN ?_ _ | refine blk_drew ?_ | refine blk_alloc ?_ _)); refine blk_put (cs := #[.int .i64 1, .int .i64 15000, .string (⟨#[]⟩ : ByteArray), .bool false, .int .i64 0]) ?_ 2 _ rfl; (with_reducible repeat (first | refine blk_drewN ?_ _ | refine blk_drew ?_ | refine blk_alloc ?_ _)); refine blk_put (cs := #[.int .i64 1, .int .i64 0, .string (⟨#[]⟩ : ByteArray), .bool false, .int .i64 0]) ?_ 1 _ rfl; (with_reducible repeat (first | refine blk_drewN ?_ _ | refine blk_drew ?_ | refine blk_alloc ?_ _)); refine blk_put (cs := #[.int .i64 0, .int .i64 0, .string (⟨#[]⟩ : ByteArray), .bool false, .int .i64 0]) ?_ 0 _ rfl; (with_reducible repeat (first | refine blk_drewN ?_ _ | refine blk_drew ?_ | refine blk_alloc ?_ _)); exact BK518.out) hb); have n2_ := Aside0.mk (below_step (by repeat (first | (with_reducible first | exact HB.out | apply bA | apply bN | apply bD | refine below_set ?_ GE518.out) | exact HB.out)) hb); clear HO512; clear BK518; clear HB; have HO512 := n0_; have BK518 := n1_; have HB := n2_; clear n0_ n1_ n2_; (try clear hb); (try clear hb2); (try clear hk); (try clear hi)) | ((with_reducible refine gate_callee (f := 34) rfl ?_); refine goesL_ (some 13) rfl rfl Tryz.func34 (by kernel_rfl) rfl #[.int .i64 0] rfl (by (try simp only [List.map_toArray, List.map_cons, List.map_nil]); first | done | rfl) ?_; (with_reducible refine (counterpaneref1_Num.calls 0 1 0 (⟨#[]⟩ : ByteArray) false 0 _ rfl).mono ?_); rintro e w55 ⟨rfl, hb⟩; refine ⟨_, rfl, ?_⟩; have n0_ := Aside0.mk (Kd.N_below (by (with_reducible repeat (first | apply Kd.N_alloc | apply Kd.N_drewN | apply Kd.N_drew)); exact HO512.out) hb); have n1_ := Aside0.mk (blk_below (g := gb518) (o := .cells #[.int .i64 1, .int .i64 15000, .string (⟨#[]⟩ : ByteArray), .bool false, .int .i64 0] 24 (0, 0)) (by (with_reducible repeat (first | refine blk_drewN ?_ _ | refine blk_drew ?_ | refine blk_alloc ?_ _)); exact BK518.out) hb); have n2_ := Aside0.mk (below_step (by repeat (first | (with_reducible first | exact HB.out | apply bA | apply bN | apply bD | refine below_set ?_ GE518.out) | exact HB.out)) hb); clear HO512; clear BK518; clear HB; have HO512 := n0_; have BK518 := n1_; have HB := n2_; clear n0_ n1_ n2_; (try clear hb); (try clear hb2); (try clear hk); (try clear hi)) | ((with_reducible refine gate_callee (f := 31) rfl ?_); refine goesL_ (some 14) rfl rfl Tryz.func31 (by kernel_rfl) rfl #[.string (⟨#[47]⟩ : ByteArray), .agg #[.int .i64 1, .int .i64 1, .string (⟨#[]⟩ : ByteArray), .bool false, .int .i64 0], .agg #[.int .i64 1, .int .i64 0, .string (⟨#[]⟩ : ByteArray), .bool false, .int .i64 0]] rfl (by (try simp only [List.map_toArray, List.map_cons, List.map_nil]); first | done | rfl) ?_; (with_reducible refine (binary_div (w := _) (hL := ⟨by first | exact hL.out | (refine hL.out.drawn ?_; (repeat (first | exact Drawn0.refl _ | apply Drawn0.step)); done) | (refine hL.out.below ?_; (repeat (first | (with_reducible first | exact HB.out | apply bA | apply bN | apply bD | refine below_set ?_ GE518.out | refine below_set ?_ GE534.out) | exact HB.out)); done)⟩)).mono ?_); rintro e w56 ⟨rfl, hb⟩; refine ⟨_, rfl, ?_⟩; have n0_ := Aside0.mk (Kd.N_below (by (with_reducible repeat (first | apply Kd.N_alloc | apply Kd.N_drewN | apply Kd.N_drew)); exact HO512.out) hb); have n1_ := Aside0.mk (blk_below (g := gb518) (o := .cells #[.int .i64 1, .int .i64 15000, .string (⟨#[]⟩ : ByteArray), .bool false, .int .i64 0] 24 (0, 0)) (by (with_reducible repeat (first | refine blk_drewN ?_ _ | refine blk_drew ?_ | refine blk_alloc ?_ _)); exact BK518.out) hb); have n2_ := Aside0.mk (below_step (by repeat (first | (with_reducible first | exact HB.out | apply bA | apply bN | apply bD | refine below_set ?_ GE518.out) | exact HB.out)) hb); clear HO512; clear BK518; clear HB; have HO512 := n0_; have BK518 := n1_; have HB := n2_; clear n0_ n1_ n2_; (try clear hb); (try clear hb2); (try clear hk); (try clear hi)) | ((with_reducible refine gate_dst (N := 2) rfl ?_); refine box_event ?hg (N := 2) ?hd (cs := #[.int .i64 0, .int .i64 0, .string (⟨#[]⟩ : ByteArray), .bool false, .int .i64 0]) (t := 24) ?hr ?_; (case hd => rfl); (case hg => rfl); (case hr => first | (go_simp; done) | (go_simp; rfl)); intro gb534 hg w57 hbox hb; have n0_ := Aside0.mk (Kd.N_below (Kd.N_elderB (by (with_reducible repeat (first | apply Kd.N_alloc | apply Kd.N_drewN | apply Kd.N_drew)); exact HO512.out) gb534 (Nat.le_of_eq hg.symm)) hb); have n1_ := Aside0.mk (blk_below (g := gb518) (o := .cells #[.int .i64 1, .int .i64 15000, .string (⟨#[]⟩ : ByteArray), .bool false, .int .i64 0] 24 (0, 0)) (by (with_reducible repeat (first | refine blk_drewN ?_ _ | refine blk_drew ?_ | refine blk_alloc ?_ _)); exact BK518.out) hb); have n2_ := Aside0.mk (below_step (by repeat (first | (with_reducible first | exact HB.out | apply bA | apply bN | apply bD | refine below_set ?_ GE518.out) | exact HB.out)) hb); have n3_ := Aside0.mk (hbox); have n4_ := Aside0.mk ((by rw [hg]; exact (below_size (by repeat (first | (with_reducible first | exact HB.out | apply bA | apply bN | apply bD | refine below_set ?_ GE518.out) | exact HB.out))) : w.heap.size ≤ gb534)); have n5_ := Aside0.mk ((by rw [hg]; exact (below_size (by repeat (first | (with_reducible first | exact HB.out | apply bA | apply bN | apply bD | refine below_set ?_ GE518.out) | exact HB.out))) : w.heap.size ≤ gb534)); have n6_ := Aside0.mk ((by rw [hg]; exact Nat.ne_of_lt (blk_lt (g := gb518) (o := .cells #[.int .i64 1, .int .i64 15000, .string (⟨#[]⟩ : ByteArray), .bool false, .int .i64 0] 24 (0, 0)) (by (with_reducible repeat (first | refine blk_drewN ?_ _ | refine blk_drew ?_ | refine blk_alloc ?_ _)); exact BK518.out)) : gb518 ≠ gb534)); have n7_ := Aside0.mk ((by rw [hg]; exact Nat.ne_of_gt (blk_lt (g := gb518) (o := .cells #[.int .i64 1, .int .i64 15000, .string (⟨#[]⟩ : ByteArray), .bool false, .int .i64 0] 24 (0, 0)) (by (with_reducible repeat (first | refine blk_drewN ?_ _ | refine blk_drew ?_ | refine blk_alloc ?_ _)); exact BK518.out)) : gb534 ≠ gb518)); clear HO512; clear BK518; clear HB; have HO512 := n0_; have BK518 := n1_; have HB := n2_; have BK534 := n3_; have GW534 := n4_; have GE534 := n5_; have NB518_534 := n6_; have NB534_518 := n7_; clear n0_ n1_ n2_ n3_ n4_ n5_ n6_ n7_; clear hb hbox hg; have hnb58 := NB534_518.out; have hnc58 := NB518_534.out; have hcz59_0 : w57.cell? ⟨gb534, 0, none⟩ = some (.int .i64 0) := (blk_cell BK534.out 0).trans rfl; have hcz59_1 : w57.cell? ⟨gb534, 1, none⟩ = some (.int .i64 0) := (blk_cell BK534.out 1).trans rfl; have hcz59_2 : w57.cell? ⟨gb534, 2, none⟩ = some (.string (⟨#[]⟩ : ByteArray)) := (blk_cell BK534.out 2).trans rfl; have hcz59_3 : w57.cell? ⟨gb534, 3, none⟩ = some (.bool false) := (blk_cell BK534.out 3).trans rfl; have hcz59_4 : w57.cell? ⟨gb534, 4, none⟩ = some (.int .i64 0) := (blk_cell BK534.out 4).trans rfl; have hfz59_0 := blk_frozen BK534.out 0; have hfz59_1 := blk_frozen BK534.out 1; have hfz59_2 := blk_frozen BK534.out 2; have hfz59_3 := blk_frozen BK534.out 3; have hfz59_4 := blk_frozen BK534.out 4; have hcz60_0 : w57.cell? ⟨gb518, 0, none⟩ = some (.int .i64 1) := (blk_cell BK518.out 0).trans rfl; have hcz60_1 : w57.cell? ⟨gb518, 1, none⟩ = some (.int .i64 15000) := (blk_cell BK518.out 1).trans rfl; have hcz60_2 : w57.cell? ⟨gb518, 2, none⟩ = some (.string (⟨#[]⟩ : ByteArray)) := (blk_cell BK518.out 2).trans rfl; have hcz60_3 : w57.cell? ⟨gb518, 3, none⟩ = some (.bool false) := (blk_cell BK518.out 3).trans rfl; have hcz60_4 : w57.cell? ⟨gb518, 4, none⟩ = some (.int .i64 0) := (blk_cell BK518.out 4).trans rfl; have hfz60_0 := blk_frozen BK518.out 0; have hfz60_1 := blk_frozen BK518.out 1; have hfz60_2 := blk_frozen BK518.out 2; have hfz60_3 := blk_frozen BK518.out 3; have hfz60_4 := blk_frozen BK518.out 4) | (go_at_call 51; (with_reducible refine (known_IF _).mono ?_); rintro e w' ⟨rfl, ⟨nd, rfl⟩⟩) | (go_at_call 51; (with_reducible refine (known_if _).mono ?_); rintro e w' ⟨rfl, ⟨nd, rfl⟩⟩) | (go_at_call 34; (with_reducible refine (counterpaneref1_Num.calls 3 1 3 (⟨#[]⟩ : ByteArray) false 0 _ rfl).mono ?_); rintro e w61 ⟨rfl, hb⟩; have n0_ := Aside0.mk (Kd.N_below (by (with_reducible repeat (first | apply Kd.N_alloc | apply Kd.N_drewN | apply Kd.N_drew)); exact (Kd.N_mono (Kd.N_far (p := ⟨gb534, 4, none⟩) (Kd.N_far (p := ⟨gb534, 3, none⟩) (Kd.N_far (p := ⟨gb534, 2, none⟩) (Kd.N_far (p := ⟨gb534, 1, none⟩) (Kd.N_far (p := ⟨gb534, 0, none⟩) (Kd.N_mono HO512.out (fun k_ hk => (⟨hk, hk.2⟩ : _ ∧ k_ ≠ gb534))) (fun _ hk => hk.2) (.int .i64 4)) (fun _ hk => hk.2) (.int .i64 0)) (fun _ hk => hk.2) (.string (⟨#[]⟩ : ByteArray))) (fun _ hk => hk.2) (.bool false)) (fun _ hk => hk.2) (.int .i64 3)) (fun _ h_ => h_.1))) hb); have n1_ := Aside0.mk (blk_below (g := gb518) (o := .cells #[.int .i64 1, .int .i64 15000, .string (⟨#[]⟩ : ByteArray), .bool false, .int .i64 0] 24 (0, 0)) (by (with_reducible repeat (first | refine blk_drewN ?_ _ | refine blk_drew ?_ | refine blk_alloc ?_ _)); refine blk_far ?_ NB518_534.out _; (with_reducible repeat (first | refine blk_drewN ?_ _ | refine blk_drew ?_ | refine blk_alloc ?_ _)); refine blk_far ?_ NB518_534.out _; (with_reducible repeat (first | refine blk_drewN ?_ _ | refine blk_drew ?_ | refine blk_alloc ?_ _)); refine blk_far ?_ NB518_534.out _; (with_reducible repeat (first | refine blk_drewN ?_ _ | refine blk_drew ?_ | refine blk_alloc ?_ _)); refine blk_far ?_ NB518_534.out _; (with_reducible repeat (first | refine blk_drewN ?_ _ | refine blk_drew ?_ | refine blk_alloc ?_ _)); refine blk_far ?_ NB518_534.out _; (with_reducible repeat (first | refine blk_drewN ?_ _ | refine blk_drew ?_ | refine blk_alloc ?_ _)); exact BK518.out) hb); have n2_ := Aside0.mk (blk_below (g := gb534) (o := .cells #[.int .i64 4, .int .i64 0, .string (⟨#[]⟩ : ByteArray), .bool false, .int .i64 3] 24 (0, 0)) (by (with_reducible repeat (first | refine blk_drewN ?_ _ | refine blk_drew ?_ | refine blk_alloc ?_ _)); refine blk_put (cs := #[.int .i64 4, .int .i64 0, .string (⟨#[]⟩ : ByteArray), .bool false, .int .i64 0]) ?_ 4 _ rfl; (with_reducible repeat (first | refine blk_drewN ?_ _ | refine blk_drew ?_ | refine blk_alloc ?_ _)); refine blk_put (cs := #[.int .i64 4, .int .i64 0, .string (⟨#[]⟩ : ByteArray), .bool false, .int .i64 0]) ?_ 3 _ rfl; (with_reducible repeat (first | refine blk_drewN ?_ _ | refine blk_drew ?_ | refine blk_alloc ?_ _)); refine blk_put (cs := #[.int .i64 4, .int .i64 0, .string (⟨#[]⟩ : ByteArray), .bool false, .int .i64 0]) ?_ 2 _ rfl; (with_reducible repeat (first | refine blk_drewN ?_ _ | refine blk_drew ?_ | refine blk_alloc ?_ _)); refine blk_put (cs := #[.int .i64 4, .int .i64 0, .string (⟨#[]⟩ : ByteArray), .bool false, .int .i64 0]) ?_ 1 _ rfl; (with_reducible repeat (first | refine blk_drewN ?_ _ | refine blk_drew ?_ | refine blk_alloc ?_ _)); refine blk_put (cs := #[.int .i64 0, .int .i64 0, .string (⟨#[]⟩ : ByteArray), .bool false, .int .i64 0]) ?_ 0 _ rfl; (with_reducible repeat (first | refine blk_drewN ?_ _ | refine blk_drew ?_ | refine blk_alloc ?_ _)); exact BK534.out) hb); have n3_ := Aside0.mk (below_step (by repeat (first | (with_reducible first | exact HB.out | apply bA | apply bN | apply bD | refine below_set ?_ GE518.out | refine below_set ?_ GE534.out) | exact HB.out)) hb); clear HO512; clear BK518; clear BK534; clear HB; have HO512 := n0_; have BK518 := n1_; have BK534 := n2_; have HB := n3_; clear n0_ n1_ n2_ n3_; (try clear hb); (try clear hb2); (try clear hk); (try clear hi)) | (go_at_call 52; (with_reducible refine (neg_3 (w := _) (hL := ⟨by first | exact hL.out | (refine hL.out.drawn ?_; (repeat (first | exact Drawn0.refl _ | apply Drawn0.step)); done) | (refine hL.out.below ?_; (repeat (first | (with_reducible first | exact HB.out | apply bA | apply bN | apply bD | refine below_set ?_ GE518.out | refine below_set ?_ GE534.out) | exact HB.out)); done)⟩)).mono ?_); rintro e w62 ⟨rfl, hb⟩; have n0_ := Aside0.mk (Kd.N_below (by (with_reducible repeat (first | apply Kd.N_alloc | apply Kd.N_drewN | apply Kd.N_drew)); exact HO512.out) hb); have n1_ := Aside0.mk (blk_below (g := gb518) (o := .cells #[.int .i64 1, .int .i64 15000, .string (⟨#[]⟩ : ByteArray), .bool false, .int .i64 0] 24 (0, 0)) (by (with_reducible repeat (first | refine blk_drewN ?_ _ | refine blk_drew ?_ | refine blk_alloc ?_ _)); exact BK518.out) hb); have n2_ := Aside0.mk (blk_below (g := gb534) (o := .cells #[.int .i64 4, .int .i64 0, .string (⟨#[]⟩ : ByteArray), .bool false, .int .i64 3] 24 (0, 0)) (by (with_reducible repeat (first | refine blk_drewN ?_ _ | refine blk_drew ?_ | refine blk_alloc ?_ _)); exact BK534.out) hb); have n3_ := Aside0.mk (below_step (by repeat (first | (with_reducible first | exact HB.out | apply bA | apply bN | apply bD | refine below_set ?_ GE518.out | refine below_set ?_ GE534.out) | exact HB.out)) hb); clear HO512; clear BK518; clear BK534; clear HB; have HO512 := n0_; have BK518 := n1_; have BK534 := n2_; have HB := n3_; clear n0_ n1_ n2_ n3_; (try clear hb); (try clear hb2); (try clear hk); (try clear hi)))
  go_ret
  exact ⟨by first | rfl | (simp; done) | (simp [*]; done), by repeat (first | (with_reducible first | exact HB.out | apply bA | apply bN | apply bD | refine below_set ?_ GE518.out | refine below_set ?_ GE534.out) | exact HB.out)⟩
end Go.Proofs.YtfnbflhoaemmeaaGreatDoor.EBui
end
