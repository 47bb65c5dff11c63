/- Part 7 of what the claim's proof stands on: contracts of the program's functions, by walks, and plain laws. -/
import Derived.Test.YtfnbflhoaemmeaaGreatDoorZi6
import Derived.Deep.QuietTactic
import Derived.WalkKit
section
namespace Go.Proofs.YtfnbflhoaemmeaaGreatDoor.EBui
open Go.RowKit Go.Proofs.YtfnbflhoaemmeaaGreatDoor.Ext Go.Proofs.YtfnbflhoaemmeaaGreatDoor.EFxA Go.Proofs.YtfnbflhoaemmeaaGreatDoor.EFix Go.Proofs.YtfnbflhoaemmeaaGreatDoor.EVal Go.Proofs.YtfnbflhoaemmeaaGreatDoorW.PrintWords Go.Proofs.YtfnbflhoaemmeaaGreatDoorW.PrintLast Go.Proofs.YtfnbflhoaemmeaaGreatDoorW.PrintMore
attribute [local go_sem] max2_int min2_int max_two min_two max_three min_three max_four min_four   
set_option linter.unusedVariables false
set_option linter.unusedSimpArgs false
mutual
def builtin_Call.j0 : Nat → ByteArray → List (S44) → Bool → Bool → Option (Int × Int × ByteArray × Bool × Int)
 | 0, _, _, _, _ => none
 | k + 1, x0, x1, x7, x22 => if x22 = true then ((builtin_failed.f 5).bind fun bt319 => (some (bt319.1, bt319.2.1, bt319.2.2.1, bt319.2.2.2.1, bt319.2.2.2.2))) else (if x7 = true then ((builtin_all.f k x0 x1).bind fun bt324 => (some (bt324.1, bt324.2.1, bt324.2.2.1, bt324.2.2.2.1, bt324.2.2.2.2))) else (builtin_Call.l0 k x0 ([] : List (S24)) x1 (x1.length : Int) 0))
def builtin_Call.l0 : Nat → ByteArray → List (S24) → List (S44) → Int → Int → Option (Int × Int × ByteArray × Bool × Int)
 | 0, _, _, _, _, _ => none
 | k + 1, x0, x8, x39, x40, x41 => if x41 < x40 then (if 0 ≤ x41 then (if x41 < (x39.length : Int) then (if (rd_T44 x39 x41).f0 = true then (builtin_Call.j2 k x0 x8 x39 x40 x41 true ((rd_T44 x39 x41).f0) ((rd_T44 x39 x41).f1)) else (builtin_Call.j2 k x0 x8 x39 x40 x41 ((((rd_T44 x39 x41).f1).length : Int) != 1) ((rd_T44 x39 x41).f0) ((rd_T44 x39 x41).f1))) else (none)) else (none)) else ((builtin_single.f k x0 x8).bind fun bt329 => (some (bt329.1, bt329.2.1, bt329.2.2.1, bt329.2.2.2.1, bt329.2.2.2.2)))
def builtin_Call.j2 : Nat → ByteArray → List (S24) → List (S44) → Int → Int → Bool → Bool → List (S24) → Option (Int × Int × ByteArray × Bool × Int)
 | 0, _, _, _, _, _, _, _, _ => none
 | k + 1, x0, x8, x39, x40, x41, x52, x336000, x336001 => if x52 = true then ((builtin_failed.f 5).bind fun bt336 => (some (bt336.1, bt336.2.1, bt336.2.2.1, bt336.2.2.2.1, bt336.2.2.2.2))) else (if 0 < (x336001.length : Int) then ((value_May.f ((rd_T24 x336001 0).f0) ((rd_T24 x336001 0).f1) ((rd_T24 x336001 0).f2) ((rd_T24 x336001 0).f3) ((rd_T24 x336001 0).f4)).bind fun t343 => (if t343 = true then (if x8.length < 2932031007402 then (builtin_Call.l0 k x0 (x8 ++ [(⟨(rd_T24 x336001 0).f0, (rd_T24 x336001 0).f1, (rd_T24 x336001 0).f2, (rd_T24 x336001 0).f3, (rd_T24 x336001 0).f4⟩ : S24)]) x39 x40 (wrap64 (x41 + 1))) else (none)) else ((builtin_failed.f 5).bind fun bt347 => (if x8.length < 2932031007402 then (builtin_Call.l0 k x0 (x8 ++ [(⟨bt347.1, bt347.2.1, bt347.2.2.1, bt347.2.2.2.1, bt347.2.2.2.2⟩ : S24)]) x39 x40 (wrap64 (x41 + 1))) else (none))))) else (none))
end
def builtin_Call.f (k : Nat) (a0 : ByteArray) (l1 : List (S44)) : Option (Int × Int × ByteArray × Bool × Int) := (builtin_arity.f k a0).bind fun bt311 => (if bt311.1 < 0 then ((builtin_failed.f 6).bind fun bt314 => (some (bt314.1, bt314.2.1, bt314.2.2.1, bt314.2.2.2.1, bt314.2.2.2.2))) else (if (l1.length : Int) < bt311.1 then (builtin_Call.j0 k a0 l1 bt311.2.2 true) else (builtin_Call.j0 k a0 l1 bt311.2.2 (decide ((l1.length : Int) > bt311.2.1)))))
set_option maxHeartbeats 8000000 in
set_option maxRecDepth 100000 in
theorem builtin_Call.calls (k : Nat) (a0 : ByteArray) (A1 : Option Addr) (c1 : Nat) (l1 : List (S44)) (r1 : Int) (r2 : Int) (r3 : ByteArray) (r4 : Bool) (r5 : Int) (w : World) (hL : Aside0 (Lq w)) (hr1 : Kd.C k44 w A1 l1.length l1) (hc1 : l1.length ≤ c1) (h : builtin_Call.f k a0 l1 = some (r1, r2, r3, r4, r5)) :
  Calls Tryz.prog 28 #[.string a0, .slice A1 l1.length c1] w fun e w' => e = .returned (.agg #[.int .i64 r1, .int .i64 r2, .string r3, .bool r4, .int .i64 r5]) ∧ Below w.heap.size w w' := by
 have hu24 := Tryz.underlying24
 have hu44 := Tryz.underlying44
 have HR1 := Aside0.mk hr1
 have HC1 := Aside0.mk hc1
 clear hr1 hc1
 have HB := Aside0.mk (Below.refl w.heap.size w)
 have H : ((builtin_arity.f k a0).bind fun bt311 => (if bt311.1 < 0 then ((builtin_failed.f 6).bind fun bt314 => (some (bt314.1, bt314.2.1, bt314.2.2.1, bt314.2.2.2.1, bt314.2.2.2.2))) else (if (l1.length : Int) < bt311.1 then (builtin_Call.j0 k a0 l1 bt311.2.2 true) else (builtin_Call.j0 k a0 l1 bt311.2.2 (decide ((l1.length : Int) > bt311.2.1)))))) = some (r1, r2, r3, r4, r5) := h
 clear h
 replace H := Option.bind_eq_some_iff.mp H
 obtain ⟨⟨t311, t312, t313⟩, A30, H⟩ := H
 replace H : (if t311 < 0 then ((builtin_failed.f 6).bind fun bt314 => (some (bt314.1, bt314.2.1, bt314.2.2.1, bt314.2.2.2.1, bt314.2.2.2.2))) else (if (l1.length : Int) < t311 then (builtin_Call.j0 k a0 l1 t313 true) else (builtin_Call.j0 k a0 l1 t313 (decide ((l1.length : Int) > t312))))) = some (r1, r2, r3, r4, r5) := H
 have A3 := Aside0.mk A30
 clear A30
 by_cases c4 : t311 < 0
 ·rw [if_pos c4] at H
  have c4b0 : decide (t311 < 0) = true := decide_eq_true c4
  clear c4
  replace H := Option.bind_eq_some_iff.mp H
  obtain ⟨⟨t314, t315, t316, t317, t318⟩, A50, H⟩ := H
  replace H : (some (t314, t315, t316, t317, t318)) = some (r1, r2, r3, r4, r5) := H
  have A5 := Aside0.mk A50
  clear A50
  simp only [Option.some.injEq, Prod.mk.injEq] at H
  obtain ⟨rfl, rfl, rfl, rfl, rfl⟩ := H
  go_enter Tryz.func28, Tryz.ntmps28
  go_wp2_with (first | ((with_reducible refine gate_dst (N := 4) rfl ?_); (try (refine gate_guard (by rfl) ?_; dsimp only)); refine box_event ?hg (N := 4) ?hd (cs := #[.int .i64 0, .int .i64 0, .string (⟨#[]⟩ : ByteArray), .bool false, .int .i64 0]) (t := 24) ?hr ?_; (case hd => rfl); (case hg => rfl); (case hr => first | (go_simp; done) | (go_simp; rfl)); intro gb310 hg w6 hbox hb; have n0_ := Aside0.mk (below_step (by repeat (first | (with_reducible first | exact HB.out | apply bA | apply bN | apply bD) | exact HB.out)) hb); have n1_ := Aside0.mk (hbox); have n2_ := Aside0.mk ((by rw [hg]; exact (below_size (by repeat (first | (with_reducible first | exact HB.out | apply bA | apply bN | apply bD) | exact HB.out))) : w.heap.size ≤ gb310)); have n3_ := Aside0.mk ((by rw [hg]; exact (below_size (by repeat (first | (with_reducible first | exact HB.out | apply bA | apply bN | apply bD) | exact HB.out))) : w.heap.size ≤ gb310)); clear HB; have HB := n0_; have BK310 := n1_; have GW310 := n2_; have GE310 := n3_; clear n0_ n1_ n2_ n3_; clear hb hbox hg) | ((with_reducible refine gate_callee (f := 53) rfl ?_); refine goesL_ (some 14) rfl rfl Tryz.func53 (by kernel_rfl) rfl #[.string a0] rfl (by (try simp only [List.map_toArray, List.map_cons, List.map_nil]); first | done | rfl) ?_; (with_reducible refine (builtin_arity.calls k a0 t311 t312 t313 _ A3.out).mono ?_); rintro e w' ⟨rfl, ⟨nd, rfl⟩⟩; refine ⟨_, rfl, ?_⟩; (try (rw [drewN_self w6]; generalize hq_ : World.drewN w6 _ = w6; have n0_ : Aside0 (w6.heap[gb310]? = some (.cells #[.int .i64 0, .int .i64 0, .string (⟨#[]⟩ : ByteArray), .bool false, .int .i64 0] 24 (0, 0))) := ⟨by rw [← hq_]; exact (by (with_reducible repeat (first | refine blk_drewN ?_ _ | refine blk_drew ?_ | refine blk_alloc ?_ _)); exact BK310.out)⟩; have n1_ : Aside0 (Below w.heap.size w w6) := ⟨by rw [← hq_]; exact (by repeat (first | (with_reducible first | exact HB.out | apply bA | apply bN | apply bD | refine below_set ?_ GE310.out) | exact HB.out))⟩; clear BK310 HB hq_; have BK310 := n0_; have HB := n1_; clear n0_ n1_))) | ((with_reducible refine gate_callee (f := 54) rfl ?_); refine goesL_ (some 21) rfl rfl Tryz.func54 (by kernel_rfl) rfl #[.int .i64 6] rfl (by (try simp only [List.map_toArray, List.map_cons, List.map_nil]); first | done | rfl) ?_; (with_reducible refine (builtin_failed.calls 6 t314 t315 t316 t317 t318 _ A5.out).mono ?_); rintro e w7 ⟨rfl, hb⟩; refine ⟨_, rfl, ?_⟩; have n0_ := Aside0.mk (blk_below (g := gb310) (o := .cells #[.int .i64 0, .int .i64 0, .string (⟨#[]⟩ : ByteArray), .bool false, .int .i64 0] 24 (0, 0)) (by (with_reducible repeat (first | refine blk_drewN ?_ _ | refine blk_drew ?_ | refine blk_alloc ?_ _)); exact BK310.out) hb); have n1_ := Aside0.mk (below_step (by repeat (first | (with_reducible first | exact HB.out | apply bA | apply bN | apply bD | refine below_set ?_ GE310.out) | exact HB.out)) hb); clear BK310; clear HB; have BK310 := n0_; have HB := n1_; clear n0_ n1_; (try clear hb); (try clear hb2); (try clear hk); (try clear hi); obtain ⟨hcz8_0, hcz8_1, hcz8_2, hcz8_3, hcz8_4, hfz8_0, hfz8_1, hfz8_2, hfz8_3, hfz8_4⟩ := five BK310.out))
  refine bodyPost_ret (results_cell_row rfl _ _ gb310 24 #[.int .i64 t314, .int .i64 t315, .string t316, .bool t317, .int .i64 t318] (0, 0) _ rfl (by (with_reducible repeat (first | refine blk_drewN ?_ _ | refine blk_drew ?_ | refine blk_alloc ?_ _)); refine blk_put (cs := #[.int .i64 t314, .int .i64 t315, .string t316, .bool t317, .int .i64 0]) ?_ 4 _ rfl; (with_reducible repeat (first | refine blk_drewN ?_ _ | refine blk_drew ?_ | refine blk_alloc ?_ _)); refine blk_put (cs := #[.int .i64 t314, .int .i64 t315, .string t316, .bool false, .int .i64 0]) ?_ 3 _ rfl; (with_reducible repeat (first | refine blk_drewN ?_ _ | refine blk_drew ?_ | refine blk_alloc ?_ _)); refine blk_put (cs := #[.int .i64 t314, .int .i64 t315, .string (⟨#[]⟩ : ByteArray), .bool false, .int .i64 0]) ?_ 2 _ rfl; (with_reducible repeat (first | refine blk_drewN ?_ _ | refine blk_drew ?_ | refine blk_alloc ?_ _)); refine blk_put (cs := #[.int .i64 t314, .int .i64 0, .string (⟨#[]⟩ : ByteArray), .bool false, .int .i64 0]) ?_ 1 _ rfl; (with_reducible repeat (first | refine blk_drewN ?_ _ | refine blk_drew ?_ | refine blk_alloc ?_ _)); refine blk_put (cs := #[.int .i64 0, .int .i64 0, .string (⟨#[]⟩ : ByteArray), .bool false, .int .i64 0]) ?_ 0 _ rfl; (with_reducible repeat (first | refine blk_drewN ?_ _ | refine blk_drew ?_ | refine blk_alloc ?_ _)); exact BK310.out) Tryz.underlying24 rfl (by kernel_rfl)) rfl ?_
  exact ⟨by first | rfl | (simp; done) | (simp [*]; done) | (simp <;> rfl) | (simp [*] <;> rfl), by repeat (first | (with_reducible first | exact HB.out | apply bA | apply bN | apply bD | refine below_set ?_ GE310.out) | exact HB.out)⟩
 ·rw [if_neg c4] at H
  have c4b0 : decide (t311 < 0) = false := decide_eq_false c4
  clear c4
  have HC9 := Aside0.mk H
  clear H
  go_enter Tryz.func28, Tryz.ntmps28
  go_upto_region 4 with (first | ((with_reducible refine gate_dst (N := 4) rfl ?_); (try (refine gate_guard (by rfl) ?_; dsimp only)); refine box_event ?hg (N := 4) ?hd (cs := #[.int .i64 0, .int .i64 0, .string (⟨#[]⟩ : ByteArray), .bool false, .int .i64 0]) (t := 24) ?hr ?_; (case hd => rfl); (case hg => rfl); (case hr => first | (go_simp; done) | (go_simp; rfl)); intro gb310 hg w10 hbox hb; have n0_ := Aside0.mk (below_step (by repeat (first | (with_reducible first | exact HB.out | apply bA | apply bN | apply bD) | exact HB.out)) hb); have n1_ := Aside0.mk (hbox); have n2_ := Aside0.mk ((by rw [hg]; exact (below_size (by repeat (first | (with_reducible first | exact HB.out | apply bA | apply bN | apply bD) | exact HB.out))) : w.heap.size ≤ gb310)); have n3_ := Aside0.mk ((by rw [hg]; exact (below_size (by repeat (first | (with_reducible first | exact HB.out | apply bA | apply bN | apply bD) | exact HB.out))) : w.heap.size ≤ gb310)); clear HB; have HB := n0_; have BK310 := n1_; have GW310 := n2_; have GE310 := n3_; clear n0_ n1_ n2_ n3_; clear hb hbox hg) | ((with_reducible refine gate_callee (f := 53) rfl ?_); refine goesL_ (some 14) rfl rfl Tryz.func53 (by kernel_rfl) rfl #[.string a0] rfl (by (try simp only [List.map_toArray, List.map_cons, List.map_nil]); first | done | rfl) ?_; (with_reducible refine (builtin_arity.calls k a0 t311 t312 t313 _ A3.out).mono ?_); rintro e w' ⟨rfl, ⟨nd, rfl⟩⟩; refine ⟨_, rfl, ?_⟩))
  (try simp only [Act.put, List.setIfInBounds_toArray, List.set_cons_zero, List.set_cons_succ])
  go_cut [22] (fun v22 wc => ∃ (kq : Nat) (x22_8 : Bool), v22 = .bool x22_8 ∧ Aside0 (builtin_Call.j0 kq a0 l1 t313 x22_8 = some (r1, r2, r3, r4, r5)) ∧ Aside0 (kq ≤ k) ∧ Aside0 (wc.heap[gb310]? = some (.cells #[.int .i64 0, .int .i64 0, .string (⟨#[]⟩ : ByteArray), .bool false, .int .i64 0] 24 (0, 0))) ∧ Aside0 (Below w.heap.size w wc))
  case first =>
   have H := HC9.out
   clear HC9
   by_cases c11 : (l1.length : Int) < t311
   ·rw [if_pos c11] at H
    have c11b0 : decide ((l1.length : Int) < t311) = true := decide_eq_true c11
    clear c11
    (first | rw [c11b0] | (simp only [i64_w, i32_w]; rw [c11b0]) | skip)
    have H' := Aside0.mk H
    clear H
    go_wp2
    go_meet
    case rel => exact ⟨_, (true), (by first | rfl | (simp; done) | (simp [*]; done)), H', ⟨by first | omega | exact Nat.le_refl _⟩, ⟨by (with_reducible repeat (first | refine blk_drewN ?_ _ | refine blk_drew ?_ | refine blk_alloc ?_ _)); exact BK310.out⟩, ⟨by repeat (first | (with_reducible first | exact HB.out | apply bA | apply bN | apply bD | refine below_set ?_ GE310.out) | exact HB.out)⟩⟩
   ·rw [if_neg c11] at H
    have c11b0 : decide ((l1.length : Int) < t311) = false := decide_eq_false c11
    clear c11
    (first | rw [c11b0] | (simp only [i64_w, i32_w]; rw [c11b0]) | skip)
    have H' := Aside0.mk H
    clear H
    go_wp2
    go_meet
    case rel => exact ⟨_, (decide ((l1.length : Int) > t312)), (by first | rfl | (simp; done) | (simp [*]; done)), H', ⟨by first | omega | exact Nat.le_refl _⟩, ⟨by (with_reducible repeat (first | refine blk_drewN ?_ _ | refine blk_drew ?_ | refine blk_alloc ?_ _)); exact BK310.out⟩, ⟨by repeat (first | (with_reducible first | exact HB.out | apply bA | apply bN | apply bD | refine below_set ?_ GE310.out) | exact HB.out)⟩⟩
  case rest =>
   clear HC9
   try clear c1
   try clear c2
   try clear p2
   try clear c4
   try clear c4b0
   try clear c5
   try clear c11
   try clear c11b0
   try clear hcz8_0
   try clear hcz8_1
   try clear hcz8_2
   try clear hcz8_3
   try clear hcz8_4
   try clear hfz8_0
   try clear hfz8_1
   try clear hfz8_2
   try clear hfz8_3
   try clear hfz8_4
   obtain ⟨kq, x22_8, rfl, HA, HJ8, BK310, HB⟩ := hcut
   cases kq with
   | zero => exact absurd HA.out (by simp [builtin_Call.j0])
   | succ kj8 =>
    have H := HA.out
    clear HA
    simp only [builtin_Call.j0] at H
    by_cases c12 : x22_8 = true
    ·subst c12
     have H1 : ((builtin_failed.f 5).bind fun bt319 => (some (bt319.1, bt319.2.1, bt319.2.2.1, bt319.2.2.2.1, bt319.2.2.2.2))) = some (r1, r2, r3, r4, r5) := by rw [if_pos rfl] at H; exact H
     clear H
     have H := H1
     clear H1
     replace H := Option.bind_eq_some_iff.mp H
     obtain ⟨⟨t319, t320, t321, t322, t323⟩, A130, H⟩ := H
     replace H : (some (t319, t320, t321, t322, t323)) = some (r1, r2, r3, r4, r5) := H
     have A13 := Aside0.mk A130
     clear A130
     simp only [Option.some.injEq, Prod.mk.injEq] at H
     obtain ⟨rfl, rfl, rfl, rfl, rfl⟩ := H
     go_wp2_with (first | ((with_reducible refine gate_callee (f := 54) rfl ?_); refine goesL_ (some 33) rfl rfl Tryz.func54 (by kernel_rfl) rfl #[.int .i64 5] rfl (by (try simp only [List.map_toArray, List.map_cons, List.map_nil]); first | done | rfl) ?_; (with_reducible refine (builtin_failed.calls 5 t319 t320 t321 t322 t323 _ A13.out).mono ?_); rintro e w14 ⟨rfl, hb⟩; refine ⟨_, rfl, ?_⟩; have n0_ := Aside0.mk (blk_below (g := gb310) (o := .cells #[.int .i64 0, .int .i64 0, .string (⟨#[]⟩ : ByteArray), .bool false, .int .i64 0] 24 (0, 0)) (by (with_reducible repeat (first | refine blk_drewN ?_ _ | refine blk_drew ?_ | refine blk_alloc ?_ _)); exact BK310.out) hb); have n1_ := Aside0.mk (below_step (by repeat (first | (with_reducible first | exact HB.out | apply bA | apply bN | apply bD | refine below_set ?_ GE310.out) | exact HB.out)) hb); clear BK310; clear HB; have BK310 := n0_; have HB := n1_; clear n0_ n1_; (try clear hb); (try clear hb2); (try clear hk); (try clear hi); obtain ⟨hcz15_0, hcz15_1, hcz15_2, hcz15_3, hcz15_4, hfz15_0, hfz15_1, hfz15_2, hfz15_3, hfz15_4⟩ := five BK310.out))
     refine bodyPost_ret (results_cell_row rfl _ _ gb310 24 #[.int .i64 t319, .int .i64 t320, .string t321, .bool t322, .int .i64 t323] (0, 0) _ rfl (by (with_reducible repeat (first | refine blk_drewN ?_ _ | refine blk_drew ?_ | refine blk_alloc ?_ _)); refine blk_put (cs := #[.int .i64 t319, .int .i64 t320, .string t321, .bool t322, .int .i64 0]) ?_ 4 _ rfl; (with_reducible repeat (first | refine blk_drewN ?_ _ | refine blk_drew ?_ | refine blk_alloc ?_ _)); refine blk_put (cs := #[.int .i64 t319, .int .i64 t320, .string t321, .bool false, .int .i64 0]) ?_ 3 _ rfl; (with_reducible repeat (first | refine blk_drewN ?_ _ | refine blk_drew ?_ | refine blk_alloc ?_ _)); refine blk_put (cs := #[.int .i64 t319, .int .i64 t320, .string (⟨#[]⟩ : ByteArray), .bool false, .int .i64 0]) ?_ 2 _ rfl; (with_reducible repeat (first | refine blk_drewN ?_ _ | refine blk_drew ?_ | refine blk_alloc ?_ _)); refine blk_put (cs := #[.int .i64 t319, .int .i64 0, .string (⟨#[]⟩ : ByteArray), .bool false, .int .i64 0]) ?_ 1 _ rfl; (with_reducible repeat (first | refine blk_drewN ?_ _ | refine blk_drew ?_ | refine blk_alloc ?_ _)); refine blk_put (cs := #[.int .i64 0, .int .i64 0, .string (⟨#[]⟩ : ByteArray), .bool false, .int .i64 0]) ?_ 0 _ rfl; (with_reducible repeat (first | refine blk_drewN ?_ _ | refine blk_drew ?_ | refine blk_alloc ?_ _)); exact BK310.out) Tryz.underlying24 rfl (by kernel_rfl)) rfl ?_
     exact ⟨by first | rfl | (simp; done) | (simp [*]; done) | (simp <;> rfl) | (simp [*] <;> rfl), by repeat (first | (with_reducible first | exact HB.out | apply bA | apply bN | apply bD | refine below_set ?_ GE310.out) | exact HB.out)⟩
    ·replace c12 := Bool.eq_false_iff.mpr c12
     subst c12
     have H1 : (if t313 = true then ((builtin_all.f kj8 a0 l1).bind fun bt324 => (some (bt324.1, bt324.2.1, bt324.2.2.1, bt324.2.2.2.1, bt324.2.2.2.2))) else (builtin_Call.l0 kj8 a0 ([] : List (S24)) l1 (l1.length : Int) 0)) = some (r1, r2, r3, r4, r5) := by rw [if_neg (show ¬ (false = true) by decide)] at H; exact H
     clear H
     have H := H1
     clear H1
     by_cases c16 : t313 = true
     ·subst c16
      have H1 : ((builtin_all.f kj8 a0 l1).bind fun bt324 => (some (bt324.1, bt324.2.1, bt324.2.2.1, bt324.2.2.2.1, bt324.2.2.2.2))) = some (r1, r2, r3, r4, r5) := by rw [if_pos rfl] at H; exact H
      clear H
      have H := H1
      clear H1
      replace H := Option.bind_eq_some_iff.mp H
      obtain ⟨⟨t324, t325, t326, t327, t328⟩, A170, H⟩ := H
      replace H : (some (t324, t325, t326, t327, t328)) = some (r1, r2, r3, r4, r5) := H
      have A17 := Aside0.mk A170
      clear A170
      simp only [Option.some.injEq, Prod.mk.injEq] at H
      obtain ⟨rfl, rfl, rfl, rfl, rfl⟩ := H
      go_wp2_with (first | ((with_reducible refine gate_callee (f := 55) rfl ?_); refine goesL_ (some 38) rfl rfl Tryz.func55 (by kernel_rfl) rfl #[.string a0, .slice A1 l1.length c1] rfl (by (try simp only [List.map_toArray, List.map_cons, List.map_nil]); first | done | rfl) ?_; (with_reducible refine (builtin_all.calls (hL := ⟨by first | exact hL.out | (refine hL.out.drawn ?_; (repeat (first | exact Drawn0.refl _ | apply Drawn0.step)); done) | (refine hL.out.below ?_; (repeat (first | (with_reducible first | exact HB.out | apply bA | apply bN | apply bD | refine below_set ?_ GE310.out | refine below_set ?_ GE335.out | refine below_set ?_ GE342.out) | exact HB.out)); done)⟩) kj8 a0 _ _ l1 t324 t325 t326 t327 t328 _ ?side1 ?side2 A17.out).mono ?_); (case side1 => repeat (first | exact (Kd.C_below HR1.out HB.out) | (with_reducible refine Kd.C_alloc ?_ _) | (with_reducible refine Kd.C_drewN ?_ _) | (with_reducible refine Kd.C_drew ?_))); (case side2 => exact HC1.out); rintro e w18 ⟨rfl, hb⟩; refine ⟨_, rfl, ?_⟩; have n0_ := Aside0.mk (blk_below (g := gb310) (o := .cells #[.int .i64 0, .int .i64 0, .string (⟨#[]⟩ : ByteArray), .bool false, .int .i64 0] 24 (0, 0)) (by (with_reducible repeat (first | refine blk_drewN ?_ _ | refine blk_drew ?_ | refine blk_alloc ?_ _)); exact BK310.out) hb); have n1_ := Aside0.mk (below_step (by repeat (first | (with_reducible first | exact HB.out | apply bA | apply bN | apply bD | refine below_set ?_ GE310.out) | exact HB.out)) hb); clear BK310; clear HB; have BK310 := n0_; have HB := n1_; clear n0_ n1_; (try clear hb); (try clear hb2); (try clear hk); (try clear hi); obtain ⟨hcz19_0, hcz19_1, hcz19_2, hcz19_3, hcz19_4, hfz19_0, hfz19_1, hfz19_2, hfz19_3, hfz19_4⟩ := five BK310.out))
      refine bodyPost_ret (results_cell_row rfl _ _ gb310 24 #[.int .i64 t324, .int .i64 t325, .string t326, .bool t327, .int .i64 t328] (0, 0) _ rfl (by (with_reducible repeat (first | refine blk_drewN ?_ _ | refine blk_drew ?_ | refine blk_alloc ?_ _)); refine blk_put (cs := #[.int .i64 t324, .int .i64 t325, .string t326, .bool t327, .int .i64 0]) ?_ 4 _ rfl; (with_reducible repeat (first | refine blk_drewN ?_ _ | refine blk_drew ?_ | refine blk_alloc ?_ _)); refine blk_put (cs := #[.int .i64 t324, .int .i64 t325, .string t326, .bool false, .int .i64 0]) ?_ 3 _ rfl; (with_reducible repeat (first | refine blk_drewN ?_ _ | refine blk_drew ?_ | refine blk_alloc ?_ _)); refine blk_put (cs := #[.int .i64 t324, .int .i64 t325, .string (⟨#[]⟩ : ByteArray), .bool false, .int .i64 0]) ?_ 2 _ rfl; (with_reducible repeat (first | refine blk_drewN ?_ _ | refine blk_drew ?_ | refine blk_alloc ?_ _)); refine blk_put (cs := #[.int .i64 t324, .int .i64 0, .string (⟨#[]⟩ : ByteArray), .bool false, .int .i64 0]) ?_ 1 _ rfl; (with_reducible repeat (first | refine blk_drewN ?_ _ | refine blk_drew ?_ | refine blk_alloc ?_ _)); refine blk_put (cs := #[.int .i64 0, .int .i64 0, .string (⟨#[]⟩ : ByteArray), .bool false, .int .i64 0]) ?_ 0 _ rfl; (with_reducible repeat (first | refine blk_drewN ?_ _ | refine blk_drew ?_ | refine blk_alloc ?_ _)); exact BK310.out) Tryz.underlying24 rfl (by kernel_rfl)) rfl ?_
      exact ⟨by first | rfl | (simp; done) | (simp [*]; done) | (simp <;> rfl) | (simp [*] <;> rfl), by repeat (first | (with_reducible first | exact HB.out | apply bA | apply bN | apply bD | refine below_set ?_ GE310.out) | exact HB.out)⟩
     ·replace c16 := Bool.eq_false_iff.mpr c16
      subst c16
      have H1 : (builtin_Call.l0 kj8 a0 ([] : List (S24)) l1 (l1.length : Int) 0) = some (r1, r2, r3, r4, r5) := by rw [if_neg (show ¬ (false = true) by decide)] at H; exact H
      clear H
      have H := H1
      clear H1
      have H' := Aside0.mk H
      clear H
      go_wp2
      go_loopg [8, 41] kj8 (fun kq v8 v41 w' => ∃ (x8_2 : List (S24)) (x41_2 : Int) (x311000_2 : Int) (x311001_2 : Int) (x311002_2 : ByteArray) (x311003_2 : Bool) (x311004_2 : Int), v41 = .int .i64 x41_2 ∧ Aside0 (builtin_Call.l0 kq a0 x8_2 l1 (l1.length : Int) x41_2 = some (r1, r2, r3, r4, r5)) ∧ Aside0 (kq ≤ kj8) ∧ Aside0 (Kd.R k24 24 w' w.heap.size (fun k_ => k_ ≠ gb310) v8 x8_2) ∧ Aside0 (w'.heap[gb310]? = some (.cells #[.int .i64 x311000_2, .int .i64 x311001_2, .string x311002_2, .bool x311003_2, .int .i64 x311004_2] 24 (0, 0))) ∧ Aside0 (Below w.heap.size w w'))
      case atStart => exact ⟨(([] : List (S24))), (0), (0), (0), ((⟨#[]⟩ : ByteArray)), (false), (0), (by first | rfl | (simp; done) | (simp [*]; done)), H', ⟨Nat.le_refl _⟩, ⟨by first | exact Kd.R_nil _ _ _ _ _ | exact Kd.N_nil _ _ _ _ _ | exact Kd.V_nil _ _ _ _ _ | exact Kd.Q_nil _ _ _ _ _ | exact Kd.S_nil _ _ _ _ _⟩, ⟨by (with_reducible repeat (first | refine blk_drewN ?_ _ | refine blk_drew ?_ | refine blk_alloc ?_ _)); exact BK310.out⟩, ⟨by repeat (first | (with_reducible first | exact HB.out | apply bA | apply bN | apply bD | refine below_set ?_ GE310.out) | exact HB.out)⟩⟩
      case round =>
       clear H'
       try clear c1
       try clear c2
       try clear p2
       try clear c4
       try clear c4b0
       try clear c5
       try clear c11
       try clear c11b0
       try clear c12
       try clear c16
       try clear hcz15_0
       try clear hcz15_1
       try clear hcz15_2
       try clear hcz15_3
       try clear hcz15_4
       try clear hcz19_0
       try clear hcz19_1
       try clear hcz19_2
       try clear hcz19_3
       try clear hcz19_4
       try clear hcz8_0
       try clear hcz8_1
       try clear hcz8_2
       try clear hcz8_3
       try clear hcz8_4
       try clear hfz15_0
       try clear hfz15_1
       try clear hfz15_2
       try clear hfz15_3
       try clear hfz15_4
       try clear hfz19_0
       try clear hfz19_1
       try clear hfz19_2
       try clear hfz19_3
       try clear hfz19_4
       try clear hfz8_0
       try clear hfz8_1
       try clear hfz8_2
       try clear hfz8_3
       try clear hfz8_4
       try clear p2
       obtain ⟨x8_2, x41_2, x311000_2, x311001_2, x311002_2, x311003_2, x311004_2, rfl, HA, HK2, HO_8, BK310, HB⟩ := hrel
       cases gk with
       | zero => exact absurd HA.out (by simp [builtin_Call.l0])
       | succ k2 =>
        have H := HA.out
        clear HA
        simp only [builtin_Call.l0] at H
        by_cases c20 : x41_2 < (l1.length : Int)
        ·rw [if_pos c20] at H
         have c20b0 : decide (x41_2 < (l1.length : Int)) = true := decide_eq_true c20
         clear c20
         by_cases c21 : 0 ≤ x41_2
         ·rw [if_pos c21] at H
          have c21b0 : decide (0 ≤ x41_2) = true := decide_eq_true c21
          clear c21
          by_cases c22 : x41_2 < (l1.length : Int)
          ·rw [if_pos c22] at H
           have c22b0 : decide (x41_2 < (l1.length : Int)) = true := decide_eq_true c22
           clear c22
           have HC23 := Aside0.mk H
           clear H
           have p334 : 0 ≤ (x41_2 : Int) := of_decide_eq_true (by first | (with_reducible assumption) | assumption)
           have q334 : x41_2 < (l1.length : Int) := of_decide_eq_true (by first | (with_reducible assumption) | assumption)
           obtain ⟨ad334, A334_1, c334_1, e334, hx334_0, hx334_1, hl334_1, hi334_1⟩ := at_T44 HR1.out x41_2 p334 q334
           cases e334
           replace hx334_0 := (HB.out.cell (World.block_lt_of_cell? w _ hx334_0)).trans hx334_0
           replace hx334_1 := (HB.out.cell (World.block_lt_of_cell? w _ hx334_1)).trans hx334_1
           have HR334_1 := Aside0.mk hi334_1
           have HC334_1 := Aside0.mk hl334_1
           clear hi334_1 hl334_1
           replace p334 := eq_true p334
           replace q334 := eq_true q334
           try (have q334z := q334; simp only [ByteArray.size_extract, Nat.min_self] at q334z)
           go_upto_region 12 with (first | ((with_reducible refine gate_dst (N := 10) rfl ?_); (try (refine gate_guard (by rfl) ?_; dsimp only)); refine box_event ?hg (N := 10) ?hd (cs := #[.bool false, .slice none 0 0]) (t := 44) ?hr ?_; (case hd => rfl); (case hg => rfl); (case hr => first | (go_simp; done) | (go_simp; rfl)); intro gb335 hg w24 hbox hb; have n0_ := Aside0.mk (Kd.R_below (by (with_reducible repeat (first | apply Kd.R_alloc | apply Kd.R_drewN | apply Kd.R_drew)); exact HO_8.out) hb); have n1_ := Aside0.mk (blk_below (g := gb310) (o := .cells #[.int .i64 x311000_2, .int .i64 x311001_2, .string x311002_2, .bool x311003_2, .int .i64 x311004_2] 24 (0, 0)) (by (with_reducible repeat (first | refine blk_drewN ?_ _ | refine blk_drew ?_ | refine blk_alloc ?_ _)); exact BK310.out) hb); have n2_ := Aside0.mk (below_step (by repeat (first | (with_reducible first | exact HB.out | apply bA | apply bN | apply bD | refine below_set ?_ GE310.out) | exact HB.out)) hb); have n3_ := Aside0.mk (hbox); have n4_ := Aside0.mk ((by rw [hg]; exact (below_size (by repeat (first | (with_reducible first | exact HB.out | apply bA | apply bN | apply bD | refine below_set ?_ GE310.out) | exact HB.out))) : w.heap.size ≤ gb335)); have n5_ := Aside0.mk ((by rw [hg]; exact (below_size (by repeat (first | (with_reducible first | exact HB.out | apply bA | apply bN | apply bD | refine below_set ?_ GE310.out) | exact HB.out))) : w.heap.size ≤ gb335)); have n6_ := Aside0.mk ((by rw [hg]; exact Nat.ne_of_lt (blk_lt (g := gb310) (o := .cells #[.int .i64 x311000_2, .int .i64 x311001_2, .string x311002_2, .bool x311003_2, .int .i64 x311004_2] 24 (0, 0)) (by (with_reducible repeat (first | refine blk_drewN ?_ _ | refine blk_drew ?_ | refine blk_alloc ?_ _)); exact BK310.out)) : gb310 ≠ gb335)); have n7_ := Aside0.mk ((by rw [hg]; exact Nat.ne_of_gt (blk_lt (g := gb310) (o := .cells #[.int .i64 x311000_2, .int .i64 x311001_2, .string x311002_2, .bool x311003_2, .int .i64 x311004_2] 24 (0, 0)) (by (with_reducible repeat (first | refine blk_drewN ?_ _ | refine blk_drew ?_ | refine blk_alloc ?_ _)); exact BK310.out)) : gb335 ≠ gb310)); clear HO_8; clear BK310; clear HB; have HO_8 := n0_; have BK310 := n1_; have HB := n2_; have BK335 := n3_; have GW335 := n4_; have GE335 := n5_; have NB310_335 := n6_; have NB335_310 := n7_; clear n0_ n1_ n2_ n3_ n4_ n5_ n6_ n7_; clear hb hbox hg; have hnb25 := NB335_310.out; have hnc25 := NB310_335.out; have hcz26_0 : w24.cell? ⟨gb335, 0, none⟩ = some (.bool false) := (blk_cell BK335.out 0).trans rfl; have hcz26_1 : w24.cell? ⟨gb335, 1, none⟩ = some (.slice none 0 0) := (blk_cell BK335.out 1).trans rfl; have hfz26_0 := blk_frozen BK335.out 0; have hfz26_1 := blk_frozen BK335.out 1))
           (try simp only [Act.put, List.setIfInBounds_toArray, List.set_cons_zero, List.set_cons_succ])
           go_cut [52] (fun v52 wc => ∃ (kq : Nat) (x52_22 : Bool), v52 = .bool x52_22 ∧ Aside0 (builtin_Call.j2 kq a0 x8_2 l1 (l1.length : Int) x41_2 x52_22 ((rd_T44 l1 x41_2).f0) ((rd_T44 l1 x41_2).f1) = some (r1, r2, r3, r4, r5)) ∧ Aside0 (kq ≤ k2) ∧ Aside0 (Kd.R k24 24 wc w.heap.size (fun k_ => k_ ≠ gb310) u8 x8_2) ∧ Aside0 (wc.heap[gb310]? = some (.cells #[.int .i64 x311000_2, .int .i64 x311001_2, .string x311002_2, .bool x311003_2, .int .i64 x311004_2] 24 (0, 0))) ∧ Aside0 (wc.heap[gb335]? = some (.cells #[.bool ((rd_T44 l1 x41_2).f0), (.slice A334_1 ((rd_T44 l1 x41_2).f1).length c334_1)] 44 (0, 0))) ∧ Aside0 (Below w.heap.size w wc))
           case first =>
            have H := HC23.out
            clear HC23
            obtain ⟨bq27, hbq27⟩ : ∃ b_ : Bool, b_ = ((rd_T44 l1 x41_2).f0) := ⟨_, rfl⟩
            replace H : (if bq27 = true then (builtin_Call.j2 k2 a0 x8_2 l1 (l1.length : Int) x41_2 true bq27 ((rd_T44 l1 x41_2).f1)) else (builtin_Call.j2 k2 a0 x8_2 l1 (l1.length : Int) x41_2 ((((rd_T44 l1 x41_2).f1).length : Int) != 1) bq27 ((rd_T44 l1 x41_2).f1))) = some (r1, r2, r3, r4, r5) := by rw [← hbq27] at H; exact H
            have Nbq27 := Aside0.mk hbq27
            clear hbq27
            (try rw [← Nbq27.out])
            by_cases c28 : bq27 = true
            ·subst c28
             have H1 : (builtin_Call.j2 k2 a0 x8_2 l1 (l1.length : Int) x41_2 true true ((rd_T44 l1 x41_2).f1)) = some (r1, r2, r3, r4, r5) := by rw [if_pos rfl] at H; exact H
             clear H
             have H := H1
             clear H1
             have H' := Aside0.mk H
             clear H
             have hnb29 := NB335_310.out
             have hnc29 := NB310_335.out
             have hcz30_0 : w24.cell? ⟨gb335, 0, none⟩ = some (.bool false) := (blk_cell BK335.out 0).trans rfl
             have hcz30_1 : w24.cell? ⟨gb335, 1, none⟩ = some (.slice none 0 0) := (blk_cell BK335.out 1).trans rfl
             have hfz30_0 := blk_frozen BK335.out 0
             have hfz30_1 := blk_frozen BK335.out 1
             go_wp2
             go_meet
             case rel => exact ⟨_, (true), (by first | rfl | (simp; done) | (simp [*]; done)), ⟨by rw [← Nbq27.out]; exact H'.out⟩, ⟨by have := HJ8.out; have := HK2.out; first | omega | exact Nat.le_refl _⟩, ⟨by (with_reducible repeat (first | apply Kd.R_alloc | apply Kd.R_drewN | apply Kd.R_drew)); exact Kd.R_mono (Kd.R_far (p := ⟨gb335, 1, none⟩) (Kd.R_far (p := ⟨gb335, 0, none⟩) (Kd.R_types HO_8.out BK335.out (by decide)) (fun _ hk => hk.2) (.bool _)) (fun _ hk => hk.2) (.slice A334_1 ((rd_T44 l1 x41_2).f1).length c334_1)) (fun _ hk => hk.1)⟩, ⟨by (with_reducible repeat (first | refine blk_drewN ?_ _ | refine blk_drew ?_ | refine blk_alloc ?_ _)); refine blk_far ?_ NB310_335.out _; (with_reducible repeat (first | refine blk_drewN ?_ _ | refine blk_drew ?_ | refine blk_alloc ?_ _)); refine blk_far ?_ NB310_335.out _; (with_reducible repeat (first | refine blk_drewN ?_ _ | refine blk_drew ?_ | refine blk_alloc ?_ _)); exact BK310.out⟩, ⟨by (try rw [← Nbq27.out]); (with_reducible repeat (first | refine blk_drewN ?_ _ | refine blk_drew ?_ | refine blk_alloc ?_ _)); refine blk_put (cs := #[.bool (true), .slice none 0 0]) ?_ 1 _ rfl; (with_reducible repeat (first | refine blk_drewN ?_ _ | refine blk_drew ?_ | refine blk_alloc ?_ _)); refine blk_put (cs := #[.bool false, .slice none 0 0]) ?_ 0 _ rfl; (with_reducible repeat (first | refine blk_drewN ?_ _ | refine blk_drew ?_ | refine blk_alloc ?_ _)); exact BK335.out⟩, ⟨by repeat (first | (with_reducible first | exact HB.out | apply bA | apply bN | apply bD | refine below_set ?_ GE310.out | refine below_set ?_ GE335.out) | exact HB.out)⟩⟩
            ·replace c28 := Bool.eq_false_iff.mpr c28
             subst c28
             have H1 : (builtin_Call.j2 k2 a0 x8_2 l1 (l1.length : Int) x41_2 ((((rd_T44 l1 x41_2).f1).length : Int) != 1) false ((rd_T44 l1 x41_2).f1)) = some (r1, r2, r3, r4, r5) := by rw [if_neg (show ¬ (false = true) by decide)] at H; exact H
             clear H
             have H := H1
             clear H1
             have H' := Aside0.mk H
             clear H
             have hnb31 := NB335_310.out
             have hnc31 := NB310_335.out
             have hcz32_0 : w24.cell? ⟨gb335, 0, none⟩ = some (.bool false) := (blk_cell BK335.out 0).trans rfl
             have hcz32_1 : w24.cell? ⟨gb335, 1, none⟩ = some (.slice none 0 0) := (blk_cell BK335.out 1).trans rfl
             have hfz32_0 := blk_frozen BK335.out 0
             have hfz32_1 := blk_frozen BK335.out 1
             go_wp2
             go_meet
             case rel => exact ⟨_, (((((rd_T44 l1 x41_2).f1).length : Int) != 1)), (by first | rfl | (simp; done) | (simp [*]; done)), ⟨by rw [← Nbq27.out]; exact H'.out⟩, ⟨by have := HJ8.out; have := HK2.out; first | omega | exact Nat.le_refl _⟩, ⟨by (with_reducible repeat (first | apply Kd.R_alloc | apply Kd.R_drewN | apply Kd.R_drew)); exact Kd.R_mono (Kd.R_far (p := ⟨gb335, 1, none⟩) (Kd.R_far (p := ⟨gb335, 0, none⟩) (Kd.R_types HO_8.out BK335.out (by decide)) (fun _ hk => hk.2) (.bool (false))) (fun _ hk => hk.2) (.slice A334_1 ((rd_T44 l1 x41_2).f1).length c334_1)) (fun _ hk => hk.1)⟩, ⟨by (with_reducible repeat (first | refine blk_drewN ?_ _ | refine blk_drew ?_ | refine blk_alloc ?_ _)); refine blk_far ?_ NB310_335.out _; (with_reducible repeat (first | refine blk_drewN ?_ _ | refine blk_drew ?_ | refine blk_alloc ?_ _)); refine blk_far ?_ NB310_335.out _; (with_reducible repeat (first | refine blk_drewN ?_ _ | refine blk_drew ?_ | refine blk_alloc ?_ _)); exact BK310.out⟩, ⟨by (try rw [← Nbq27.out]); (with_reducible repeat (first | refine blk_drewN ?_ _ | refine blk_drew ?_ | refine blk_alloc ?_ _)); refine blk_put (cs := #[.bool (false), .slice none 0 0]) ?_ 1 _ rfl; (with_reducible repeat (first | refine blk_drewN ?_ _ | refine blk_drew ?_ | refine blk_alloc ?_ _)); refine blk_put (cs := #[.bool false, .slice none 0 0]) ?_ 0 _ rfl; (with_reducible repeat (first | refine blk_drewN ?_ _ | refine blk_drew ?_ | refine blk_alloc ?_ _)); exact BK335.out⟩, ⟨by repeat (first | (with_reducible first | exact HB.out | apply bA | apply bN | apply bD | refine below_set ?_ GE310.out | refine below_set ?_ GE335.out) | exact HB.out)⟩⟩
           case rest =>
            clear HC23
            try clear c1
            try clear c2
            try clear p2
            try clear q2
            try clear c3
            try clear p3
            try clear q3
            try clear hx3
            try clear c4
            try clear c4b0
            try clear c5
            try clear c11
            try clear c11b0
            try clear c12
            try clear c16
            try clear c20
            try clear c20b0
            try clear c21
            try clear c21b0
            try clear c22
            try clear c22b0
            try clear c25
            try clear q27
            try clear c28
            try clear c29
            try clear c31
            try clear hcz15_0
            try clear hcz15_1
            try clear hcz15_2
            try clear hcz15_3
            try clear hcz15_4
            try clear hcz19_0
            try clear hcz19_1
            try clear hcz19_2
            try clear hcz19_3
            try clear hcz19_4
            try clear hcz26_0
            try clear hcz26_1
            try clear hcz30_0
            try clear hcz30_1
            try clear hcz32_0
            try clear hcz32_1
            try clear hcz8_0
            try clear hcz8_1
            try clear hcz8_2
            try clear hcz8_3
            try clear hcz8_4
            try clear hfz15_0
            try clear hfz15_1
            try clear hfz15_2
            try clear hfz15_3
            try clear hfz15_4
            try clear hfz19_0
            try clear hfz19_1
            try clear hfz19_2
            try clear hfz19_3
            try clear hfz19_4
            try clear hfz26_0
            try clear hfz26_1
            try clear hfz30_0
            try clear hfz30_1
            try clear hfz32_0
            try clear hfz32_1
            try clear hfz8_0
            try clear hfz8_1
            try clear hfz8_2
            try clear hfz8_3
            try clear hfz8_4
            try clear hx334_0
            try clear hx334_1
            try clear p2
            try clear p334
            try clear q334
            obtain ⟨kq, x52_22, rfl, HA, HJ22, HO_8, BK310, BK335, HB⟩ := hcut
            cases kq with
            | zero => exact absurd HA.out (by simp [builtin_Call.j2])
            | succ kj22 =>
             have H := HA.out
             clear HA
             simp only [builtin_Call.j2] at H
             by_cases c33 : x52_22 = true
             ·subst c33
              have H1 : ((builtin_failed.f 5).bind fun bt336 => (some (bt336.1, bt336.2.1, bt336.2.2.1, bt336.2.2.2.1, bt336.2.2.2.2))) = some (r1, r2, r3, r4, r5) := by rw [if_pos rfl] at H; exact H
              clear H
              have H := H1
              clear H1
              replace H := Option.bind_eq_some_iff.mp H
              obtain ⟨⟨t336, t337, t338, t339, t340⟩, A340, H⟩ := H
              replace H : (some (t336, t337, t338, t339, t340)) = some (r1, r2, r3, r4, r5) := H
              have A34 := Aside0.mk A340
              clear A340
              simp only [Option.some.injEq, Prod.mk.injEq] at H
              obtain ⟨rfl, rfl, rfl, rfl, rfl⟩ := H
              go_wp2_with (first | ((with_reducible refine gate_callee (f := 54) rfl ?_); refine goesL_ (some 53) rfl rfl Tryz.func54 (by kernel_rfl) rfl #[.int .i64 5] rfl (by (try simp only [List.map_toArray, List.map_cons, List.map_nil]); first | done | rfl) ?_; (with_reducible refine (builtin_failed.calls 5 t336 t337 t338 t339 t340 _ A34.out).mono ?_); rintro e w35 ⟨rfl, hb⟩; refine ⟨_, rfl, ?_⟩; have n0_ := Aside0.mk (Kd.R_below (by (with_reducible repeat (first | apply Kd.R_alloc | apply Kd.R_drewN | apply Kd.R_drew)); exact HO_8.out) hb); have n1_ := Aside0.mk (blk_below (g := gb310) (o := .cells #[.int .i64 x311000_2, .int .i64 x311001_2, .string x311002_2, .bool x311003_2, .int .i64 x311004_2] 24 (0, 0)) (by (with_reducible repeat (first | refine blk_drewN ?_ _ | refine blk_drew ?_ | refine blk_alloc ?_ _)); exact BK310.out) hb); have n2_ := Aside0.mk (blk_below (g := gb335) (o := .cells #[.bool ((rd_T44 l1 x41_2).f0), .slice A334_1 ((rd_T44 l1 x41_2).f1).length c334_1] 44 (0, 0)) (by (with_reducible repeat (first | refine blk_drewN ?_ _ | refine blk_drew ?_ | refine blk_alloc ?_ _)); exact BK335.out) hb); have n3_ := Aside0.mk (below_step (by repeat (first | (with_reducible first | exact HB.out | apply bA | apply bN | apply bD | refine below_set ?_ GE310.out | refine below_set ?_ GE335.out) | exact HB.out)) hb); clear HO_8; clear BK310; clear BK335; clear HB; have HO_8 := n0_; have BK310 := n1_; have BK335 := n2_; have HB := n3_; clear n0_ n1_ n2_ n3_; (try clear hb); (try clear hb2); (try clear hk); (try clear hi); have hnb36 := NB310_335.out; have hnc36 := NB335_310.out; obtain ⟨hcz37_0, hcz37_1, hcz37_2, hcz37_3, hcz37_4, hfz37_0, hfz37_1, hfz37_2, hfz37_3, hfz37_4⟩ := five BK310.out))
              refine bodyPost_ret (results_cell_row rfl _ _ gb310 24 #[.int .i64 t336, .int .i64 t337, .string t338, .bool t339, .int .i64 t340] (0, 0) _ rfl (by (with_reducible repeat (first | refine blk_drewN ?_ _ | refine blk_drew ?_ | refine blk_alloc ?_ _)); refine blk_put (cs := #[.int .i64 t336, .int .i64 t337, .string t338, .bool t339, .int .i64 x311004_2]) ?_ 4 _ rfl; (with_reducible repeat (first | refine blk_drewN ?_ _ | refine blk_drew ?_ | refine blk_alloc ?_ _)); refine blk_put (cs := #[.int .i64 t336, .int .i64 t337, .string t338, .bool x311003_2, .int .i64 x311004_2]) ?_ 3 _ rfl; (with_reducible repeat (first | refine blk_drewN ?_ _ | refine blk_drew ?_ | refine blk_alloc ?_ _)); refine blk_put (cs := #[.int .i64 t336, .int .i64 t337, .string x311002_2, .bool x311003_2, .int .i64 x311004_2]) ?_ 2 _ rfl; (with_reducible repeat (first | refine blk_drewN ?_ _ | refine blk_drew ?_ | refine blk_alloc ?_ _)); refine blk_put (cs := #[.int .i64 t336, .int .i64 x311001_2, .string x311002_2, .bool x311003_2, .int .i64 x311004_2]) ?_ 1 _ rfl; (with_reducible repeat (first | refine blk_drewN ?_ _ | refine blk_drew ?_ | refine blk_alloc ?_ _)); refine blk_put (cs := #[.int .i64 x311000_2, .int .i64 x311001_2, .string x311002_2, .bool x311003_2, .int .i64 x311004_2]) ?_ 0 _ rfl; (with_reducible repeat (first | refine blk_drewN ?_ _ | refine blk_drew ?_ | refine blk_alloc ?_ _)); exact BK310.out) Tryz.underlying24 rfl (by kernel_rfl)) rfl ?_
              exact ⟨by first | rfl | (simp; done) | (simp [*]; done) | (simp <;> rfl) | (simp [*] <;> rfl), by repeat (first | (with_reducible first | exact HB.out | apply bA | apply bN | apply bD | refine below_set ?_ GE310.out | refine below_set ?_ GE335.out) | exact HB.out)⟩
             ·replace c33 := Bool.eq_false_iff.mpr c33
              subst c33
              have H1 : (if 0 < (((rd_T44 l1 x41_2).f1).length : Int) then ((value_May.f ((rd_T24 ((rd_T44 l1 x41_2).f1) 0).f0) ((rd_T24 ((rd_T44 l1 x41_2).f1) 0).f1) ((rd_T24 ((rd_T44 l1 x41_2).f1) 0).f2) ((rd_T24 ((rd_T44 l1 x41_2).f1) 0).f3) ((rd_T24 ((rd_T44 l1 x41_2).f1) 0).f4)).bind fun t343 => (if t343 = true then (if x8_2.length < 2932031007402 then (builtin_Call.l0 kj22 a0 (x8_2 ++ [(⟨(rd_T24 ((rd_T44 l1 x41_2).f1) 0).f0, (rd_T24 ((rd_T44 l1 x41_2).f1) 0).f1, (rd_T24 ((rd_T44 l1 x41_2).f1) 0).f2, (rd_T24 ((rd_T44 l1 x41_2).f1) 0).f3, (rd_T24 ((rd_T44 l1 x41_2).f1) 0).f4⟩ : S24)]) l1 (l1.length : Int) (wrap64 (x41_2 + 1))) else (none)) else ((builtin_failed.f 5).bind fun bt347 => (if x8_2.length < 2932031007402 then (builtin_Call.l0 kj22 a0 (x8_2 ++ [(⟨bt347.1, bt347.2.1, bt347.2.2.1, bt347.2.2.2.1, bt347.2.2.2.2⟩ : S24)]) l1 (l1.length : Int) (wrap64 (x41_2 + 1))) else (none))))) else (none)) = some (r1, r2, r3, r4, r5) := by rw [if_neg (show ¬ (false = true) by decide)] at H; exact H
              clear H
              have H := H1
              clear H1
              by_cases c38 : 0 < (((rd_T44 l1 x41_2).f1).length : Int)
              ·rw [if_pos c38] at H
               have c38b0 : decide (0 < (((rd_T44 l1 x41_2).f1).length : Int)) = true := decide_eq_true c38
               have c38b1 : decide (0 < ((rd_T44 l1 x41_2).f1).length) = true := decide_eq_true (by omega)
               clear c38
               replace H := Option.bind_eq_some_iff.mp H
               obtain ⟨t343, A390, H⟩ := H
               replace H : (if t343 = true then (if x8_2.length < 2932031007402 then (builtin_Call.l0 kj22 a0 (x8_2 ++ [(⟨(rd_T24 ((rd_T44 l1 x41_2).f1) 0).f0, (rd_T24 ((rd_T44 l1 x41_2).f1) 0).f1, (rd_T24 ((rd_T44 l1 x41_2).f1) 0).f2, (rd_T24 ((rd_T44 l1 x41_2).f1) 0).f3, (rd_T24 ((rd_T44 l1 x41_2).f1) 0).f4⟩ : S24)]) l1 (l1.length : Int) (wrap64 (x41_2 + 1))) else (none)) else ((builtin_failed.f 5).bind fun bt347 => (if x8_2.length < 2932031007402 then (builtin_Call.l0 kj22 a0 (x8_2 ++ [(⟨bt347.1, bt347.2.1, bt347.2.2.1, bt347.2.2.2.1, bt347.2.2.2.2⟩ : S24)]) l1 (l1.length : Int) (wrap64 (x41_2 + 1))) else (none)))) = some (r1, r2, r3, r4, r5) := H
               have A39 := Aside0.mk A390
               clear A390
               by_cases c40 : t343 = true
               ·subst c40
                have H1 : (if x8_2.length < 2932031007402 then (builtin_Call.l0 kj22 a0 (x8_2 ++ [(⟨(rd_T24 ((rd_T44 l1 x41_2).f1) 0).f0, (rd_T24 ((rd_T44 l1 x41_2).f1) 0).f1, (rd_T24 ((rd_T44 l1 x41_2).f1) 0).f2, (rd_T24 ((rd_T44 l1 x41_2).f1) 0).f3, (rd_T24 ((rd_T44 l1 x41_2).f1) 0).f4⟩ : S24)]) l1 (l1.length : Int) (wrap64 (x41_2 + 1))) else (none)) = some (r1, r2, r3, r4, r5) := by rw [if_pos rfl] at H; exact H
                clear H
                have H := H1
                clear H1
                by_cases c41 : x8_2.length < 2932031007402
                ·rw [if_pos c41] at H
                 have LMc41 := Aside0.mk c41
                 clear c41
                 obtain ⟨y344, hy344⟩ : ∃ y_ : List (S24), y_ = (x8_2 ++ [(⟨(rd_T24 ((rd_T44 l1 x41_2).f1) 0).f0, (rd_T24 ((rd_T44 l1 x41_2).f1) 0).f1, (rd_T24 ((rd_T44 l1 x41_2).f1) 0).f2, (rd_T24 ((rd_T44 l1 x41_2).f1) 0).f3, (rd_T24 ((rd_T44 l1 x41_2).f1) 0).f4⟩ : S24)]) := ⟨_, rfl⟩
                 replace H : (builtin_Call.l0 kj22 a0 y344 l1 (l1.length : Int) (wrap64 (x41_2 + 1))) = some (r1, r2, r3, r4, r5) := by first | (rw [hy344]; with_reducible exact H) | (have H2_ := (Option.bind_some _ _).symm.trans H; rw [hy344]; with_reducible exact H2_) | (have H2_ := (Option.bind_some _ _).symm.trans H; with_reducible exact H2_) | with_reducible exact H | (rw [hy344]; exact H) | exact H
                 have Ny344 := Aside0.mk hy344
                 clear hy344
                 have H' := Aside0.mk H
                 clear H
                 have hnb42 := NB335_310.out
                 have hnc42 := NB310_335.out
                 have hcz43_0 : wc.cell? ⟨gb335, 0, none⟩ = some (.bool ((rd_T44 l1 x41_2).f0)) := (blk_cell BK335.out 0).trans rfl
                 have hcz43_1 : wc.cell? ⟨gb335, 1, none⟩ = some (.slice A334_1 ((rd_T44 l1 x41_2).f1).length c334_1) := (blk_cell BK335.out 1).trans rfl
                 have hfz43_0 := blk_frozen BK335.out 0
                 have hfz43_1 := blk_frozen BK335.out 1
                 have p341 : 0 ≤ (0 : Int) := (by omega)
                 have q341 : 0 < (((rd_T44 l1 x41_2).f1).length : Int) := of_decide_eq_true (by first | (with_reducible assumption) | assumption)
                 obtain ⟨ad341, e341, hx341_0, hx341_1, hx341_2, hx341_3, hx341_4⟩ := at_T24 HR334_1.out 0 p341 q341
                 cases e341
                 have qi341 : (0 < ((rd_T44 l1 x41_2).f1).length) = True := eq_true (by omega)
                 (try rw [show ((0 : Int)).toNat = 0 from rfl] at hx341_0)
                 (try rw [show 0 * 5 = 0 from rfl] at hx341_0)
                 (try rw [Addr.add_zero'] at hx341_0)
                 (try rw [show ((0 : Int)).toNat = 0 from rfl] at hx341_1)
                 (try rw [show 0 * 5 = 0 from rfl] at hx341_1)
                 (try rw [Addr.add_zero'] at hx341_1)
                 (try rw [show ((0 : Int)).toNat = 0 from rfl] at hx341_2)
                 (try rw [show 0 * 5 = 0 from rfl] at hx341_2)
                 (try rw [Addr.add_zero'] at hx341_2)
                 (try rw [show ((0 : Int)).toNat = 0 from rfl] at hx341_3)
                 (try rw [show 0 * 5 = 0 from rfl] at hx341_3)
                 (try rw [Addr.add_zero'] at hx341_3)
                 (try rw [show ((0 : Int)).toNat = 0 from rfl] at hx341_4)
                 (try rw [show 0 * 5 = 0 from rfl] at hx341_4)
                 (try rw [Addr.add_zero'] at hx341_4)
                 replace hx341_0 := (HB.out.cell (World.block_lt_of_cell? w _ hx341_0)).trans hx341_0
                 replace hx341_1 := (HB.out.cell (World.block_lt_of_cell? w _ hx341_1)).trans hx341_1
                 replace hx341_2 := (HB.out.cell (World.block_lt_of_cell? w _ hx341_2)).trans hx341_2
                 replace hx341_3 := (HB.out.cell (World.block_lt_of_cell? w _ hx341_3)).trans hx341_3
                 replace hx341_4 := (HB.out.cell (World.block_lt_of_cell? w _ hx341_4)).trans hx341_4
                 replace p341 := eq_true p341
                 replace q341 := eq_true q341
                 try (have q341z := q341; simp only [ByteArray.size_extract, Nat.min_self] at q341z)
                 go_wp2_with (first | ((with_reducible refine gate_dst (N := 11) rfl ?_); (try (refine gate_guard (by rfl) ?_; dsimp only)); refine box_event ?hg (N := 11) ?hd (cs := #[.int .i64 0, .int .i64 0, .string (⟨#[]⟩ : ByteArray), .bool false, .int .i64 0]) (t := 24) ?hr ?_; (case hd => rfl); (case hg => rfl); (case hr => first | (go_simp; done) | (go_simp; rfl)); intro gb342 hg w44 hbox hb; have n0_ := Aside0.mk (Kd.R_below (Kd.R_elderB (by (with_reducible repeat (first | apply Kd.R_alloc | apply Kd.R_drewN | apply Kd.R_drew)); exact HO_8.out) gb342 (Nat.le_of_eq hg.symm)) hb); have n1_ := Aside0.mk (blk_below (g := gb310) (o := .cells #[.int .i64 x311000_2, .int .i64 x311001_2, .string x311002_2, .bool x311003_2, .int .i64 x311004_2] 24 (0, 0)) (by (with_reducible repeat (first | refine blk_drewN ?_ _ | refine blk_drew ?_ | refine blk_alloc ?_ _)); exact BK310.out) hb); have n2_ := Aside0.mk (blk_below (g := gb335) (o := .cells #[.bool ((rd_T44 l1 x41_2).f0), .slice (some ad341) ((rd_T44 l1 x41_2).f1).length c334_1] 44 (0, 0)) (by (with_reducible repeat (first | refine blk_drewN ?_ _ | refine blk_drew ?_ | refine blk_alloc ?_ _)); exact BK335.out) hb); have n3_ := Aside0.mk (below_step (by repeat (first | (with_reducible first | exact HB.out | apply bA | apply bN | apply bD | refine below_set ?_ GE310.out | refine below_set ?_ GE335.out) | exact HB.out)) hb); have n4_ := Aside0.mk (hbox); have n5_ := Aside0.mk ((by rw [hg]; exact (below_size (by repeat (first | (with_reducible first | exact HB.out | apply bA | apply bN | apply bD | refine below_set ?_ GE310.out | refine below_set ?_ GE335.out) | exact HB.out))) : w.heap.size ≤ gb342)); have n6_ := Aside0.mk ((by rw [hg]; exact (below_size (by repeat (first | (with_reducible first | exact HB.out | apply bA | apply bN | apply bD | refine below_set ?_ GE310.out | refine below_set ?_ GE335.out) | exact HB.out))) : w.heap.size ≤ gb342)); have n7_ := Aside0.mk ((by rw [hg]; exact Nat.ne_of_lt (blk_lt (g := gb310) (o := .cells #[.int .i64 x311000_2, .int .i64 x311001_2, .string x311002_2, .bool x311003_2, .int .i64 x311004_2] 24 (0, 0)) (by (with_reducible repeat (first | refine blk_drewN ?_ _ | refine blk_drew ?_ | refine blk_alloc ?_ _)); exact BK310.out)) : gb310 ≠ gb342)); have n8_ := Aside0.mk ((by rw [hg]; exact Nat.ne_of_gt (blk_lt (g := gb310) (o := .cells #[.int .i64 x311000_2, .int .i64 x311001_2, .string x311002_2, .bool x311003_2, .int .i64 x311004_2] 24 (0, 0)) (by (with_reducible repeat (first | refine blk_drewN ?_ _ | refine blk_drew ?_ | refine blk_alloc ?_ _)); exact BK310.out)) : gb342 ≠ gb310)); have n9_ := Aside0.mk ((by rw [hg]; exact Nat.ne_of_lt (blk_lt (g := gb335) (o := .cells #[.bool ((rd_T44 l1 x41_2).f0), .slice (some ad341) ((rd_T44 l1 x41_2).f1).length c334_1] 44 (0, 0)) (by (with_reducible repeat (first | refine blk_drewN ?_ _ | refine blk_drew ?_ | refine blk_alloc ?_ _)); exact BK335.out)) : gb335 ≠ gb342)); have n10_ := Aside0.mk ((by rw [hg]; exact Nat.ne_of_gt (blk_lt (g := gb335) (o := .cells #[.bool ((rd_T44 l1 x41_2).f0), .slice (some ad341) ((rd_T44 l1 x41_2).f1).length c334_1] 44 (0, 0)) (by (with_reducible repeat (first | refine blk_drewN ?_ _ | refine blk_drew ?_ | refine blk_alloc ?_ _)); exact BK335.out)) : gb342 ≠ gb335)); clear HO_8; clear BK310; clear BK335; clear HB; have HO_8 := n0_; have BK310 := n1_; have BK335 := n2_; have HB := n3_; have BK342 := n4_; have GW342 := n5_; have GE342 := n6_; have NB310_342 := n7_; have NB342_310 := n8_; have NB335_342 := n9_; have NB342_335 := n10_; clear n0_ n1_ n2_ n3_ n4_ n5_ n6_ n7_ n8_ n9_ n10_; clear hb hbox hg; have hnb45 := NB342_310.out; have hnc45 := NB310_342.out; have hnb46 := NB342_335.out; have hnc46 := NB335_342.out; obtain ⟨hcz47_0, hcz47_1, hcz47_2, hcz47_3, hcz47_4, hfz47_0, hfz47_1, hfz47_2, hfz47_3, hfz47_4⟩ := five BK342.out) | ((with_reducible refine gate_callee (f := 23) rfl ?_); refine goesL_ (some 59) rfl rfl Tryz.func23 (by kernel_rfl) rfl #[.agg #[.int .i64 ((rd_T24 ((rd_T44 l1 x41_2).f1) 0).f0), .int .i64 ((rd_T24 ((rd_T44 l1 x41_2).f1) 0).f1), .string ((rd_T24 ((rd_T44 l1 x41_2).f1) 0).f2), .bool ((rd_T24 ((rd_T44 l1 x41_2).f1) 0).f3), .int .i64 ((rd_T24 ((rd_T44 l1 x41_2).f1) 0).f4)]] rfl (by (try simp only [List.map_toArray, List.map_cons, List.map_nil]); first | done | rfl) ?_; (with_reducible refine (value_May.calls (hL := ⟨by first | exact hL.out | (refine hL.out.drawn ?_; (repeat (first | exact Drawn0.refl _ | apply Drawn0.step)); done) | (refine hL.out.below ?_; (repeat (first | (with_reducible first | exact HB.out | apply bA | apply bN | apply bD | refine below_set ?_ GE310.out | refine below_set ?_ GE335.out | refine below_set ?_ GE342.out) | exact HB.out)); done)⟩) ((rd_T24 ((rd_T44 l1 x41_2).f1) 0).f0) ((rd_T24 ((rd_T44 l1 x41_2).f1) 0).f1) ((rd_T24 ((rd_T44 l1 x41_2).f1) 0).f2) ((rd_T24 ((rd_T44 l1 x41_2).f1) 0).f3) ((rd_T24 ((rd_T44 l1 x41_2).f1) 0).f4) true _ A39.out).mono ?_); rintro e w48 ⟨rfl, hb⟩; refine ⟨_, rfl, ?_⟩; have n0_ := Aside0.mk (Kd.R_below (by (with_reducible repeat (first | apply Kd.R_alloc | apply Kd.R_drewN | apply Kd.R_drew)); exact (Kd.R_mono (Kd.R_far (p := ⟨gb342, 4, none⟩) (Kd.R_far (p := ⟨gb342, 3, none⟩) (Kd.R_far (p := ⟨gb342, 2, none⟩) (Kd.R_far (p := ⟨gb342, 1, none⟩) (Kd.R_far (p := ⟨gb342, 0, none⟩) (Kd.R_mono HO_8.out (fun k_ hk => (⟨hk, hk.2⟩ : _ ∧ k_ ≠ gb342))) (fun _ hk => hk.2) (.int .i64 ((rd_T24 ((rd_T44 l1 x41_2).f1) 0).f0))) (fun _ hk => hk.2) (.int .i64 ((rd_T24 ((rd_T44 l1 x41_2).f1) 0).f1))) (fun _ hk => hk.2) (.string ((rd_T24 ((rd_T44 l1 x41_2).f1) 0).f2))) (fun _ hk => hk.2) (.bool ((rd_T24 ((rd_T44 l1 x41_2).f1) 0).f3))) (fun _ hk => hk.2) (.int .i64 ((rd_T24 ((rd_T44 l1 x41_2).f1) 0).f4))) (fun _ h_ => h_.1))) hb); have n1_ := Aside0.mk (blk_below (g := gb310) (o := .cells #[.int .i64 x311000_2, .int .i64 x311001_2, .string x311002_2, .bool x311003_2, .int .i64 x311004_2] 24 (0, 0)) (by (with_reducible repeat (first | refine blk_drewN ?_ _ | refine blk_drew ?_ | refine blk_alloc ?_ _)); refine blk_far ?_ NB310_342.out _; (with_reducible repeat (first | refine blk_drewN ?_ _ | refine blk_drew ?_ | refine blk_alloc ?_ _)); refine blk_far ?_ NB310_342.out _; (with_reducible repeat (first | refine blk_drewN ?_ _ | refine blk_drew ?_ | refine blk_alloc ?_ _)); refine blk_far ?_ NB310_342.out _; (with_reducible repeat (first | refine blk_drewN ?_ _ | refine blk_drew ?_ | refine blk_alloc ?_ _)); refine blk_far ?_ NB310_342.out _; (with_reducible repeat (first | refine blk_drewN ?_ _ | refine blk_drew ?_ | refine blk_alloc ?_ _)); refine blk_far ?_ NB310_342.out _; (with_reducible repeat (first | refine blk_drewN ?_ _ | refine blk_drew ?_ | refine blk_alloc ?_ _)); exact BK310.out) hb); have n2_ := Aside0.mk (blk_below (g := gb335) (o := .cells #[.bool ((rd_T44 l1 x41_2).f0), .slice (some ad341) ((rd_T44 l1 x41_2).f1).length c334_1] 44 (0, 0)) (by (with_reducible repeat (first | refine blk_drewN ?_ _ | refine blk_drew ?_ | refine blk_alloc ?_ _)); refine blk_far ?_ NB335_342.out _; (with_reducible repeat (first | refine blk_drewN ?_ _ | refine blk_drew ?_ | refine blk_alloc ?_ _)); refine blk_far ?_ NB335_342.out _; (with_reducible repeat (first | refine blk_drewN ?_ _ | refine blk_drew ?_ | refine blk_alloc ?_ _)); refine blk_far ?_ NB335_342.out _; (with_reducible repeat (first | refine blk_drewN ?_ _ | refine blk_drew ?_ | refine blk_alloc ?_ _)); refine blk_far ?_ NB335_342.out _; (with_reducible repeat (first | refine blk_drewN ?_ _ | refine blk_drew ?_ | refine blk_alloc ?_ _)); refine blk_far ?_ NB335_342.out _; (with_reducible repeat (first | refine blk_drewN ?_ _ | refine blk_drew ?_ | refine blk_alloc ?_ _)); exact BK335.out) hb); have n3_ := Aside0.mk (blk_below (g := gb342) (o := .cells #[.int .i64 ((rd_T24 ((rd_T44 l1 x41_2).f1) 0).f0), .int .i64 ((rd_T24 ((rd_T44 l1 x41_2).f1) 0).f1), .string ((rd_T24 ((rd_T44 l1 x41_2).f1) 0).f2), .bool ((rd_T24 ((rd_T44 l1 x41_2).f1) 0).f3), .int .i64 ((rd_T24 ((rd_T44 l1 x41_2).f1) 0).f4)] 24 (0, 0)) (by (with_reducible repeat (first | refine blk_drewN ?_ _ | refine blk_drew ?_ | refine blk_alloc ?_ _)); refine blk_put (cs := #[.int .i64 ((rd_T24 ((rd_T44 l1 x41_2).f1) 0).f0), .int .i64 ((rd_T24 ((rd_T44 l1 x41_2).f1) 0).f1), .string ((rd_T24 ((rd_T44 l1 x41_2).f1) 0).f2), .bool ((rd_T24 ((rd_T44 l1 x41_2).f1) 0).f3), .int .i64 0]) ?_ 4 _ rfl; (with_reducible repeat (first | refine blk_drewN ?_ _ | refine blk_drew ?_ | refine blk_alloc ?_ _)); refine blk_put (cs := #[.int .i64 ((rd_T24 ((rd_T44 l1 x41_2).f1) 0).f0), .int .i64 ((rd_T24 ((rd_T44 l1 x41_2).f1) 0).f1), .string ((rd_T24 ((rd_T44 l1 x41_2).f1) 0).f2), .bool false, .int .i64 0]) ?_ 3 _ rfl; (with_reducible repeat (first | refine blk_drewN ?_ _ | refine blk_drew ?_ | refine blk_alloc ?_ _)); refine blk_put (cs := #[.int .i64 ((rd_T24 ((rd_T44 l1 x41_2).f1) 0).f0), .int .i64 ((rd_T24 ((rd_T44 l1 x41_2).f1) 0).f1), .string (⟨#[]⟩ : ByteArray), .bool false, .int .i64 0]) ?_ 2 _ rfl; (with_reducible repeat (first | refine blk_drewN ?_ _ | refine blk_drew ?_ | refine blk_alloc ?_ _)); refine blk_put (cs := #[.int .i64 ((rd_T24 ((rd_T44 l1 x41_2).f1) 0).f0), .int .i64 0, .string (⟨#[]⟩ : ByteArray), .bool false, .int .i64 0]) ?_ 1 _ rfl; (with_reducible repeat (first | refine blk_drewN ?_ _ | refine blk_drew ?_ | refine blk_alloc ?_ _)); refine blk_put (cs := #[.int .i64 0, .int .i64 0, .string (⟨#[]⟩ : ByteArray), .bool false, .int .i64 0]) ?_ 0 _ rfl; (with_reducible repeat (first | refine blk_drewN ?_ _ | refine blk_drew ?_ | refine blk_alloc ?_ _)); exact BK342.out) hb); have n4_ := Aside0.mk (below_step (by repeat (first | (with_reducible first | exact HB.out | apply bA | apply bN | apply bD | refine below_set ?_ GE310.out | refine below_set ?_ GE335.out | refine below_set ?_ GE342.out) | exact HB.out)) hb); clear HO_8; clear BK310; clear BK335; clear BK342; clear HB; have HO_8 := n0_; have BK310 := n1_; have BK335 := n2_; have BK342 := n3_; have HB := n4_; clear n0_ n1_ n2_ n3_ n4_; (try clear hb); (try clear hb2); (try clear hk); (try clear hi); obtain ⟨hcz49_0, hcz49_1, hcz49_2, hcz49_3, hcz49_4, hfz49_0, hfz49_1, hfz49_2, hfz49_3, hfz49_4⟩ := five BK342.out) | ((with_reducible refine gate_builtin (b := .append) (xs := #[.tmp 62, .tmp 64]) rfl ?_); (try (refine gate_guard (by rfl) ?_; dsimp only)); at_builtin; refine Kd.R_append k24 (w0 := w) w.heap.size rfl (.tmp 62) (.tmp 64) 38 24 (.agg #[(.int .i64 0), (.int .i64 0), (.string ⟨#[]⟩), (.bool false), (.int .i64 0)]) 48 rfl Tryz.underlying38 info24 rfl (by decide) (by omega) u8 x8_2 (⟨(rd_T24 ((rd_T44 l1 x41_2).f1) 0).f0, (rd_T24 ((rd_T44 l1 x41_2).f1) 0).f1, (rd_T24 ((rd_T44 l1 x41_2).f1) 0).f2, (rd_T24 ((rd_T44 l1 x41_2).f1) 0).f3, (rd_T24 ((rd_T44 l1 x41_2).f1) 0).f4⟩ : S24) [.int .i64 ((rd_T24 ((rd_T44 l1 x41_2).f1) 0).f0), .int .i64 ((rd_T24 ((rd_T44 l1 x41_2).f1) 0).f1), .string ((rd_T24 ((rd_T44 l1 x41_2).f1) 0).f2), .bool ((rd_T24 ((rd_T44 l1 x41_2).f1) 0).f3), .int .i64 ((rd_T24 ((rd_T44 l1 x41_2).f1) 0).f4)] (fun k_ => k_ ≠ gb310 ∧ k_ ≠ gb342) (fun _ => False) rfl rfl ?aP (fun _ hk => hk.elim) ?aF ?aO ?aB ?aS ?aL ?_; (case aP => exact k24_mkM _ _ _ (⟨(rd_T24 ((rd_T44 l1 x41_2).f1) 0).f0, (rd_T24 ((rd_T44 l1 x41_2).f1) 0).f1, (rd_T24 ((rd_T44 l1 x41_2).f1) 0).f2, (rd_T24 ((rd_T44 l1 x41_2).f1) 0).f3, (rd_T24 ((rd_T44 l1 x41_2).f1) 0).f4⟩ : S24)); (case aB => exact (by repeat (first | (with_reducible first | exact HB.out | apply bA | apply bN | apply bD | refine below_set ?_ GE310.out | refine below_set ?_ GE335.out | refine below_set ?_ GE342.out) | exact HB.out))); (case aF => exact (fun k_ hk => ⟨Kd.freshB (g := gb310) (o := .cells #[.int .i64 x311000_2, .int .i64 x311001_2, .string x311002_2, .bool x311003_2, .int .i64 x311004_2] 24 (0, 0)) (by (with_reducible repeat (first | refine blk_drewN ?_ _ | refine blk_drew ?_ | refine blk_alloc ?_ _)); exact BK310.out) k_ hk, Kd.freshB (g := gb342) (o := .cells #[.int .i64 ((rd_T24 ((rd_T44 l1 x41_2).f1) 0).f0), .int .i64 ((rd_T24 ((rd_T44 l1 x41_2).f1) 0).f1), .string ((rd_T24 ((rd_T44 l1 x41_2).f1) 0).f2), .bool ((rd_T24 ((rd_T44 l1 x41_2).f1) 0).f3), .int .i64 ((rd_T24 ((rd_T44 l1 x41_2).f1) 0).f4)] 24 (0, 0)) (by (with_reducible repeat (first | refine blk_drewN ?_ _ | refine blk_drew ?_ | refine blk_alloc ?_ _)); exact BK342.out) k_ hk⟩)); (case aO => exact (by (with_reducible repeat (first | apply Kd.R_alloc | apply Kd.R_drewN | apply Kd.R_drew)); exact HO_8.out)); (case aS => exact (below_size (by repeat (first | (with_reducible first | exact HB.out | apply bA | apply bN | apply bD | refine below_set ?_ GE310.out | refine below_set ?_ GE335.out | refine below_set ?_ GE342.out) | exact HB.out)))); (case aL => have := LMc41.out; omega); intro v345 w50 ho hb hg hat; rw [← Ny344.out] at ho; have n0_ := Aside0.mk (blk_grown (g := gb310) (o := .cells #[.int .i64 x311000_2, .int .i64 x311001_2, .string x311002_2, .bool x311003_2, .int .i64 x311004_2] 24 (0, 0)) (by (with_reducible repeat (first | refine blk_drewN ?_ _ | refine blk_drew ?_ | refine blk_alloc ?_ _)); exact BK310.out) hg (Kd.R_away HO_8.out (fun _ hk => hk.1))); have n1_ := Aside0.mk (blk_grown (g := gb335) (o := .cells #[.bool ((rd_T44 l1 x41_2).f0), .slice (some ad341) ((rd_T44 l1 x41_2).f1).length c334_1] 44 (0, 0)) (by (with_reducible repeat (first | refine blk_drewN ?_ _ | refine blk_drew ?_ | refine blk_alloc ?_ _)); exact BK335.out) hg (Kd.R_ne HO_8.out BK335.out (by decide))); have n2_ := Aside0.mk (blk_grown (g := gb342) (o := .cells #[.int .i64 ((rd_T24 ((rd_T44 l1 x41_2).f1) 0).f0), .int .i64 ((rd_T24 ((rd_T44 l1 x41_2).f1) 0).f1), .string ((rd_T24 ((rd_T44 l1 x41_2).f1) 0).f2), .bool ((rd_T24 ((rd_T44 l1 x41_2).f1) 0).f3), .int .i64 ((rd_T24 ((rd_T44 l1 x41_2).f1) 0).f4)] 24 (0, 0)) (by (with_reducible repeat (first | refine blk_drewN ?_ _ | refine blk_drew ?_ | refine blk_alloc ?_ _)); exact BK342.out) hg (Kd.R_away HO_8.out (fun _ hk => hk.2))); have n3_ := Aside0.mk (hb); have n4_ := Aside0.mk (ho); clear BK310; clear BK335; clear BK342; clear HB; clear HO_8; have BK310 := n0_; have BK335 := n1_; have BK342 := n2_; have HB := n3_; have HO346 := n4_; clear n0_ n1_ n2_ n3_ n4_; clear ho hb hg hat))
                 go_roundg kj22
                 case measure => have := HJ8.out; have := HK2.out; have := HJ22.out; omega
                 case rel => exact ⟨(y344), (wrap64 (x41_2 + 1)), (x311000_2), (x311001_2), (x311002_2), (x311003_2), (x311004_2), (by first | rfl | (simp; done) | (simp [*]; done)), H', ⟨by have := HJ8.out; have := HK2.out; have := HJ22.out; omega⟩, ⟨by (with_reducible repeat (first | apply Kd.R_alloc | apply Kd.R_drewN | apply Kd.R_drew)); exact Kd.R_mono HO346.out (fun _ hk => hk.1)⟩, ⟨by (with_reducible repeat (first | refine blk_drewN ?_ _ | refine blk_drew ?_ | refine blk_alloc ?_ _)); exact BK310.out⟩, ⟨by repeat (first | (with_reducible first | exact HB.out | apply bA | apply bN | apply bD | refine below_set ?_ GE310.out | refine below_set ?_ GE335.out | refine below_set ?_ GE342.out) | exact HB.out)⟩⟩
                ·rw [if_neg c41] at H
                 exact absurd H (by simp)
               ·replace c40 := Bool.eq_false_iff.mpr c40
                subst c40
                have H1 : ((builtin_failed.f 5).bind fun bt347 => (if x8_2.length < 2932031007402 then (builtin_Call.l0 kj22 a0 (x8_2 ++ [(⟨bt347.1, bt347.2.1, bt347.2.2.1, bt347.2.2.2.1, bt347.2.2.2.2⟩ : S24)]) l1 (l1.length : Int) (wrap64 (x41_2 + 1))) else (none))) = some (r1, r2, r3, r4, r5) := by rw [if_neg (show ¬ (false = true) by decide)] at H; exact H
                clear H
                have H := H1
                clear H1
                replace H := Option.bind_eq_some_iff.mp H
                obtain ⟨⟨t347, t348, t349, t350, t351⟩, A510, H⟩ := H
                replace H : (if x8_2.length < 2932031007402 then (builtin_Call.l0 kj22 a0 (x8_2 ++ [(⟨t347, t348, t349, t350, t351⟩ : S24)]) l1 (l1.length : Int) (wrap64 (x41_2 + 1))) else (none)) = some (r1, r2, r3, r4, r5) := H
                have A51 := Aside0.mk A510
                clear A510
                by_cases c52 : x8_2.length < 2932031007402
                ·rw [if_pos c52] at H
                 have LMc52 := Aside0.mk c52
                 clear c52
                 obtain ⟨y352, hy352⟩ : ∃ y_ : List (S24), y_ = (x8_2 ++ [(⟨t347, t348, t349, t350, t351⟩ : S24)]) := ⟨_, rfl⟩
                 replace H : (builtin_Call.l0 kj22 a0 y352 l1 (l1.length : Int) (wrap64 (x41_2 + 1))) = some (r1, r2, r3, r4, r5) := by first | (rw [hy352]; with_reducible exact H) | (have H2_ := (Option.bind_some _ _).symm.trans H; rw [hy352]; with_reducible exact H2_) | (have H2_ := (Option.bind_some _ _).symm.trans H; with_reducible exact H2_) | with_reducible exact H | (rw [hy352]; exact H) | exact H
                 have Ny352 := Aside0.mk hy352
                 clear hy352
                 have H' := Aside0.mk H
                 clear H
                 have hnb53 := NB335_310.out
                 have hnc53 := NB310_335.out
                 have hcz54_0 : wc.cell? ⟨gb335, 0, none⟩ = some (.bool ((rd_T44 l1 x41_2).f0)) := (blk_cell BK335.out 0).trans rfl
                 have hcz54_1 : wc.cell? ⟨gb335, 1, none⟩ = some (.slice A334_1 ((rd_T44 l1 x41_2).f1).length c334_1) := (blk_cell BK335.out 1).trans rfl
                 have hfz54_0 := blk_frozen BK335.out 0
                 have hfz54_1 := blk_frozen BK335.out 1
                 have p341 : 0 ≤ (0 : Int) := (by omega)
                 have q341 : 0 < (((rd_T44 l1 x41_2).f1).length : Int) := of_decide_eq_true (by first | (with_reducible assumption) | assumption)
                 obtain ⟨ad341, e341, hx341_0, hx341_1, hx341_2, hx341_3, hx341_4⟩ := at_T24 HR334_1.out 0 p341 q341
                 cases e341
                 have qi341 : (0 < ((rd_T44 l1 x41_2).f1).length) = True := eq_true (by omega)
                 (try rw [show ((0 : Int)).toNat = 0 from rfl] at hx341_0)
                 (try rw [show 0 * 5 = 0 from rfl] at hx341_0)
                 (try rw [Addr.add_zero'] at hx341_0)
                 (try rw [show ((0 : Int)).toNat = 0 from rfl] at hx341_1)
                 (try rw [show 0 * 5 = 0 from rfl] at hx341_1)
                 (try rw [Addr.add_zero'] at hx341_1)
                 (try rw [show ((0 : Int)).toNat = 0 from rfl] at hx341_2)
                 (try rw [show 0 * 5 = 0 from rfl] at hx341_2)
                 (try rw [Addr.add_zero'] at hx341_2)
                 (try rw [show ((0 : Int)).toNat = 0 from rfl] at hx341_3)
                 (try rw [show 0 * 5 = 0 from rfl] at hx341_3)
                 (try rw [Addr.add_zero'] at hx341_3)
                 (try rw [show ((0 : Int)).toNat = 0 from rfl] at hx341_4)
                 (try rw [show 0 * 5 = 0 from rfl] at hx341_4)
                 (try rw [Addr.add_zero'] at hx341_4)
                 replace hx341_0 := (HB.out.cell (World.block_lt_of_cell? w _ hx341_0)).trans hx341_0
                 replace hx341_1 := (HB.out.cell (World.block_lt_of_cell? w _ hx341_1)).trans hx341_1
                 replace hx341_2 := (HB.out.cell (World.block_lt_of_cell? w _ hx341_2)).trans hx341_2
                 replace hx341_3 := (HB.out.cell (World.block_lt_of_cell? w _ hx341_3)).trans hx341_3
                 replace hx341_4 := (HB.out.cell (World.block_lt_of_cell? w _ hx341_4)).trans hx341_4
                 replace p341 := eq_true p341
                 replace q341 := eq_true q341
                 try (have q341z := q341; simp only [ByteArray.size_extract, Nat.min_self] at q341z)
                 go_wp2_with (first | ((with_reducible refine gate_dst (N := 11) rfl ?_); (try (refine gate_guard (by rfl) ?_; dsimp only)); refine box_event ?hg (N := 11) ?hd (cs := #[.int .i64 0, .int .i64 0, .string (⟨#[]⟩ : ByteArray), .bool false, .int .i64 0]) (t := 24) ?hr ?_; (case hd => rfl); (case hg => rfl); (case hr => first | (go_simp; done) | (go_simp; rfl)); intro gb342 hg w55 hbox hb; have n0_ := Aside0.mk (Kd.R_below (Kd.R_elderB (by (with_reducible repeat (first | apply Kd.R_alloc | apply Kd.R_drewN | apply Kd.R_drew)); exact HO_8.out) gb342 (Nat.le_of_eq hg.symm)) hb); have n1_ := Aside0.mk (blk_below (g := gb310) (o := .cells #[.int .i64 x311000_2, .int .i64 x311001_2, .string x311002_2, .bool x311003_2, .int .i64 x311004_2] 24 (0, 0)) (by (with_reducible repeat (first | refine blk_drewN ?_ _ | refine blk_drew ?_ | refine blk_alloc ?_ _)); exact BK310.out) hb); have n2_ := Aside0.mk (blk_below (g := gb335) (o := .cells #[.bool ((rd_T44 l1 x41_2).f0), .slice (some ad341) ((rd_T44 l1 x41_2).f1).length c334_1] 44 (0, 0)) (by (with_reducible repeat (first | refine blk_drewN ?_ _ | refine blk_drew ?_ | refine blk_alloc ?_ _)); exact BK335.out) hb); have n3_ := Aside0.mk (below_step (by repeat (first | (with_reducible first | exact HB.out | apply bA | apply bN | apply bD | refine below_set ?_ GE310.out | refine below_set ?_ GE335.out) | exact HB.out)) hb); have n4_ := Aside0.mk (hbox); have n5_ := Aside0.mk ((by rw [hg]; exact (below_size (by repeat (first | (with_reducible first | exact HB.out | apply bA | apply bN | apply bD | refine below_set ?_ GE310.out | refine below_set ?_ GE335.out) | exact HB.out))) : w.heap.size ≤ gb342)); have n6_ := Aside0.mk ((by rw [hg]; exact (below_size (by repeat (first | (with_reducible first | exact HB.out | apply bA | apply bN | apply bD | refine below_set ?_ GE310.out | refine below_set ?_ GE335.out) | exact HB.out))) : w.heap.size ≤ gb342)); have n7_ := Aside0.mk ((by rw [hg]; exact Nat.ne_of_lt (blk_lt (g := gb310) (o := .cells #[.int .i64 x311000_2, .int .i64 x311001_2, .string x311002_2, .bool x311003_2, .int .i64 x311004_2] 24 (0, 0)) (by (with_reducible repeat (first | refine blk_drewN ?_ _ | refine blk_drew ?_ | refine blk_alloc ?_ _)); exact BK310.out)) : gb310 ≠ gb342)); have n8_ := Aside0.mk ((by rw [hg]; exact Nat.ne_of_gt (blk_lt (g := gb310) (o := .cells #[.int .i64 x311000_2, .int .i64 x311001_2, .string x311002_2, .bool x311003_2, .int .i64 x311004_2] 24 (0, 0)) (by (with_reducible repeat (first | refine blk_drewN ?_ _ | refine blk_drew ?_ | refine blk_alloc ?_ _)); exact BK310.out)) : gb342 ≠ gb310)); have n9_ := Aside0.mk ((by rw [hg]; exact Nat.ne_of_lt (blk_lt (g := gb335) (o := .cells #[.bool ((rd_T44 l1 x41_2).f0), .slice (some ad341) ((rd_T44 l1 x41_2).f1).length c334_1] 44 (0, 0)) (by (with_reducible repeat (first | refine blk_drewN ?_ _ | refine blk_drew ?_ | refine blk_alloc ?_ _)); exact BK335.out)) : gb335 ≠ gb342)); have n10_ := Aside0.mk ((by rw [hg]; exact Nat.ne_of_gt (blk_lt (g := gb335) (o := .cells #[.bool ((rd_T44 l1 x41_2).f0), .slice (some ad341) ((rd_T44 l1 x41_2).f1).length c334_1] 44 (0, 0)) (by (with_reducible repeat (first | refine blk_drewN ?_ _ | refine blk_drew ?_ | refine blk_alloc ?_ _)); exact BK335.out)) : gb342 ≠ gb335)); clear HO_8; clear BK310; clear BK335; clear HB; have HO_8 := n0_; have BK310 := n1_; have BK335 := n2_; have HB := n3_; have BK342 := n4_; have GW342 := n5_; have GE342 := n6_; have NB310_342 := n7_; have NB342_310 := n8_; have NB335_342 := n9_; have NB342_335 := n10_; clear n0_ n1_ n2_ n3_ n4_ n5_ n6_ n7_ n8_ n9_ n10_; clear hb hbox hg; have hnb56 := NB342_310.out; have hnc56 := NB310_342.out; have hnb57 := NB342_335.out; have hnc57 := NB335_342.out; obtain ⟨hcz58_0, hcz58_1, hcz58_2, hcz58_3, hcz58_4, hfz58_0, hfz58_1, hfz58_2, hfz58_3, hfz58_4⟩ := five BK342.out) | ((with_reducible refine gate_callee (f := 23) rfl ?_); refine goesL_ (some 59) rfl rfl Tryz.func23 (by kernel_rfl) rfl #[.agg #[.int .i64 ((rd_T24 ((rd_T44 l1 x41_2).f1) 0).f0), .int .i64 ((rd_T24 ((rd_T44 l1 x41_2).f1) 0).f1), .string ((rd_T24 ((rd_T44 l1 x41_2).f1) 0).f2), .bool ((rd_T24 ((rd_T44 l1 x41_2).f1) 0).f3), .int .i64 ((rd_T24 ((rd_T44 l1 x41_2).f1) 0).f4)]] rfl (by (try simp only [List.map_toArray, List.map_cons, List.map_nil]); first | done | rfl) ?_; (with_reducible refine (value_May.calls (hL := ⟨by first | exact hL.out | (refine hL.out.drawn ?_; (repeat (first | exact Drawn0.refl _ | apply Drawn0.step)); done) | (refine hL.out.below ?_; (repeat (first | (with_reducible first | exact HB.out | apply bA | apply bN | apply bD | refine below_set ?_ GE310.out | refine below_set ?_ GE335.out | refine below_set ?_ GE342.out) | exact HB.out)); done)⟩) ((rd_T24 ((rd_T44 l1 x41_2).f1) 0).f0) ((rd_T24 ((rd_T44 l1 x41_2).f1) 0).f1) ((rd_T24 ((rd_T44 l1 x41_2).f1) 0).f2) ((rd_T24 ((rd_T44 l1 x41_2).f1) 0).f3) ((rd_T24 ((rd_T44 l1 x41_2).f1) 0).f4) false _ A39.out).mono ?_); rintro e w59 ⟨rfl, hb⟩; refine ⟨_, rfl, ?_⟩; have n0_ := Aside0.mk (Kd.R_below (by (with_reducible repeat (first | apply Kd.R_alloc | apply Kd.R_drewN | apply Kd.R_drew)); exact (Kd.R_mono (Kd.R_far (p := ⟨gb342, 4, none⟩) (Kd.R_far (p := ⟨gb342, 3, none⟩) (Kd.R_far (p := ⟨gb342, 2, none⟩) (Kd.R_far (p := ⟨gb342, 1, none⟩) (Kd.R_far (p := ⟨gb342, 0, none⟩) (Kd.R_mono HO_8.out (fun k_ hk => (⟨hk, hk.2⟩ : _ ∧ k_ ≠ gb342))) (fun _ hk => hk.2) (.int .i64 ((rd_T24 ((rd_T44 l1 x41_2).f1) 0).f0))) (fun _ hk => hk.2) (.int .i64 ((rd_T24 ((rd_T44 l1 x41_2).f1) 0).f1))) (fun _ hk => hk.2) (.string ((rd_T24 ((rd_T44 l1 x41_2).f1) 0).f2))) (fun _ hk => hk.2) (.bool ((rd_T24 ((rd_T44 l1 x41_2).f1) 0).f3))) (fun _ hk => hk.2) (.int .i64 ((rd_T24 ((rd_T44 l1 x41_2).f1) 0).f4))) (fun _ h_ => h_.1))) hb); have n1_ := Aside0.mk (blk_below (g := gb310) (o := .cells #[.int .i64 x311000_2, .int .i64 x311001_2, .string x311002_2, .bool x311003_2, .int .i64 x311004_2] 24 (0, 0)) (by (with_reducible repeat (first | refine blk_drewN ?_ _ | refine blk_drew ?_ | refine blk_alloc ?_ _)); refine blk_far ?_ NB310_342.out _; (with_reducible repeat (first | refine blk_drewN ?_ _ | refine blk_drew ?_ | refine blk_alloc ?_ _)); refine blk_far ?_ NB310_342.out _; (with_reducible repeat (first | refine blk_drewN ?_ _ | refine blk_drew ?_ | refine blk_alloc ?_ _)); refine blk_far ?_ NB310_342.out _; (with_reducible repeat (first | refine blk_drewN ?_ _ | refine blk_drew ?_ | refine blk_alloc ?_ _)); refine blk_far ?_ NB310_342.out _; (with_reducible repeat (first | refine blk_drewN ?_ _ | refine blk_drew ?_ | refine blk_alloc ?_ _)); refine blk_far ?_ NB310_342.out _; (with_reducible repeat (first | refine blk_drewN ?_ _ | refine blk_drew ?_ | refine blk_alloc ?_ _)); exact BK310.out) hb); have n2_ := Aside0.mk (blk_below (g := gb335) (o := .cells #[.bool ((rd_T44 l1 x41_2).f0), .slice (some ad341) ((rd_T44 l1 x41_2).f1).length c334_1] 44 (0, 0)) (by (with_reducible repeat (first | refine blk_drewN ?_ _ | refine blk_drew ?_ | refine blk_alloc ?_ _)); refine blk_far ?_ NB335_342.out _; (with_reducible repeat (first | refine blk_drewN ?_ _ | refine blk_drew ?_ | refine blk_alloc ?_ _)); refine blk_far ?_ NB335_342.out _; (with_reducible repeat (first | refine blk_drewN ?_ _ | refine blk_drew ?_ | refine blk_alloc ?_ _)); refine blk_far ?_ NB335_342.out _; (with_reducible repeat (first | refine blk_drewN ?_ _ | refine blk_drew ?_ | refine blk_alloc ?_ _)); refine blk_far ?_ NB335_342.out _; (with_reducible repeat (first | refine blk_drewN ?_ _ | refine blk_drew ?_ | refine blk_alloc ?_ _)); refine blk_far ?_ NB335_342.out _; (with_reducible repeat (first | refine blk_drewN ?_ _ | refine blk_drew ?_ | refine blk_alloc ?_ _)); exact BK335.out) hb); have n3_ := Aside0.mk (blk_below (g := gb342) (o := .cells #[.int .i64 ((rd_T24 ((rd_T44 l1 x41_2).f1) 0).f0), .int .i64 ((rd_T24 ((rd_T44 l1 x41_2).f1) 0).f1), .string ((rd_T24 ((rd_T44 l1 x41_2).f1) 0).f2), .bool ((rd_T24 ((rd_T44 l1 x41_2).f1) 0).f3), .int .i64 ((rd_T24 ((rd_T44 l1 x41_2).f1) 0).f4)] 24 (0, 0)) (by (with_reducible repeat (first | refine blk_drewN ?_ _ | refine blk_drew ?_ | refine blk_alloc ?_ _)); refine blk_put (cs := #[.int .i64 ((rd_T24 ((rd_T44 l1 x41_2).f1) 0).f0), .int .i64 ((rd_T24 ((rd_T44 l1 x41_2).f1) 0).f1), .string ((rd_T24 ((rd_T44 l1 x41_2).f1) 0).f2), .bool ((rd_T24 ((rd_T44 l1 x41_2).f1) 0).f3), .int .i64 0]) ?_ 4 _ rfl; (with_reducible repeat (first | refine blk_drewN ?_ _ | refine blk_drew ?_ | refine blk_alloc ?_ _)); refine blk_put (cs := #[.int .i64 ((rd_T24 ((rd_T44 l1 x41_2).f1) 0).f0), .int .i64 ((rd_T24 ((rd_T44 l1 x41_2).f1) 0).f1), .string ((rd_T24 ((rd_T44 l1 x41_2).f1) 0).f2), .bool false, .int .i64 0]) ?_ 3 _ rfl; (with_reducible repeat (first | refine blk_drewN ?_ _ | refine blk_drew ?_ | refine blk_alloc ?_ _)); refine blk_put (cs := #[.int .i64 ((rd_T24 ((rd_T44 l1 x41_2).f1) 0).f0), .int .i64 ((rd_T24 ((rd_T44 l1 x41_2).f1) 0).f1), .string (⟨#[]⟩ : ByteArray), .bool false, .int .i64 0]) ?_ 2 _ rfl; (with_reducible repeat (first | refine blk_drewN ?_ _ | refine blk_drew ?_ | refine blk_alloc ?_ _)); refine blk_put (cs := #[.int .i64 ((rd_T24 ((rd_T44 l1 x41_2).f1) 0).f0), .int .i64 0, .string (⟨#[]⟩ : ByteArray), .bool false, .int .i64 0]) ?_ 1 _ rfl; (with_reducible repeat (first | refine blk_drewN ?_ _ | refine blk_drew ?_ | refine blk_alloc ?_ _)); refine blk_put (cs := #[.int .i64 0, .int .i64 0, .string (⟨#[]⟩ : ByteArray), .bool false, .int .i64 0]) ?_ 0 _ rfl; (with_reducible repeat (first | refine blk_drewN ?_ _ | refine blk_drew ?_ | refine blk_alloc ?_ _)); exact BK342.out) hb); have n4_ := Aside0.mk (below_step (by repeat (first | (with_reducible first | exact HB.out | apply bA | apply bN | apply bD | refine below_set ?_ GE310.out | refine below_set ?_ GE335.out | refine below_set ?_ GE342.out) | exact HB.out)) hb); clear HO_8; clear BK310; clear BK335; clear BK342; clear HB; have HO_8 := n0_; have BK310 := n1_; have BK335 := n2_; have BK342 := n3_; have HB := n4_; clear n0_ n1_ n2_ n3_ n4_; (try clear hb); (try clear hb2); (try clear hk); (try clear hi)) | ((with_reducible refine gate_callee (f := 54) rfl ?_); refine goesL_ (some 61) rfl rfl Tryz.func54 (by kernel_rfl) rfl #[.int .i64 5] rfl (by (try simp only [List.map_toArray, List.map_cons, List.map_nil]); first | done | rfl) ?_; (with_reducible refine (builtin_failed.calls 5 t347 t348 t349 t350 t351 _ A51.out).mono ?_); rintro e w60 ⟨rfl, hb⟩; refine ⟨_, rfl, ?_⟩; have n0_ := Aside0.mk (Kd.R_below (by (with_reducible repeat (first | apply Kd.R_alloc | apply Kd.R_drewN | apply Kd.R_drew)); exact HO_8.out) hb); have n1_ := Aside0.mk (blk_below (g := gb310) (o := .cells #[.int .i64 x311000_2, .int .i64 x311001_2, .string x311002_2, .bool x311003_2, .int .i64 x311004_2] 24 (0, 0)) (by (with_reducible repeat (first | refine blk_drewN ?_ _ | refine blk_drew ?_ | refine blk_alloc ?_ _)); exact BK310.out) hb); have n2_ := Aside0.mk (blk_below (g := gb335) (o := .cells #[.bool ((rd_T44 l1 x41_2).f0), .slice (some ad341) ((rd_T44 l1 x41_2).f1).length c334_1] 44 (0, 0)) (by (with_reducible repeat (first | refine blk_drewN ?_ _ | refine blk_drew ?_ | refine blk_alloc ?_ _)); exact BK335.out) hb); have n3_ := Aside0.mk (blk_below (g := gb342) (o := .cells #[.int .i64 ((rd_T24 ((rd_T44 l1 x41_2).f1) 0).f0), .int .i64 ((rd_T24 ((rd_T44 l1 x41_2).f1) 0).f1), .string ((rd_T24 ((rd_T44 l1 x41_2).f1) 0).f2), .bool ((rd_T24 ((rd_T44 l1 x41_2).f1) 0).f3), .int .i64 ((rd_T24 ((rd_T44 l1 x41_2).f1) 0).f4)] 24 (0, 0)) (by (with_reducible repeat (first | refine blk_drewN ?_ _ | refine blk_drew ?_ | refine blk_alloc ?_ _)); exact BK342.out) hb); have n4_ := Aside0.mk (below_step (by repeat (first | (with_reducible first | exact HB.out | apply bA | apply bN | apply bD | refine below_set ?_ GE310.out | refine below_set ?_ GE335.out | refine below_set ?_ GE342.out) | exact HB.out)) hb); clear HO_8; clear BK310; clear BK335; clear BK342; clear HB; have HO_8 := n0_; have BK310 := n1_; have BK335 := n2_; have BK342 := n3_; have HB := n4_; clear n0_ n1_ n2_ n3_ n4_; (try clear hb); (try clear hb2); (try clear hk); (try clear hi); obtain ⟨hcz61_0, hcz61_1, hcz61_2, hcz61_3, hcz61_4, hfz61_0, hfz61_1, hfz61_2, hfz61_3, hfz61_4⟩ := five BK342.out) | ((with_reducible refine gate_builtin (b := .append) (xs := #[.tmp 62, .tmp 64]) rfl ?_); (try (refine gate_guard (by rfl) ?_; dsimp only)); at_builtin; refine Kd.R_append k24 (w0 := w) w.heap.size rfl (.tmp 62) (.tmp 64) 38 24 (.agg #[(.int .i64 0), (.int .i64 0), (.string ⟨#[]⟩), (.bool false), (.int .i64 0)]) 48 rfl Tryz.underlying38 info24 rfl (by decide) (by omega) u8 x8_2 (⟨t347, t348, t349, t350, t351⟩ : S24) [.int .i64 t347, .int .i64 t348, .string t349, .bool t350, .int .i64 t351] (fun k_ => k_ ≠ gb310 ∧ k_ ≠ gb342) (fun _ => False) rfl (by first | (go_simp; done) | (go_simp; rfl)) ?aP (fun _ hk => hk.elim) ?aF ?aO ?aB ?aS ?aL ?_; (case aP => exact k24_mkM _ _ _ (⟨t347, t348, t349, t350, t351⟩ : S24)); (case aB => exact (by repeat (first | (with_reducible first | exact HB.out | apply bA | apply bN | apply bD | refine below_set ?_ GE310.out | refine below_set ?_ GE335.out | refine below_set ?_ GE342.out) | exact HB.out))); (case aF => exact (fun k_ hk => ⟨Kd.freshB (g := gb310) (o := .cells #[.int .i64 x311000_2, .int .i64 x311001_2, .string x311002_2, .bool x311003_2, .int .i64 x311004_2] 24 (0, 0)) (by (with_reducible repeat (first | refine blk_drewN ?_ _ | refine blk_drew ?_ | refine blk_alloc ?_ _)); refine blk_far ?_ NB310_342.out _; (with_reducible repeat (first | refine blk_drewN ?_ _ | refine blk_drew ?_ | refine blk_alloc ?_ _)); refine blk_far ?_ NB310_342.out _; (with_reducible repeat (first | refine blk_drewN ?_ _ | refine blk_drew ?_ | refine blk_alloc ?_ _)); refine blk_far ?_ NB310_342.out _; (with_reducible repeat (first | refine blk_drewN ?_ _ | refine blk_drew ?_ | refine blk_alloc ?_ _)); refine blk_far ?_ NB310_342.out _; (with_reducible repeat (first | refine blk_drewN ?_ _ | refine blk_drew ?_ | refine blk_alloc ?_ _)); refine blk_far ?_ NB310_342.out _; (with_reducible repeat (first | refine blk_drewN ?_ _ | refine blk_drew ?_ | refine blk_alloc ?_ _)); exact BK310.out) k_ hk, Kd.freshB (g := gb342) (o := .cells #[.int .i64 t347, .int .i64 t348, .string t349, .bool t350, .int .i64 t351] 24 (0, 0)) (by (with_reducible repeat (first | refine blk_drewN ?_ _ | refine blk_drew ?_ | refine blk_alloc ?_ _)); refine blk_put (cs := #[.int .i64 t347, .int .i64 t348, .string t349, .bool t350, .int .i64 ((rd_T24 ((rd_T44 l1 x41_2).f1) 0).f4)]) ?_ 4 _ rfl; (with_reducible repeat (first | refine blk_drewN ?_ _ | refine blk_drew ?_ | refine blk_alloc ?_ _)); refine blk_put (cs := #[.int .i64 t347, .int .i64 t348, .string t349, .bool ((rd_T24 ((rd_T44 l1 x41_2).f1) 0).f3), .int .i64 ((rd_T24 ((rd_T44 l1 x41_2).f1) 0).f4)]) ?_ 3 _ rfl; (with_reducible repeat (first | refine blk_drewN ?_ _ | refine blk_drew ?_ | refine blk_alloc ?_ _)); refine blk_put (cs := #[.int .i64 t347, .int .i64 t348, .string ((rd_T24 ((rd_T44 l1 x41_2).f1) 0).f2), .bool ((rd_T24 ((rd_T44 l1 x41_2).f1) 0).f3), .int .i64 ((rd_T24 ((rd_T44 l1 x41_2).f1) 0).f4)]) ?_ 2 _ rfl; (with_reducible repeat (first | refine blk_drewN ?_ _ | refine blk_drew ?_ | refine blk_alloc ?_ _)); refine blk_put (cs := #[.int .i64 t347, .int .i64 ((rd_T24 ((rd_T44 l1 x41_2).f1) 0).f1), .string ((rd_T24 ((rd_T44 l1 x41_2).f1) 0).f2), .bool ((rd_T24 ((rd_T44 l1 x41_2).f1) 0).f3), .int .i64 ((rd_T24 ((rd_T44 l1 x41_2).f1) 0).f4)]) ?_ 1 _ rfl; (with_reducible repeat (first | refine blk_drewN ?_ _ | refine blk_drew ?_ | refine blk_alloc ?_ _)); refine blk_put (cs := #[.int .i64 ((rd_T24 ((rd_T44 l1 x41_2).f1) 0).f0), .int .i64 ((rd_T24 ((rd_T44 l1 x41_2).f1) 0).f1), .string ((rd_T24 ((rd_T44 l1 x41_2).f1) 0).f2), .bool ((rd_T24 ((rd_T44 l1 x41_2).f1) 0).f3), .int .i64 ((rd_T24 ((rd_T44 l1 x41_2).f1) 0).f4)]) ?_ 0 _ rfl; (with_reducible repeat (first | refine blk_drewN ?_ _ | refine blk_drew ?_ | refine blk_alloc ?_ _)); exact BK342.out) k_ hk⟩)); (case aO => exact (by (with_reducible repeat (first | apply Kd.R_alloc | apply Kd.R_drewN | apply Kd.R_drew)); exact Kd.R_mono (Kd.R_far (p := ⟨gb342, 4, none⟩) (Kd.R_far (p := ⟨gb342, 3, none⟩) (Kd.R_far (p := ⟨gb342, 2, none⟩) (Kd.R_far (p := ⟨gb342, 1, none⟩) (Kd.R_far (p := ⟨gb342, 0, none⟩) (Kd.R_mono HO_8.out (fun k_ hk => (⟨hk, hk.2⟩ : _ ∧ k_ ≠ gb342))) (fun _ hk => hk.2) (.int .i64 t347)) (fun _ hk => hk.2) (.int .i64 t348)) (fun _ hk => hk.2) (.string t349)) (fun _ hk => hk.2) (.bool t350)) (fun _ hk => hk.2) (.int .i64 t351)) (fun _ hk => ⟨hk.1.1, hk.1.2⟩))); (case aS => exact (below_size (by repeat (first | (with_reducible first | exact HB.out | apply bA | apply bN | apply bD | refine below_set ?_ GE310.out | refine below_set ?_ GE335.out | refine below_set ?_ GE342.out) | exact HB.out)))); (case aL => have := LMc52.out; omega); intro v353 w62 ho hb hg hat; rw [← Ny352.out] at ho; have n0_ := Aside0.mk (blk_grown (g := gb310) (o := .cells #[.int .i64 x311000_2, .int .i64 x311001_2, .string x311002_2, .bool x311003_2, .int .i64 x311004_2] 24 (0, 0)) (by (with_reducible repeat (first | refine blk_drewN ?_ _ | refine blk_drew ?_ | refine blk_alloc ?_ _)); refine blk_far ?_ NB310_342.out _; (with_reducible repeat (first | refine blk_drewN ?_ _ | refine blk_drew ?_ | refine blk_alloc ?_ _)); refine blk_far ?_ NB310_342.out _; (with_reducible repeat (first | refine blk_drewN ?_ _ | refine blk_drew ?_ | refine blk_alloc ?_ _)); refine blk_far ?_ NB310_342.out _; (with_reducible repeat (first | refine blk_drewN ?_ _ | refine blk_drew ?_ | refine blk_alloc ?_ _)); refine blk_far ?_ NB310_342.out _; (with_reducible repeat (first | refine blk_drewN ?_ _ | refine blk_drew ?_ | refine blk_alloc ?_ _)); refine blk_far ?_ NB310_342.out _; (with_reducible repeat (first | refine blk_drewN ?_ _ | refine blk_drew ?_ | refine blk_alloc ?_ _)); exact BK310.out) hg (Kd.R_away HO_8.out (fun _ hk => hk.1))); have n1_ := Aside0.mk (blk_grown (g := gb335) (o := .cells #[.bool ((rd_T44 l1 x41_2).f0), .slice (some ad341) ((rd_T44 l1 x41_2).f1).length c334_1] 44 (0, 0)) (by (with_reducible repeat (first | refine blk_drewN ?_ _ | refine blk_drew ?_ | refine blk_alloc ?_ _)); refine blk_far ?_ NB335_342.out _; (with_reducible repeat (first | refine blk_drewN ?_ _ | refine blk_drew ?_ | refine blk_alloc ?_ _)); refine blk_far ?_ NB335_342.out _; (with_reducible repeat (first | refine blk_drewN ?_ _ | refine blk_drew ?_ | refine blk_alloc ?_ _)); refine blk_far ?_ NB335_342.out _; (with_reducible repeat (first | refine blk_drewN ?_ _ | refine blk_drew ?_ | refine blk_alloc ?_ _)); refine blk_far ?_ NB335_342.out _; (with_reducible repeat (first | refine blk_drewN ?_ _ | refine blk_drew ?_ | refine blk_alloc ?_ _)); refine blk_far ?_ NB335_342.out _; (with_reducible repeat (first | refine blk_drewN ?_ _ | refine blk_drew ?_ | refine blk_alloc ?_ _)); exact BK335.out) hg (Kd.R_ne HO_8.out BK335.out (by decide))); have n2_ := Aside0.mk (blk_grown (g := gb342) (o := .cells #[.int .i64 t347, .int .i64 t348, .string t349, .bool t350, .int .i64 t351] 24 (0, 0)) (by (with_reducible repeat (first | refine blk_drewN ?_ _ | refine blk_drew ?_ | refine blk_alloc ?_ _)); refine blk_put (cs := #[.int .i64 t347, .int .i64 t348, .string t349, .bool t350, .int .i64 ((rd_T24 ((rd_T44 l1 x41_2).f1) 0).f4)]) ?_ 4 _ rfl; (with_reducible repeat (first | refine blk_drewN ?_ _ | refine blk_drew ?_ | refine blk_alloc ?_ _)); refine blk_put (cs := #[.int .i64 t347, .int .i64 t348, .string t349, .bool ((rd_T24 ((rd_T44 l1 x41_2).f1) 0).f3), .int .i64 ((rd_T24 ((rd_T44 l1 x41_2).f1) 0).f4)]) ?_ 3 _ rfl; (with_reducible repeat (first | refine blk_drewN ?_ _ | refine blk_drew ?_ | refine blk_alloc ?_ _)); refine blk_put (cs := #[.int .i64 t347, .int .i64 t348, .string ((rd_T24 ((rd_T44 l1 x41_2).f1) 0).f2), .bool ((rd_T24 ((rd_T44 l1 x41_2).f1) 0).f3), .int .i64 ((rd_T24 ((rd_T44 l1 x41_2).f1) 0).f4)]) ?_ 2 _ rfl; (with_reducible repeat (first | refine blk_drewN ?_ _ | refine blk_drew ?_ | refine blk_alloc ?_ _)); refine blk_put (cs := #[.int .i64 t347, .int .i64 ((rd_T24 ((rd_T44 l1 x41_2).f1) 0).f1), .string ((rd_T24 ((rd_T44 l1 x41_2).f1) 0).f2), .bool ((rd_T24 ((rd_T44 l1 x41_2).f1) 0).f3), .int .i64 ((rd_T24 ((rd_T44 l1 x41_2).f1) 0).f4)]) ?_ 1 _ rfl; (with_reducible repeat (first | refine blk_drewN ?_ _ | refine blk_drew ?_ | refine blk_alloc ?_ _)); refine blk_put (cs := #[.int .i64 ((rd_T24 ((rd_T44 l1 x41_2).f1) 0).f0), .int .i64 ((rd_T24 ((rd_T44 l1 x41_2).f1) 0).f1), .string ((rd_T24 ((rd_T44 l1 x41_2).f1) 0).f2), .bool ((rd_T24 ((rd_T44 l1 x41_2).f1) 0).f3), .int .i64 ((rd_T24 ((rd_T44 l1 x41_2).f1) 0).f4)]) ?_ 0 _ rfl; (with_reducible repeat (first | refine blk_drewN ?_ _ | refine blk_drew ?_ | refine blk_alloc ?_ _)); exact BK342.out) hg (Kd.R_away HO_8.out (fun _ hk => hk.2))); have n3_ := Aside0.mk (hb); have n4_ := Aside0.mk (ho); clear BK310; clear BK335; clear BK342; clear HB; clear HO_8; have BK310 := n0_; have BK335 := n1_; have BK342 := n2_; have HB := n3_; have HO354 := n4_; clear n0_ n1_ n2_ n3_ n4_; clear ho hb hg hat))
                 go_roundg kj22
                 case measure => have := HJ8.out; have := HK2.out; have := HJ22.out; omega
                 case rel => exact ⟨(y352), (wrap64 (x41_2 + 1)), (x311000_2), (x311001_2), (x311002_2), (x311003_2), (x311004_2), (by first | rfl | (simp; done) | (simp [*]; done)), H', ⟨by have := HJ8.out; have := HK2.out; have := HJ22.out; omega⟩, ⟨by (with_reducible repeat (first | apply Kd.R_alloc | apply Kd.R_drewN | apply Kd.R_drew)); exact Kd.R_mono HO354.out (fun _ hk => hk.1)⟩, ⟨by (with_reducible repeat (first | refine blk_drewN ?_ _ | refine blk_drew ?_ | refine blk_alloc ?_ _)); exact BK310.out⟩, ⟨by repeat (first | (with_reducible first | exact HB.out | apply bA | apply bN | apply bD | refine below_set ?_ GE310.out | refine below_set ?_ GE335.out | refine below_set ?_ GE342.out) | exact HB.out)⟩⟩
                ·rw [if_neg c52] at H
                 exact absurd H (by simp)
              ·rw [if_neg c38] at H
               exact absurd H (by simp)
          ·rw [if_neg c22] at H
           exact absurd H (by simp)
         ·rw [if_neg c21] at H
          exact absurd H (by simp)
        ·rw [if_neg c20] at H
         have c20b0 : decide (x41_2 < (l1.length : Int)) = false := decide_eq_false c20
         clear c20
         replace H := Option.bind_eq_some_iff.mp H
         obtain ⟨⟨t329, t330, t331, t332, t333⟩, A630, H⟩ := H
         replace H : (some (t329, t330, t331, t332, t333)) = some (r1, r2, r3, r4, r5) := H
         have A63 := Aside0.mk A630
         clear A630
         simp only [Option.some.injEq, Prod.mk.injEq] at H
         obtain ⟨rfl, rfl, rfl, rfl, rfl⟩ := H
         obtain ⟨Ao64, co64, eo64⟩ := Kd.R_slice HO_8.out
         subst eo64
         go_wp2_with (first | ((with_reducible refine gate_callee (f := 56) rfl ?_); refine goesL_ (some 69) rfl rfl Tryz.func56 (by kernel_rfl) rfl #[.string a0, .slice Ao64 x8_2.length co64] rfl (by (try simp only [List.map_toArray, List.map_cons, List.map_nil]); first | done | rfl) ?_; (with_reducible refine (builtin_single.calls (hL := ⟨by first | exact hL.out | (refine hL.out.drawn ?_; (repeat (first | exact Drawn0.refl _ | apply Drawn0.step)); done) | (refine hL.out.below ?_; (repeat (first | (with_reducible first | exact HB.out | apply bA | apply bN | apply bD | refine below_set ?_ GE310.out | refine below_set ?_ GE335.out | refine below_set ?_ GE342.out) | exact HB.out)); done)⟩) k2 a0 _ _ x8_2 t329 t330 t331 t332 t333 _ ?side1 ?side2 A63.out).mono ?_); (case side1 => repeat (first | exact (Kd.R_reads' HO_8.out).2.2 | (with_reducible refine Kd.C_alloc ?_ _) | (with_reducible refine Kd.C_drewN ?_ _) | (with_reducible refine Kd.C_drew ?_))); (case side2 => exact (Kd.R_reads' HO_8.out).2.1); rintro e w65 ⟨rfl, hb⟩; refine ⟨_, rfl, ?_⟩; have n0_ := Aside0.mk (Kd.R_below (by (with_reducible repeat (first | apply Kd.R_alloc | apply Kd.R_drewN | apply Kd.R_drew)); exact HO_8.out) hb); have n1_ := Aside0.mk (blk_below (g := gb310) (o := .cells #[.int .i64 x311000_2, .int .i64 x311001_2, .string x311002_2, .bool x311003_2, .int .i64 x311004_2] 24 (0, 0)) (by (with_reducible repeat (first | refine blk_drewN ?_ _ | refine blk_drew ?_ | refine blk_alloc ?_ _)); exact BK310.out) hb); have n2_ := Aside0.mk (below_step (by repeat (first | (with_reducible first | exact HB.out | apply bA | apply bN | apply bD | refine below_set ?_ GE310.out) | exact HB.out)) hb); clear HO_8; clear BK310; clear HB; have HO_8 := n0_; have BK310 := n1_; have HB := n2_; clear n0_ n1_ n2_; (try clear hb); (try clear hb2); (try clear hk); (try clear hi); obtain ⟨hcz66_0, hcz66_1, hcz66_2, hcz66_3, hcz66_4, hfz66_0, hfz66_1, hfz66_2, hfz66_3, hfz66_4⟩ := five BK310.out))
         refine bodyPost_ret (results_cell_row rfl _ _ gb310 24 #[.int .i64 t329, .int .i64 t330, .string t331, .bool t332, .int .i64 t333] (0, 0) _ rfl (by (with_reducible repeat (first | refine blk_drewN ?_ _ | refine blk_drew ?_ | refine blk_alloc ?_ _)); refine blk_put (cs := #[.int .i64 t329, .int .i64 t330, .string t331, .bool t332, .int .i64 x311004_2]) ?_ 4 _ rfl; (with_reducible repeat (first | refine blk_drewN ?_ _ | refine blk_drew ?_ | refine blk_alloc ?_ _)); refine blk_put (cs := #[.int .i64 t329, .int .i64 t330, .string t331, .bool x311003_2, .int .i64 x311004_2]) ?_ 3 _ rfl; (with_reducible repeat (first | refine blk_drewN ?_ _ | refine blk_drew ?_ | refine blk_alloc ?_ _)); refine blk_put (cs := #[.int .i64 t329, .int .i64 t330, .string x311002_2, .bool x311003_2, .int .i64 x311004_2]) ?_ 2 _ rfl; (with_reducible repeat (first | refine blk_drewN ?_ _ | refine blk_drew ?_ | refine blk_alloc ?_ _)); refine blk_put (cs := #[.int .i64 t329, .int .i64 x311001_2, .string x311002_2, .bool x311003_2, .int .i64 x311004_2]) ?_ 1 _ rfl; (with_reducible repeat (first | refine blk_drewN ?_ _ | refine blk_drew ?_ | refine blk_alloc ?_ _)); refine blk_put (cs := #[.int .i64 x311000_2, .int .i64 x311001_2, .string x311002_2, .bool x311003_2, .int .i64 x311004_2]) ?_ 0 _ rfl; (with_reducible repeat (first | refine blk_drewN ?_ _ | refine blk_drew ?_ | refine blk_alloc ?_ _)); exact BK310.out) Tryz.underlying24 rfl (by kernel_rfl)) rfl ?_
         exact ⟨by first | rfl | (simp; done) | (simp [*]; done) | (simp <;> rfl) | (simp [*] <;> rfl), by repeat (first | (with_reducible first | exact HB.out | apply bA | apply bN | apply bD | refine below_set ?_ GE310.out) | exact HB.out)⟩
end Go.Proofs.YtfnbflhoaemmeaaGreatDoor.EBui
end
section
namespace Go.Proofs.YtfnbflhoaemmeaaGreatDoor.EBui
open Go.RowKit Go.Lib Go.Proofs.YtfnbflhoaemmeaaGreatDoorW.PrintWords Go.Proofs.YtfnbflhoaemmeaaGreatDoorW.PrintLast Go.Proofs.YtfnbflhoaemmeaaGreatDoor.Ext Go.Proofs.YtfnbflhoaemmeaaGreatDoor.EFxA Go.Proofs.YtfnbflhoaemmeaaGreatDoor.EFix Go.Proofs.YtfnbflhoaemmeaaGreatDoor.EVal
set_option linter.unusedVariables false
set_option linter.unusedSimpArgs false
def v5 (x : S24) : V5 := (x.f0, x.f1, x.f2, x.f3, x.f4)
def errX (x : S24) : Int := if x.f0 = 4 ∧ mayS (v5 x) = true then x.f4 else 0
def wst (a e : Int) : Int := if e > 0 ∧ (a = 0 ∨ e < a) then e else a
def stepA (p : List Int × Int) (x : S24) : List Int × Int := (if x.f0 = 1 ∧ mayS (v5 x) = true then p.1 ++ [x.f1] else p.1, wst p.2 (errX x))
theorem stepA_eq (p : List Int × Int) (x : S24) : stepA p x = (if x.f0 = 1 ∧ mayS (v5 x) = true then p.1 ++ [x.f1] else p.1, wst p.2 (errX x)) := rfl
theorem wr1 (j n : Nat) (h : j < n) (hn : n ≤ 1000000) : wrap64 ((j : Int) + 1) = ((j + 1 : Nat) : Int) := by rw [wr _ (by omega) (by omega)]; rfl
theorem rdX (l : List S24) (j : Nat) (h : j < l.length) : rd_T24 l (j : Int) = l[j] := by
  unfold rd_T24
  rw [Int.toNat_natCast, List.getD_eq_getElem?_getD, List.getElem?_eq_getElem h]
  rfl
theorem rdA (l : List S44) (j : Nat) (h : j < l.length) : rd_T44 l (j : Int) = l[j] := by
  unfold rd_T44
  rw [Int.toNat_natCast, List.getD_eq_getElem?_getD, List.getElem?_eq_getElem h]
  rfl
theorem worst1 (k : Nat) (x : S24) (hx : x.f2.size ≤ 1000) : value_Worst.f (k + 2) [x] = some (errX x) := by
  have hr : rd_T24 [x] 0 = x := rfl
  have hw : wrap64 (0 + 1) = 1 := (wr _ (by decide) (by decide)).trans rfl
  have hm := may_f x.f0 x.f1 x.f2 x.f3 x.f4 (by omega)
  have hl : (([x] : List S24).length : Int) = 1 := rfl
  have h1 : ∀ y, value_Worst.l0 (k + 1) y [x] 1 1 = some y := fun y => by rw [value_Worst.l0, if_neg (by decide)]
  unfold value_Worst.f
  rw [hl, value_Worst.l0, if_pos (by decide), if_pos (by decide), if_pos (by rw [hl]; decide), hr, hw, h1, hm, Option.bind_some]
  unfold errX
  by_cases c : x.f0 = 4
  · rw [if_pos c]
    cases g : mayS (x.f0, x.f1, x.f2, x.f3, x.f4)
    · rw [if_neg (by simp), h1, if_neg (fun h => by have := h.2; rw [show v5 x = (x.f0, x.f1, x.f2, x.f3, x.f4) from rfl, g] at this; cases this)]
    · rw [if_pos rfl, if_pos rfl, if_pos ⟨c, g⟩]
  · rw [if_neg c, h1, if_neg (fun h => c h.1)]
theorem l1_eq (x0 : ByteArray) (x16 : List S44) (x17 x18 : Int) (l : List S24) (hX : ∀ x ∈ l, x.f2.size ≤ 1000) (hl : l.length ≤ 1000000) :
    ∀ (n j : Nat), j + n = l.length → ∀ (k : Nat) (x5 : List Int) (x6 : Int), x5.length + n ≤ 10000000 →
    builtin_all.l1 (k + 3 + 2 * n) x0 x5 x6 x16 x17 x18 l (l.length : Int) (j : Int) = builtin_all.l0 (k + 2) x0 ((l.drop j).foldl stepA (x5, x6)).1 ((l.drop j).foldl stepA (x5, x6)).2 x16 x17 (wrap64 (x18 + 1))
  | 0, j, hj, k, x5, x6, h5 => by
    rw [show k + 3 + 2 * 0 = (k + 2) + 1 from rfl, builtin_all.l1, if_neg (by omega), List.drop_of_length_le (by omega)]
    rfl
  | n + 1, j, hj, k, x5, x6, h5 => by
    have hlt : j < l.length := by omega
    have ih := l1_eq x0 x16 x17 x18 l hX hl n (j + 1) (by omega) k
    obtain ⟨x, hx⟩ : ∃ x, l[j] = x := ⟨_, rfl⟩
    have hxm : x ∈ l := hx ▸ List.getElem_mem hlt
    have hm := may_f x.f0 x.f1 x.f2 x.f3 x.f4 (by have := hX x hxm; omega)
    have J : ∀ (b : Bool) (y : Int), builtin_all.j2 (k + 3 + 2 * n + 1) x0 x5 x6 (errX x) x16 x17 x18 l (l.length : Int) (j : Int) b x.f0 x.f1 x.f2 x.f3 x.f4 =
        builtin_all.l1 (k + 3 + 2 * n) x0 (if x.f0 = 1 ∧ mayS (v5 x) = true then x5 ++ [x.f1] else x5) (if b = true then errX x else x6) x16 x17 x18 l (l.length : Int) ((j + 1 : Nat) : Int) := by
      intro b _
      rw [builtin_all.j2, wr1 j _ hlt hl, hm]
      simp only [Option.bind_some]
      have h5' : x5.length < 17592186044416 := by omega
      by_cases c : x.f0 = 1
      · cases g : mayS (x.f0, x.f1, x.f2, x.f3, x.f4)
        · rw [if_neg (show ¬ (x.f0 = 1 ∧ mayS (v5 x) = true) from fun h => by have := h.2; rw [show v5 x = (x.f0, x.f1, x.f2, x.f3, x.f4) from rfl, g] at this; cases this)]
          cases b <;> simp [c, h5']
        · rw [if_pos (show x.f0 = 1 ∧ mayS (v5 x) = true from ⟨c, g⟩)]
          cases b <;> simp [c, h5']
      · rw [if_neg (show ¬ (x.f0 = 1 ∧ mayS (v5 x) = true) from fun h => c h.1)]
        cases b <;> simp [c, h5']
    rw [show k + 3 + 2 * (n + 1) = (k + 3 + 2 * n + 1) + 1 by omega, builtin_all.l1, if_pos (by omega), if_pos (by omega), if_pos (by omega), rdX l j hlt, hx, show k + 3 + 2 * n + 1 = (k + 2 * n + 2) + 2 by omega, worst1 _ x (hX x hxm), Option.bind_some, show (k + 2 * n + 2) + 2 = k + 3 + 2 * n + 1 by omega]
    have hd : (l.drop j).foldl stepA (x5, x6) = (l.drop (j + 1)).foldl stepA (stepA (x5, x6) x) := by rw [List.drop_eq_getElem_cons hlt, hx]; rfl
    rw [hd, stepA_eq]
    have fin : ∀ b : Bool, (b = true ↔ (errX x > 0 ∧ (x6 = 0 ∨ errX x < x6))) → builtin_all.j2 (k + 3 + 2 * n + 1) x0 x5 x6 (errX x) x16 x17 x18 l (l.length : Int) (j : Int) b x.f0 x.f1 x.f2 x.f3 x.f4 =
        builtin_all.l0 (k + 2) x0 ((l.drop (j + 1)).foldl stepA (if x.f0 = 1 ∧ mayS (v5 x) = true then x5 ++ [x.f1] else x5, wst x6 (errX x))).1 ((l.drop (j + 1)).foldl stepA (if x.f0 = 1 ∧ mayS (v5 x) = true then x5 ++ [x.f1] else x5, wst x6 (errX x))).2 x16 x17 (wrap64 (x18 + 1)) := by
      intro b hb
      rw [J b 0]
      have hw : (if b = true then errX x else x6) = wst x6 (errX x) := by
        unfold wst
        by_cases c : b = true
        · rw [if_pos c, if_pos (hb.mp c)]
        · rw [if_neg c, if_neg (fun h => c (hb.mpr h))]
      rw [hw]
      refine ih _ _ ?_
      split
      · rw [List.length_append, List.length_singleton]; omega
      · omega
    by_cases c1 : errX x > 0
    · rw [if_pos c1]
      by_cases c2 : x6 = 0
      · rw [if_pos c2]; exact fin true (by simp [c1, c2])
      · rw [if_neg c2]; exact fin _ (by simp [c1, c2])
    · rw [if_neg c1]; exact fin false (by simp [c1])
theorem l0_eq (x0 : ByteArray) (l : List S44) (hX : ∀ a ∈ l, (∀ x ∈ a.f1, x.f2.size ≤ 1000) ∧ a.f1.length ≤ 1000) (hl : l.length ≤ 1000) :
    ∀ (n i : Nat), i + n = l.length → ∀ (x5 : List Int) (x6 : Int), x5.length + 1000 * n ≤ 9000000 → ∃ m, ∀ k,
    builtin_all.l0 (k + 2 + m) x0 x5 x6 l (l.length : Int) (i : Int) = builtin_all.l0 (k + 2) x0 (((l.drop i).flatMap (·.f1)).foldl stepA (x5, x6)).1 (((l.drop i).flatMap (·.f1)).foldl stepA (x5, x6)).2 l (l.length : Int) (l.length : Int)
  | 0, i, hi, x5, x6, h5 => ⟨0, fun k => by
    rw [List.drop_of_length_le (by omega), show (i : Int) = (l.length : Int) by omega]
    rfl⟩
  | n + 1, i, hi, x5, x6, h5 => by
    have hlt : i < l.length := by omega
    obtain ⟨a, ha⟩ : ∃ a, l[i] = a := ⟨_, rfl⟩
    have ham : a ∈ l := ha ▸ List.getElem_mem hlt
    obtain ⟨hx, hn⟩ := hX a ham
    have hle : (a.f1.foldl stepA (x5, x6)).1.length ≤ x5.length + a.f1.length := by
      have G : ∀ (s : List S24) (p : List Int × Int), (s.foldl stepA p).1.length ≤ p.1.length + s.length := by
        intro s
        induction s with
        | nil => intro p; simp
        | cons y s ih =>
          intro p
          rw [List.foldl_cons, List.length_cons]
          have := ih (stepA p y)
          have h2 : (stepA p y).1.length ≤ p.1.length + 1 := by
            rw [stepA_eq]
            split
            · simp
            · simp
          omega
      exact G _ _
    obtain ⟨m, hm⟩ := l0_eq x0 l hX hl n (i + 1) (by omega) (a.f1.foldl stepA (x5, x6)).1 (a.f1.foldl stepA (x5, x6)).2 (by omega)
    refine ⟨m + 2 * a.f1.length + 2, fun k => ?_⟩
    have h1 := l1_eq x0 l (l.length : Int) (i : Int) a.f1 hx (by omega) a.f1.length 0 (by omega) (k + m) x5 x6 (by omega)
    rw [show k + 2 + (m + 2 * a.f1.length + 2) = (k + m + 3 + 2 * a.f1.length) + 1 by omega, builtin_all.l0, if_pos (by omega), if_pos (by omega), if_pos (by omega), rdA l i hlt, ha]
    refine h1.trans ?_
    rw [wr1 i _ hlt (by omega), List.drop_zero, show k + m + 2 = k + 2 + m by omega, hm k, List.drop_eq_getElem_cons hlt, ha, List.flatMap_cons, List.foldl_append]
theorem ext_l (b : Bool) (l : List Int) (hl : l.length ≤ 1000000) : ∀ (n j : Nat), j + n = l.length → ∀ y, ∃ r, ∀ k, n + 1 ≤ k → builtin_extreme.l0 k b y l (l.length : Int) (j : Int) = some r
  | 0, j, hj, y => ⟨y, fun k hk => by
    obtain ⟨q, rfl⟩ : ∃ q, k = q + 1 := ⟨k - 1, by omega⟩
    rw [builtin_extreme.l0, if_neg (by omega)]⟩
  | n + 1, j, hj, y => by
    obtain ⟨r1, h1⟩ := ext_l b l hl n (j + 1) (by omega) (rd l (j : Int))
    obtain ⟨r2, h2⟩ := ext_l b l hl n (j + 1) (by omega) y
    have key : ∀ c d : Prop, [Decidable c] → [Decidable d] → ∃ r, ∀ k, n + 1 + 1 ≤ k + 1 → (if c then builtin_extreme.l0 k b (rd l (j : Int)) l (l.length : Int) ((j + 1 : Nat) : Int) else (if d then builtin_extreme.l0 k b (rd l (j : Int)) l (l.length : Int) ((j + 1 : Nat) : Int) else builtin_extreme.l0 k b y l (l.length : Int) ((j + 1 : Nat) : Int))) = some r := by
      intro c d _ _
      by_cases c1 : c
      · exact ⟨r1, fun k hk => by rw [if_pos c1]; exact h1 k (by omega)⟩
      · by_cases c2 : d
        · exact ⟨r1, fun k hk => by rw [if_neg c1, if_pos c2]; exact h1 k (by omega)⟩
        · exact ⟨r2, fun k hk => by rw [if_neg c1, if_neg c2]; exact h2 k (by omega)⟩
    obtain ⟨r, hr⟩ := key ((j : Int) = 0) (((decide ((rd l (j : Int)) > y)) == b) = true)
    refine ⟨r, fun k hk => ?_⟩
    obtain ⟨q, rfl⟩ : ∃ q, k = q + 1 := ⟨k - 1, by omega⟩
    rw [builtin_extreme.l0, if_pos (by omega), if_pos (by omega), if_pos (by omega), wr1 j _ (by omega) hl]
    exact hr q hk
def int64 (a : Int) : Prop := -9223372036854775808 ≤ a ∧ a ≤ 9223372036854775807
abbrev R5 := Int × Int × ByteArray × Bool × Int
theorem sum_in (T : Int) : int64 (sumS T).1 := by
  unfold sumS int64
  split
  · assumption
  · exact ⟨by decide, by decide⟩
theorem num_some (a : Int) : ((builtin_number.f a).bind fun bt => (some (bt.1, bt.2.1, bt.2.2.1, bt.2.2.2.1, bt.2.2.2.2) : Option R5)) = some (1, a, (⟨#[]⟩ : ByteArray), false, 0) := rfl
theorem fail_some (a : Int) : ((builtin_failed.f a).bind fun bt => (some (bt.1, bt.2.1, bt.2.2.1, bt.2.2.2.1, bt.2.2.2.2) : Option R5)) = some (4, 0, (⟨#[]⟩ : ByteArray), false, a) := rfl
theorem tail_eq (x0 : ByteArray) (hx : by_ x0 = [83, 85, 77]) (l : List Int) (e : Int) (hl : l.length ≤ 1000000) (hi : ∀ a ∈ l, int64 a) :
    ∃ r : R5, (e > 0 → r = (4, 0, (⟨#[]⟩ : ByteArray), false, e)) ∧ (¬ e > 0 → by_ x0 = [83, 85, 77] → (sumS l.sum).2 = true → r = (1, (sumS l.sum).1, (⟨#[]⟩ : ByteArray), false, 0)) ∧
      ∃ K, ∀ k, K ≤ k → ∀ (A : List S44) (n : Int), builtin_all.l0 k x0 l e A n n = some r := by
  have hI : fixnum_Int.f (l.length : Int) = some ((l.length : Int) * 10000, true) := by
    unfold fixnum_Int.f
    rw [if_neg (by omega), if_neg (by omega), wr _ (by omega) (by omega)]
  by_cases c : e > 0
  · refine ⟨(4, 0, ⟨#[]⟩, false, e), fun _ => rfl, fun h => absurd c h, 1, fun k hk A n => ?_⟩
    obtain ⟨q, rfl⟩ : ∃ q, k = q + 1 := ⟨k - 1, by omega⟩
    rw [builtin_all.l0, if_neg (by omega), if_pos c, fail_some]
  · by_cases c1 : x0.toList = ([67, 79, 85, 78, 84] : List UInt8)
    · refine ⟨(1, (l.length : Int) * 10000, ⟨#[]⟩, false, 0), fun h => absurd h c, fun _ h2 => ?_, 1, fun k hk A n => ?_⟩
      · rw [to_by, h2] at c1; cases c1
      · obtain ⟨q, rfl⟩ : ∃ q, k = q + 1 := ⟨k - 1, by omega⟩
        rw [builtin_all.l0, if_neg (by omega), if_neg c, hI, Option.bind_some, if_pos c1, num_some]
    · have big : ∀ b : Bool, (by_ x0 = [83, 85, 77] → b = false) → ∃ r : R5, (e > 0 → r = (4, 0, (⟨#[]⟩ : ByteArray), false, e)) ∧ (¬ e > 0 → by_ x0 = [83, 85, 77] → (sumS l.sum).2 = true → r = (1, (sumS l.sum).1, (⟨#[]⟩ : ByteArray), false, 0)) ∧
          ∃ K, ∀ k, K ≤ k → builtin_all.j3 k x0 l ((l.length : Int) * 10000) true b = some r := by
        intro b hb
        cases b with
        | true =>
          obtain ⟨r, hr⟩ := ext_l (x0.toList == ([77, 65, 88] : List UInt8)) l hl l.length 0 (by omega) 0
          refine ⟨(1, r, ⟨#[]⟩, false, 0), fun h => absurd h c, fun _ h2 => absurd (hb h2) (by simp), l.length + 2, fun k hk => ?_⟩
          obtain ⟨q, rfl⟩ : ∃ q, k = q + 1 := ⟨k - 1, by omega⟩
          have : builtin_extreme.l0 q (x0.toList == ([77, 65, 88] : List UInt8)) 0 l (l.length : Int) 0 = some r := hr q (by omega)
          rw [builtin_all.j3, if_pos rfl]
          unfold builtin_extreme.f
          rw [this, Option.bind_some]
          exact num_some r
        | false =>
          have hS : ∀ q, l.length + 1 ≤ q → fixnum_Sum.f q l = some (sumS l.sum) := fun q hq => sum_f l hl (fun a ha => hi a ha) q hq
          obtain ⟨⟨s, o⟩, hs⟩ : ∃ p, sumS l.sum = p := ⟨_, rfl⟩
          have hin : int64 s := by have := sum_in l.sum; rw [hs] at this; exact this
          have H : ∀ q, l.length + 1 ≤ q → ∀ b4 : Bool, b4 = (if x0.toList = ([65, 86, 69, 82, 65, 71, 69] : List UInt8) then (l.length : Int) == 0 else false) → builtin_all.j3 (q + 1) x0 l ((l.length : Int) * 10000) true false = builtin_all.j4 q x0 ((l.length : Int) * 10000) true s o b4 := by
            intro q hq b4 hb4
            rw [builtin_all.j3, if_neg (by simp), hS q hq, hs, Option.bind_some, hb4]
            split <;> rfl
          obtain ⟨b4, hb4⟩ : ∃ b4, b4 = (if x0.toList = ([65, 86, 69, 82, 65, 71, 69] : List UInt8) then (l.length : Int) == 0 else false) := ⟨_, rfl⟩
          have hb5 : by_ x0 = [83, 85, 77] → b4 = false ∧ ¬ x0.toList = ([65, 86, 69, 82, 65, 71, 69] : List UInt8) := fun h => by
            have : ¬ x0.toList = ([65, 86, 69, 82, 65, 71, 69] : List UInt8) := by rw [to_by, h]; decide
            exact ⟨by rw [hb4, if_neg this], this⟩
          cases b4 with
          | true =>
            refine ⟨(4, 0, ⟨#[]⟩, false, 3), fun h => absurd h c, fun _ h2 => absurd (hb5 h2).1 (by simp), l.length + 3, fun k hk => ?_⟩
            obtain ⟨q, rfl⟩ : ∃ q, k = q + 2 := ⟨k - 2, by omega⟩
            rw [H (q + 1) (by omega) true hb4, builtin_all.j4, if_pos rfl, fail_some]
          | false =>
            cases o with
            | false =>
              refine ⟨(4, 0, ⟨#[]⟩, false, 4), fun h => absurd h c, fun _ _ h3 => (by rw [hs] at h3; cases h3), l.length + 4, fun k hk => ?_⟩
              obtain ⟨q, rfl⟩ : ∃ q, k = q + 3 := ⟨k - 3, by omega⟩
              rw [H (q + 2) (by omega) false hb4, builtin_all.j4, if_neg (by simp), if_neg (by simp), builtin_all.j5, if_pos rfl, fail_some]
            | true =>
              by_cases c5 : x0.toList = ([65, 86, 69, 82, 65, 71, 69] : List UInt8)
              · exact absurd c5 (by rw [to_by, hx]; decide)
              · refine ⟨(1, s, ⟨#[]⟩, false, 0), fun h => absurd h c, fun _ _ _ => (by rw [hs]), l.length + 4, fun k hk => ?_⟩
                obtain ⟨q, rfl⟩ : ∃ q, k = q + 3 := ⟨k - 3, by omega⟩
                rw [H (q + 2) (by omega) false hb4, builtin_all.j4, if_neg (by simp), if_pos rfl, builtin_all.j5, if_neg (by simp), if_neg c5, num_some]
      obtain ⟨b, hb⟩ : ∃ b, b = (if x0.toList = ([77, 73, 78] : List UInt8) then (x0.toList == ([77, 73, 78] : List UInt8)) else (x0.toList == ([77, 65, 88] : List UInt8))) := ⟨_, rfl⟩
      obtain ⟨r, h1, h2, K, h3⟩ := big b (fun h => by rw [hb, to_by, h]; decide)
      refine ⟨r, h1, h2, K + 1, fun k hk A n => ?_⟩
      obtain ⟨q, rfl⟩ : ∃ q, k = q + 1 := ⟨k - 1, by omega⟩
      rw [builtin_all.l0, if_neg (by omega), if_neg c, hI, Option.bind_some, if_neg c1, ← h3 q (by omega), hb]
      split <;> rfl
theorem all_eq (x0 : ByteArray) (hx : by_ x0 = [83, 85, 77]) (p : List Int × Int) (hl : p.1.length ≤ 1000000) (hi : ∀ a ∈ p.1, int64 a) :
    ∃ r : R5, (p.2 > 0 → r = (4, 0, (⟨#[]⟩ : ByteArray), false, p.2)) ∧ (¬ p.2 > 0 → by_ x0 = [83, 85, 77] → (sumS p.1.sum).2 = true → r = (1, (sumS p.1.sum).1, (⟨#[]⟩ : ByteArray), false, 0)) ∧
      ∀ l : List S44, (∀ a ∈ l, (∀ x ∈ a.f1, x.f2.size ≤ 1000) ∧ a.f1.length ≤ 1000) → l.length ≤ 1000 → (l.flatMap (·.f1)).foldl stepA ([], 0) = p → ∃ k, builtin_all.f k x0 l = some r := by
  obtain ⟨r, h1, h2, K, h3⟩ := tail_eq x0 hx p.1 p.2 hl hi
  refine ⟨r, h1, h2, fun l hX hn hp => ?_⟩
  obtain ⟨m, hm⟩ := l0_eq x0 l hX hn l.length 0 (by omega) [] 0 (by simp; omega)
  refine ⟨K + 2 + m, ?_⟩
  unfold builtin_all.f
  have := hm K
  rw [List.drop_zero, hp] at this
  refine Eq.trans this ?_
  exact h3 _ (by omega) _ _
end Go.Proofs.YtfnbflhoaemmeaaGreatDoor.EBui
end
section
namespace Go.Proofs.YtfnbflhoaemmeaaGreatDoor.EBui
open Go.RowKit Go.Proofs.YtfnbflhoaemmeaaGreatDoor.Ext Go.Proofs.YtfnbflhoaemmeaaGreatDoor.EFxA Go.Proofs.YtfnbflhoaemmeaaGreatDoor.EFix Go.Proofs.YtfnbflhoaemmeaaGreatDoor.EVal Go.Proofs.YtfnbflhoaemmeaaGreatDoorW.PrintWords Go.Proofs.YtfnbflhoaemmeaaGreatDoorW.PrintLast Go.Proofs.YtfnbflhoaemmeaaGreatDoorW.PrintMore
attribute [local go_sem] max2_int min2_int max_two min_two max_three min_three max_four min_four   
set_option linter.unusedVariables false
set_option linter.unusedSimpArgs false
end Go.Proofs.YtfnbflhoaemmeaaGreatDoor.EBui
end
section
namespace Go.Proofs.YtfnbflhoaemmeaaGreatDoor.EVal
open Go.RowKit Go.Proofs.YtfnbflhoaemmeaaGreatDoor.Ext Go.Proofs.YtfnbflhoaemmeaaGreatDoor.EFxA Go.Proofs.YtfnbflhoaemmeaaGreatDoor.EFix Go.Proofs.YtfnbflhoaemmeaaGreatDoorW.PrintWords Go.Proofs.YtfnbflhoaemmeaaGreatDoorW.PrintLast Go.Proofs.YtfnbflhoaemmeaaGreatDoorW.PrintMore
attribute [local go_sem] max2_int min2_int max_two min_two max_three min_three max_four min_four   
attribute [local go_sem high] run_gtr_string
set_option linter.unusedVariables false
set_option linter.unusedSimpArgs false
attribute [local go_sem high] eqA24
def counterpaneref1_Eq.f (a0_0 : Int) (a0_1 : Int) (a0_2 : ByteArray) (a0_3 : Bool) (a0_4 : Int) (a1_0 : Int) (a1_1 : Int) (a1_2 : ByteArray) (a1_3 : Bool) (a1_4 : Int) : Option (Bool) := if a0_0 = a1_0 then (if a0_1 = a1_1 then (if a0_2.toList = a1_2.toList then (if (a0_3 == a1_3) = true then (some (a0_4 == a1_4)) else (some false)) else (some false)) else (some false)) else (some false)
set_option maxHeartbeats 8000000 in
set_option maxRecDepth 100000 in
theorem counterpaneref1_Eq.calls (a0_0 : Int) (a0_1 : Int) (a0_2 : ByteArray) (a0_3 : Bool) (a0_4 : Int) (a1_0 : Int) (a1_1 : Int) (a1_2 : ByteArray) (a1_3 : Bool) (a1_4 : Int) (r : Bool) (w : World) (h : counterpaneref1_Eq.f a0_0 a0_1 a0_2 a0_3 a0_4 a1_0 a1_1 a1_2 a1_3 a1_4 = some r) :
  Calls Tryz.prog 14 #[.agg #[.int .i64 a0_0, .int .i64 a0_1, .string a0_2, .bool a0_3, .int .i64 a0_4], .agg #[.int .i64 a1_0, .int .i64 a1_1, .string a1_2, .bool a1_3, .int .i64 a1_4]] w fun e w' => e = .returned (.bool r) ∧ Below w.heap.size w w' := by
 have hu24 := Tryz.underlying24
 have HB := Aside0.mk (Below.refl w.heap.size w)
 have H : (if a0_0 = a1_0 then (if a0_1 = a1_1 then (if a0_2.toList = a1_2.toList then (if (a0_3 == a1_3) = true then (some (a0_4 == a1_4)) else (some false)) else (some false)) else (some false)) else (some false)) = some r := h
 clear h
 by_cases c3 : a0_0 = a1_0
 ·rw [if_pos c3] at H
  have c3b0 : (a0_0 == a1_0) = true := beq_iff_eq.mpr c3
  have c3b1 : (a0_0 != a1_0) = false := bne_eq_false_iff_eq.mpr c3
  clear c3
  by_cases c4 : a0_1 = a1_1
  ·rw [if_pos c4] at H
   have c4b0 : (a0_1 == a1_1) = true := beq_iff_eq.mpr c4
   have c4b1 : (a0_1 != a1_1) = false := bne_eq_false_iff_eq.mpr c4
   clear c4
   by_cases c5 : a0_2.toList = a1_2.toList
   ·rw [if_pos c5] at H
    have c5b0 : (a0_2.toList == a1_2.toList) = true := beq_iff_eq.mpr c5
    have c5b1 : (a0_2.toList != a1_2.toList) = false := bne_eq_false_iff_eq.mpr c5
    clear c5
    by_cases c6 : (a0_3 == a1_3) = true
    ·rw [if_pos c6] at H
     have c6b0 : (a0_3 == a1_3) = true := c6
     (try (have c6b1 : decide (a0_3 = a1_3) = true := by simpa using c6))
     (try (have c6b2 : (a0_3 == a1_3) = true := by simpa using c6))
     clear c6
     obtain rfl := Option.some.inj H
     go_enter Tryz.func14, Tryz.ntmps14
     go_wp2_with (first | ((with_reducible refine gate_dst (N := 2) rfl ?_); refine box_event ?hg (N := 2) ?hd (cs := #[.int .i64 a0_0, .int .i64 a0_1, .string a0_2, .bool a0_3, .int .i64 a0_4]) (t := 24) ?hr ?_; (case hd => rfl); (case hg => rfl); (case hr => first | (go_simp; done) | (go_simp; rfl)); intro gb202 hg w7 hbox hb; have n0_ := Aside0.mk (below_step (by repeat (first | (with_reducible first | exact HB.out | apply below_alloc | apply pw_below_drewN | apply below_drew1) | exact HB.out)) hb); have n1_ := Aside0.mk (hbox); have n2_ := Aside0.mk ((by rw [hg]; exact (below_size (by repeat (first | (with_reducible first | exact HB.out | apply below_alloc | apply pw_below_drewN | apply below_drew1) | exact HB.out))) : w.heap.size ≤ gb202)); have n3_ := Aside0.mk ((by rw [hg]; exact (below_size (by repeat (first | (with_reducible first | exact HB.out | apply below_alloc | apply pw_below_drewN | apply below_drew1) | exact HB.out))) : w.heap.size ≤ gb202)); clear HB; have HB := n0_; have BK202 := n1_; have GW202 := n2_; have GE202 := n3_; clear n0_ n1_ n2_ n3_; clear hb hbox hg) | ((with_reducible refine gate_dst (N := 3) rfl ?_); refine box_event ?hg (N := 3) ?hd (cs := #[.int .i64 a1_0, .int .i64 a1_1, .string a1_2, .bool a1_3, .int .i64 a1_4]) (t := 24) ?hr ?_; (case hd => rfl); (case hg => rfl); (case hr => first | (go_simp; done) | (go_simp; rfl)); intro gb203 hg w8 hbox hb; have n0_ := Aside0.mk (blk_below (g := gb202) (o := .cells #[.int .i64 a0_0, .int .i64 a0_1, .string a0_2, .bool a0_3, .int .i64 a0_4] 24 (0, 0)) (by (with_reducible repeat (first | refine blk_drewN ?_ _ | refine blk_drew ?_ | refine blk_alloc ?_ _)); exact BK202.out) hb); have n1_ := Aside0.mk (below_step (by repeat (first | (with_reducible first | exact HB.out | apply below_alloc | apply pw_below_drewN | apply below_drew1 | refine below_set ?_ GE202.out) | exact HB.out)) hb); have n2_ := Aside0.mk (hbox); have n3_ := Aside0.mk ((by rw [hg]; exact (below_size (by repeat (first | (with_reducible first | exact HB.out | apply below_alloc | apply pw_below_drewN | apply below_drew1 | refine below_set ?_ GE202.out) | exact HB.out))) : w.heap.size ≤ gb203)); have n4_ := Aside0.mk ((by rw [hg]; exact (below_size (by repeat (first | (with_reducible first | exact HB.out | apply below_alloc | apply pw_below_drewN | apply below_drew1 | refine below_set ?_ GE202.out) | exact HB.out))) : w.heap.size ≤ gb203)); have n5_ := Aside0.mk ((by rw [hg]; exact Nat.ne_of_lt (blk_lt (g := gb202) (o := .cells #[.int .i64 a0_0, .int .i64 a0_1, .string a0_2, .bool a0_3, .int .i64 a0_4] 24 (0, 0)) (by (with_reducible repeat (first | refine blk_drewN ?_ _ | refine blk_drew ?_ | refine blk_alloc ?_ _)); exact BK202.out)) : gb202 ≠ gb203)); have n6_ := Aside0.mk ((by rw [hg]; exact Nat.ne_of_gt (blk_lt (g := gb202) (o := .cells #[.int .i64 a0_0, .int .i64 a0_1, .string a0_2, .bool a0_3, .int .i64 a0_4] 24 (0, 0)) (by (with_reducible repeat (first | refine blk_drewN ?_ _ | refine blk_drew ?_ | refine blk_alloc ?_ _)); exact BK202.out)) : gb203 ≠ gb202)); clear BK202; clear HB; have BK202 := n0_; have HB := n1_; have BK203 := n2_; have GW203 := n3_; have GE203 := n4_; have NB202_203 := n5_; have NB203_202 := n6_; clear n0_ n1_ n2_ n3_ n4_ n5_ n6_; clear hb hbox hg; have hnb9 := NB202_203.out; have hnc9 := NB203_202.out; have hcz10_0 : w8.cell? ⟨gb202, 0, none⟩ = some (.int .i64 a0_0) := (blk_cell BK202.out 0).trans rfl; have hcz10_1 : w8.cell? ⟨gb202, 1, none⟩ = some (.int .i64 a0_1) := (blk_cell BK202.out 1).trans rfl; have hcz10_2 : w8.cell? ⟨gb202, 2, none⟩ = some (.string a0_2) := (blk_cell BK202.out 2).trans rfl; have hcz10_3 : w8.cell? ⟨gb202, 3, none⟩ = some (.bool a0_3) := (blk_cell BK202.out 3).trans rfl; have hcz10_4 : w8.cell? ⟨gb202, 4, none⟩ = some (.int .i64 a0_4) := (blk_cell BK202.out 4).trans rfl; have hfz10_0 := blk_frozen BK202.out 0; have hfz10_1 := blk_frozen BK202.out 1; have hfz10_2 := blk_frozen BK202.out 2; have hfz10_3 := blk_frozen BK202.out 3; have hfz10_4 := blk_frozen BK202.out 4; have hcz11_0 : w8.cell? ⟨gb203, 0, none⟩ = some (.int .i64 a1_0) := (blk_cell BK203.out 0).trans rfl; have hcz11_1 : w8.cell? ⟨gb203, 1, none⟩ = some (.int .i64 a1_1) := (blk_cell BK203.out 1).trans rfl; have hcz11_2 : w8.cell? ⟨gb203, 2, none⟩ = some (.string a1_2) := (blk_cell BK203.out 2).trans rfl; have hcz11_3 : w8.cell? ⟨gb203, 3, none⟩ = some (.bool a1_3) := (blk_cell BK203.out 3).trans rfl; have hcz11_4 : w8.cell? ⟨gb203, 4, none⟩ = some (.int .i64 a1_4) := (blk_cell BK203.out 4).trans rfl; have hfz11_0 := blk_frozen BK203.out 0; have hfz11_1 := blk_frozen BK203.out 1; have hfz11_2 := blk_frozen BK203.out 2; have hfz11_3 := blk_frozen BK203.out 3; have hfz11_4 := blk_frozen BK203.out 4))
     go_ret
     exact ⟨by first | rfl | (simp [errW_none, errW_some] <;> rfl) | (simp [*, errW_none, errW_some] <;> rfl) | (simp [*, errW_none, errW_some] <;> (generalize ByteArray.toList _ = l_; cases l_ <;> rfl)), by repeat (first | (with_reducible first | exact HB.out | apply below_alloc | apply pw_below_drewN | apply below_drew1 | refine below_set ?_ GE202.out | refine below_set ?_ GE203.out) | exact HB.out)⟩
    ·rw [if_neg c6] at H
     have c6b0 : (a0_3 == a1_3) = false := by simpa using c6
     (try (have c6b1 : decide (a0_3 = a1_3) = false := by simpa using c6))
     (try (have c6b2 : (a0_3 == a1_3) = false := by simpa using c6))
     (try (have c6b3 : ¬ (a0_3 = a1_3) := by simpa using c6))
     clear c6
     obtain rfl := Option.some.inj H
     go_enter Tryz.func14, Tryz.ntmps14
     go_wp2_with (first | ((with_reducible refine gate_dst (N := 2) rfl ?_); refine box_event ?hg (N := 2) ?hd (cs := #[.int .i64 a0_0, .int .i64 a0_1, .string a0_2, .bool a0_3, .int .i64 a0_4]) (t := 24) ?hr ?_; (case hd => rfl); (case hg => rfl); (case hr => first | (go_simp; done) | (go_simp; rfl)); intro gb202 hg w12 hbox hb; have n0_ := Aside0.mk (below_step (by repeat (first | (with_reducible first | exact HB.out | apply below_alloc | apply pw_below_drewN | apply below_drew1) | exact HB.out)) hb); have n1_ := Aside0.mk (hbox); have n2_ := Aside0.mk ((by rw [hg]; exact (below_size (by repeat (first | (with_reducible first | exact HB.out | apply below_alloc | apply pw_below_drewN | apply below_drew1) | exact HB.out))) : w.heap.size ≤ gb202)); have n3_ := Aside0.mk ((by rw [hg]; exact (below_size (by repeat (first | (with_reducible first | exact HB.out | apply below_alloc | apply pw_below_drewN | apply below_drew1) | exact HB.out))) : w.heap.size ≤ gb202)); clear HB; have HB := n0_; have BK202 := n1_; have GW202 := n2_; have GE202 := n3_; clear n0_ n1_ n2_ n3_; clear hb hbox hg) | ((with_reducible refine gate_dst (N := 3) rfl ?_); refine box_event ?hg (N := 3) ?hd (cs := #[.int .i64 a1_0, .int .i64 a1_1, .string a1_2, .bool a1_3, .int .i64 a1_4]) (t := 24) ?hr ?_; (case hd => rfl); (case hg => rfl); (case hr => first | (go_simp; done) | (go_simp; rfl)); intro gb203 hg w13 hbox hb; have n0_ := Aside0.mk (blk_below (g := gb202) (o := .cells #[.int .i64 a0_0, .int .i64 a0_1, .string a0_2, .bool a0_3, .int .i64 a0_4] 24 (0, 0)) (by (with_reducible repeat (first | refine blk_drewN ?_ _ | refine blk_drew ?_ | refine blk_alloc ?_ _)); exact BK202.out) hb); have n1_ := Aside0.mk (below_step (by repeat (first | (with_reducible first | exact HB.out | apply below_alloc | apply pw_below_drewN | apply below_drew1 | refine below_set ?_ GE202.out) | exact HB.out)) hb); have n2_ := Aside0.mk (hbox); have n3_ := Aside0.mk ((by rw [hg]; exact (below_size (by repeat (first | (with_reducible first | exact HB.out | apply below_alloc | apply pw_below_drewN | apply below_drew1 | refine below_set ?_ GE202.out) | exact HB.out))) : w.heap.size ≤ gb203)); have n4_ := Aside0.mk ((by rw [hg]; exact (below_size (by repeat (first | (with_reducible first | exact HB.out | apply below_alloc | apply pw_below_drewN | apply below_drew1 | refine below_set ?_ GE202.out) | exact HB.out))) : w.heap.size ≤ gb203)); have n5_ := Aside0.mk ((by rw [hg]; exact Nat.ne_of_lt (blk_lt (g := gb202) (o := .cells #[.int .i64 a0_0, .int .i64 a0_1, .string a0_2, .bool a0_3, .int .i64 a0_4] 24 (0, 0)) (by (with_reducible repeat (first | refine blk_drewN ?_ _ | refine blk_drew ?_ | refine blk_alloc ?_ _)); exact BK202.out)) : gb202 ≠ gb203)); have n6_ := Aside0.mk ((by rw [hg]; exact Nat.ne_of_gt (blk_lt (g := gb202) (o := .cells #[.int .i64 a0_0, .int .i64 a0_1, .string a0_2, .bool a0_3, .int .i64 a0_4] 24 (0, 0)) (by (with_reducible repeat (first | refine blk_drewN ?_ _ | refine blk_drew ?_ | refine blk_alloc ?_ _)); exact BK202.out)) : gb203 ≠ gb202)); clear BK202; clear HB; have BK202 := n0_; have HB := n1_; have BK203 := n2_; have GW203 := n3_; have GE203 := n4_; have NB202_203 := n5_; have NB203_202 := n6_; clear n0_ n1_ n2_ n3_ n4_ n5_ n6_; clear hb hbox hg; have hnb14 := NB202_203.out; have hnc14 := NB203_202.out; have hcz15_0 : w13.cell? ⟨gb202, 0, none⟩ = some (.int .i64 a0_0) := (blk_cell BK202.out 0).trans rfl; have hcz15_1 : w13.cell? ⟨gb202, 1, none⟩ = some (.int .i64 a0_1) := (blk_cell BK202.out 1).trans rfl; have hcz15_2 : w13.cell? ⟨gb202, 2, none⟩ = some (.string a0_2) := (blk_cell BK202.out 2).trans rfl; have hcz15_3 : w13.cell? ⟨gb202, 3, none⟩ = some (.bool a0_3) := (blk_cell BK202.out 3).trans rfl; have hcz15_4 : w13.cell? ⟨gb202, 4, none⟩ = some (.int .i64 a0_4) := (blk_cell BK202.out 4).trans rfl; have hfz15_0 := blk_frozen BK202.out 0; have hfz15_1 := blk_frozen BK202.out 1; have hfz15_2 := blk_frozen BK202.out 2; have hfz15_3 := blk_frozen BK202.out 3; have hfz15_4 := blk_frozen BK202.out 4; have hcz16_0 : w13.cell? ⟨gb203, 0, none⟩ = some (.int .i64 a1_0) := (blk_cell BK203.out 0).trans rfl; have hcz16_1 : w13.cell? ⟨gb203, 1, none⟩ = some (.int .i64 a1_1) := (blk_cell BK203.out 1).trans rfl; have hcz16_2 : w13.cell? ⟨gb203, 2, none⟩ = some (.string a1_2) := (blk_cell BK203.out 2).trans rfl; have hcz16_3 : w13.cell? ⟨gb203, 3, none⟩ = some (.bool a1_3) := (blk_cell BK203.out 3).trans rfl; have hcz16_4 : w13.cell? ⟨gb203, 4, none⟩ = some (.int .i64 a1_4) := (blk_cell BK203.out 4).trans rfl; have hfz16_0 := blk_frozen BK203.out 0; have hfz16_1 := blk_frozen BK203.out 1; have hfz16_2 := blk_frozen BK203.out 2; have hfz16_3 := blk_frozen BK203.out 3; have hfz16_4 := blk_frozen BK203.out 4))
     go_ret
     exact ⟨by first | rfl | (simp [errW_none, errW_some] <;> rfl) | (simp [*, errW_none, errW_some] <;> rfl) | (simp [*, errW_none, errW_some] <;> (generalize ByteArray.toList _ = l_; cases l_ <;> rfl)), by repeat (first | (with_reducible first | exact HB.out | apply below_alloc | apply pw_below_drewN | apply below_drew1 | refine below_set ?_ GE202.out | refine below_set ?_ GE203.out) | exact HB.out)⟩
   ·rw [if_neg c5] at H
    have c5b0 : (a0_2.toList == a1_2.toList) = false := beq_eq_false_iff_ne.mpr c5
    have c5b1 : (a0_2.toList != a1_2.toList) = true := bne_iff_ne.mpr c5
    obtain rfl := Option.some.inj H
    go_enter Tryz.func14, Tryz.ntmps14
    go_wp2_with (first | ((with_reducible refine gate_dst (N := 2) rfl ?_); refine box_event ?hg (N := 2) ?hd (cs := #[.int .i64 a0_0, .int .i64 a0_1, .string a0_2, .bool a0_3, .int .i64 a0_4]) (t := 24) ?hr ?_; (case hd => rfl); (case hg => rfl); (case hr => first | (go_simp; done) | (go_simp; rfl)); intro gb202 hg w17 hbox hb; have n0_ := Aside0.mk (below_step (by repeat (first | (with_reducible first | exact HB.out | apply below_alloc | apply pw_below_drewN | apply below_drew1) | exact HB.out)) hb); have n1_ := Aside0.mk (hbox); have n2_ := Aside0.mk ((by rw [hg]; exact (below_size (by repeat (first | (with_reducible first | exact HB.out | apply below_alloc | apply pw_below_drewN | apply below_drew1) | exact HB.out))) : w.heap.size ≤ gb202)); have n3_ := Aside0.mk ((by rw [hg]; exact (below_size (by repeat (first | (with_reducible first | exact HB.out | apply below_alloc | apply pw_below_drewN | apply below_drew1) | exact HB.out))) : w.heap.size ≤ gb202)); clear HB; have HB := n0_; have BK202 := n1_; have GW202 := n2_; have GE202 := n3_; clear n0_ n1_ n2_ n3_; clear hb hbox hg) | ((with_reducible refine gate_dst (N := 3) rfl ?_); refine box_event ?hg (N := 3) ?hd (cs := #[.int .i64 a1_0, .int .i64 a1_1, .string a1_2, .bool a1_3, .int .i64 a1_4]) (t := 24) ?hr ?_; (case hd => rfl); (case hg => rfl); (case hr => first | (go_simp; done) | (go_simp; rfl)); intro gb203 hg w18 hbox hb; have n0_ := Aside0.mk (blk_below (g := gb202) (o := .cells #[.int .i64 a0_0, .int .i64 a0_1, .string a0_2, .bool a0_3, .int .i64 a0_4] 24 (0, 0)) (by (with_reducible repeat (first | refine blk_drewN ?_ _ | refine blk_drew ?_ | refine blk_alloc ?_ _)); exact BK202.out) hb); have n1_ := Aside0.mk (below_step (by repeat (first | (with_reducible first | exact HB.out | apply below_alloc | apply pw_below_drewN | apply below_drew1 | refine below_set ?_ GE202.out) | exact HB.out)) hb); have n2_ := Aside0.mk (hbox); have n3_ := Aside0.mk ((by rw [hg]; exact (below_size (by repeat (first | (with_reducible first | exact HB.out | apply below_alloc | apply pw_below_drewN | apply below_drew1 | refine below_set ?_ GE202.out) | exact HB.out))) : w.heap.size ≤ gb203)); have n4_ := Aside0.mk ((by rw [hg]; exact (below_size (by repeat (first | (with_reducible first | exact HB.out | apply below_alloc | apply pw_below_drewN | apply below_drew1 | refine below_set ?_ GE202.out) | exact HB.out))) : w.heap.size ≤ gb203)); have n5_ := Aside0.mk ((by rw [hg]; exact Nat.ne_of_lt (blk_lt (g := gb202) (o := .cells #[.int .i64 a0_0, .int .i64 a0_1, .string a0_2, .bool a0_3, .int .i64 a0_4] 24 (0, 0)) (by (with_reducible repeat (first | refine blk_drewN ?_ _ | refine blk_drew ?_ | refine blk_alloc ?_ _)); exact BK202.out)) : gb202 ≠ gb203)); have n6_ := Aside0.mk ((by rw [hg]; exact Nat.ne_of_gt (blk_lt (g := gb202) (o := .cells #[.int .i64 a0_0, .int .i64 a0_1, .string a0_2, .bool a0_3, .int .i64 a0_4] 24 (0, 0)) (by (with_reducible repeat (first | refine blk_drewN ?_ _ | refine blk_drew ?_ | refine blk_alloc ?_ _)); exact BK202.out)) : gb203 ≠ gb202)); clear BK202; clear HB; have BK202 := n0_; have HB := n1_; have BK203 := n2_; have GW203 := n3_; have GE203 := n4_; have NB202_203 := n5_; have NB203_202 := n6_; clear n0_ n1_ n2_ n3_ n4_ n5_ n6_; clear hb hbox hg; have hnb19 := NB202_203.out; have hnc19 := NB203_202.out; have hcz20_0 : w18.cell? ⟨gb202, 0, none⟩ = some (.int .i64 a0_0) := (blk_cell BK202.out 0).trans rfl; have hcz20_1 : w18.cell? ⟨gb202, 1, none⟩ = some (.int .i64 a0_1) := (blk_cell BK202.out 1).trans rfl; have hcz20_2 : w18.cell? ⟨gb202, 2, none⟩ = some (.string a0_2) := (blk_cell BK202.out 2).trans rfl; have hcz20_3 : w18.cell? ⟨gb202, 3, none⟩ = some (.bool a0_3) := (blk_cell BK202.out 3).trans rfl; have hcz20_4 : w18.cell? ⟨gb202, 4, none⟩ = some (.int .i64 a0_4) := (blk_cell BK202.out 4).trans rfl; have hfz20_0 := blk_frozen BK202.out 0; have hfz20_1 := blk_frozen BK202.out 1; have hfz20_2 := blk_frozen BK202.out 2; have hfz20_3 := blk_frozen BK202.out 3; have hfz20_4 := blk_frozen BK202.out 4; have hcz21_0 : w18.cell? ⟨gb203, 0, none⟩ = some (.int .i64 a1_0) := (blk_cell BK203.out 0).trans rfl; have hcz21_1 : w18.cell? ⟨gb203, 1, none⟩ = some (.int .i64 a1_1) := (blk_cell BK203.out 1).trans rfl; have hcz21_2 : w18.cell? ⟨gb203, 2, none⟩ = some (.string a1_2) := (blk_cell BK203.out 2).trans rfl; have hcz21_3 : w18.cell? ⟨gb203, 3, none⟩ = some (.bool a1_3) := (blk_cell BK203.out 3).trans rfl; have hcz21_4 : w18.cell? ⟨gb203, 4, none⟩ = some (.int .i64 a1_4) := (blk_cell BK203.out 4).trans rfl; have hfz21_0 := blk_frozen BK203.out 0; have hfz21_1 := blk_frozen BK203.out 1; have hfz21_2 := blk_frozen BK203.out 2; have hfz21_3 := blk_frozen BK203.out 3; have hfz21_4 := blk_frozen BK203.out 4))
    go_ret
    exact ⟨by first | rfl | (simp [errW_none, errW_some] <;> rfl) | (simp [*, errW_none, errW_some] <;> rfl) | (simp [*, errW_none, errW_some] <;> (generalize ByteArray.toList _ = l_; cases l_ <;> rfl)), by repeat (first | (with_reducible first | exact HB.out | apply below_alloc | apply pw_below_drewN | apply below_drew1 | refine below_set ?_ GE202.out | refine below_set ?_ GE203.out) | exact HB.out)⟩
  ·rw [if_neg c4] at H
   have c4b0 : (a0_1 == a1_1) = false := beq_eq_false_iff_ne.mpr c4
   have c4b1 : (a0_1 != a1_1) = true := bne_iff_ne.mpr c4
   obtain rfl := Option.some.inj H
   go_enter Tryz.func14, Tryz.ntmps14
   go_wp2_with (first | ((with_reducible refine gate_dst (N := 2) rfl ?_); refine box_event ?hg (N := 2) ?hd (cs := #[.int .i64 a0_0, .int .i64 a0_1, .string a0_2, .bool a0_3, .int .i64 a0_4]) (t := 24) ?hr ?_; (case hd => rfl); (case hg => rfl); (case hr => first | (go_simp; done) | (go_simp; rfl)); intro gb202 hg w22 hbox hb; have n0_ := Aside0.mk (below_step (by repeat (first | (with_reducible first | exact HB.out | apply below_alloc | apply pw_below_drewN | apply below_drew1) | exact HB.out)) hb); have n1_ := Aside0.mk (hbox); have n2_ := Aside0.mk ((by rw [hg]; exact (below_size (by repeat (first | (with_reducible first | exact HB.out | apply below_alloc | apply pw_below_drewN | apply below_drew1) | exact HB.out))) : w.heap.size ≤ gb202)); have n3_ := Aside0.mk ((by rw [hg]; exact (below_size (by repeat (first | (with_reducible first | exact HB.out | apply below_alloc | apply pw_below_drewN | apply below_drew1) | exact HB.out))) : w.heap.size ≤ gb202)); clear HB; have HB := n0_; have BK202 := n1_; have GW202 := n2_; have GE202 := n3_; clear n0_ n1_ n2_ n3_; clear hb hbox hg) | ((with_reducible refine gate_dst (N := 3) rfl ?_); refine box_event ?hg (N := 3) ?hd (cs := #[.int .i64 a1_0, .int .i64 a1_1, .string a1_2, .bool a1_3, .int .i64 a1_4]) (t := 24) ?hr ?_; (case hd => rfl); (case hg => rfl); (case hr => first | (go_simp; done) | (go_simp; rfl)); intro gb203 hg w23 hbox hb; have n0_ := Aside0.mk (blk_below (g := gb202) (o := .cells #[.int .i64 a0_0, .int .i64 a0_1, .string a0_2, .bool a0_3, .int .i64 a0_4] 24 (0, 0)) (by (with_reducible repeat (first | refine blk_drewN ?_ _ | refine blk_drew ?_ | refine blk_alloc ?_ _)); exact BK202.out) hb); have n1_ := Aside0.mk (below_step (by repeat (first | (with_reducible first | exact HB.out | apply below_alloc | apply pw_below_drewN | apply below_drew1 | refine below_set ?_ GE202.out) | exact HB.out)) hb); have n2_ := Aside0.mk (hbox); have n3_ := Aside0.mk ((by rw [hg]; exact (below_size (by repeat (first | (with_reducible first | exact HB.out | apply below_alloc | apply pw_below_drewN | apply below_drew1 | refine below_set ?_ GE202.out) | exact HB.out))) : w.heap.size ≤ gb203)); have n4_ := Aside0.mk ((by rw [hg]; exact (below_size (by repeat (first | (with_reducible first | exact HB.out | apply below_alloc | apply pw_below_drewN | apply below_drew1 | refine below_set ?_ GE202.out) | exact HB.out))) : w.heap.size ≤ gb203)); have n5_ := Aside0.mk ((by rw [hg]; exact Nat.ne_of_lt (blk_lt (g := gb202) (o := .cells #[.int .i64 a0_0, .int .i64 a0_1, .string a0_2, .bool a0_3, .int .i64 a0_4] 24 (0, 0)) (by (with_reducible repeat (first | refine blk_drewN ?_ _ | refine blk_drew ?_ | refine blk_alloc ?_ _)); exact BK202.out)) : gb202 ≠ gb203)); have n6_ := Aside0.mk ((by rw [hg]; exact Nat.ne_of_gt (blk_lt (g := gb202) (o := .cells #[.int .i64 a0_0, .int .i64 a0_1, .string a0_2, .bool a0_3, .int .i64 a0_4] 24 (0, 0)) (by (with_reducible repeat (first | refine blk_drewN ?_ _ | refine blk_drew ?_ | refine blk_alloc ?_ _)); exact BK202.out)) : gb203 ≠ gb202)); clear BK202; clear HB; have BK202 := n0_; have HB := n1_; have BK203 := n2_; have GW203 := n3_; have GE203 := n4_; have NB202_203 := n5_; have NB203_202 := n6_; clear n0_ n1_ n2_ n3_ n4_ n5_ n6_; clear hb hbox hg; have hnb24 := NB202_203.out; have hnc24 := NB203_202.out; have hcz25_0 : w23.cell? ⟨gb202, 0, none⟩ = some (.int .i64 a0_0) := (blk_cell BK202.out 0).trans rfl; have hcz25_1 : w23.cell? ⟨gb202, 1, none⟩ = some (.int .i64 a0_1) := (blk_cell BK202.out 1).trans rfl; have hcz25_2 : w23.cell? ⟨gb202, 2, none⟩ = some (.string a0_2) := (blk_cell BK202.out 2).trans rfl; have hcz25_3 : w23.cell? ⟨gb202, 3, none⟩ = some (.bool a0_3) := (blk_cell BK202.out 3).trans rfl; have hcz25_4 : w23.cell? ⟨gb202, 4, none⟩ = some (.int .i64 a0_4) := (blk_cell BK202.out 4).trans rfl; have hfz25_0 := blk_frozen BK202.out 0; have hfz25_1 := blk_frozen BK202.out 1; have hfz25_2 := blk_frozen BK202.out 2; have hfz25_3 := blk_frozen BK202.out 3; have hfz25_4 := blk_frozen BK202.out 4; have hcz26_0 : w23.cell? ⟨gb203, 0, none⟩ = some (.int .i64 a1_0) := (blk_cell BK203.out 0).trans rfl; have hcz26_1 : w23.cell? ⟨gb203, 1, none⟩ = some (.int .i64 a1_1) := (blk_cell BK203.out 1).trans rfl; have hcz26_2 : w23.cell? ⟨gb203, 2, none⟩ = some (.string a1_2) := (blk_cell BK203.out 2).trans rfl; have hcz26_3 : w23.cell? ⟨gb203, 3, none⟩ = some (.bool a1_3) := (blk_cell BK203.out 3).trans rfl; have hcz26_4 : w23.cell? ⟨gb203, 4, none⟩ = some (.int .i64 a1_4) := (blk_cell BK203.out 4).trans rfl; have hfz26_0 := blk_frozen BK203.out 0; have hfz26_1 := blk_frozen BK203.out 1; have hfz26_2 := blk_frozen BK203.out 2; have hfz26_3 := blk_frozen BK203.out 3; have hfz26_4 := blk_frozen BK203.out 4))
   go_ret
   exact ⟨by first | rfl | (simp [errW_none, errW_some] <;> rfl) | (simp [*, errW_none, errW_some] <;> rfl) | (simp [*, errW_none, errW_some] <;> (generalize ByteArray.toList _ = l_; cases l_ <;> rfl)), by repeat (first | (with_reducible first | exact HB.out | apply below_alloc | apply pw_below_drewN | apply below_drew1 | refine below_set ?_ GE202.out | refine below_set ?_ GE203.out) | exact HB.out)⟩
 ·rw [if_neg c3] at H
  have c3b0 : (a0_0 == a1_0) = false := beq_eq_false_iff_ne.mpr c3
  have c3b1 : (a0_0 != a1_0) = true := bne_iff_ne.mpr c3
  obtain rfl := Option.some.inj H
  go_enter Tryz.func14, Tryz.ntmps14
  go_wp2_with (first | ((with_reducible refine gate_dst (N := 2) rfl ?_); refine box_event ?hg (N := 2) ?hd (cs := #[.int .i64 a0_0, .int .i64 a0_1, .string a0_2, .bool a0_3, .int .i64 a0_4]) (t := 24) ?hr ?_; (case hd => rfl); (case hg => rfl); (case hr => first | (go_simp; done) | (go_simp; rfl)); intro gb202 hg w27 hbox hb; have n0_ := Aside0.mk (below_step (by repeat (first | (with_reducible first | exact HB.out | apply below_alloc | apply pw_below_drewN | apply below_drew1) | exact HB.out)) hb); have n1_ := Aside0.mk (hbox); have n2_ := Aside0.mk ((by rw [hg]; exact (below_size (by repeat (first | (with_reducible first | exact HB.out | apply below_alloc | apply pw_below_drewN | apply below_drew1) | exact HB.out))) : w.heap.size ≤ gb202)); have n3_ := Aside0.mk ((by rw [hg]; exact (below_size (by repeat (first | (with_reducible first | exact HB.out | apply below_alloc | apply pw_below_drewN | apply below_drew1) | exact HB.out))) : w.heap.size ≤ gb202)); clear HB; have HB := n0_; have BK202 := n1_; have GW202 := n2_; have GE202 := n3_; clear n0_ n1_ n2_ n3_; clear hb hbox hg) | ((with_reducible refine gate_dst (N := 3) rfl ?_); refine box_event ?hg (N := 3) ?hd (cs := #[.int .i64 a1_0, .int .i64 a1_1, .string a1_2, .bool a1_3, .int .i64 a1_4]) (t := 24) ?hr ?_; (case hd => rfl); (case hg => rfl); (case hr => first | (go_simp; done) | (go_simp; rfl)); intro gb203 hg w28 hbox hb; have n0_ := Aside0.mk (blk_below (g := gb202) (o := .cells #[.int .i64 a0_0, .int .i64 a0_1, .string a0_2, .bool a0_3, .int .i64 a0_4] 24 (0, 0)) (by (with_reducible repeat (first | refine blk_drewN ?_ _ | refine blk_drew ?_ | refine blk_alloc ?_ _)); exact BK202.out) hb); have n1_ := Aside0.mk (below_step (by repeat (first | (with_reducible first | exact HB.out | apply below_alloc | apply pw_below_drewN | apply below_drew1 | refine below_set ?_ GE202.out) | exact HB.out)) hb); have n2_ := Aside0.mk (hbox); have n3_ := Aside0.mk ((by rw [hg]; exact (below_size (by repeat (first | (with_reducible first | exact HB.out | apply below_alloc | apply pw_below_drewN | apply below_drew1 | refine below_set ?_ GE202.out) | exact HB.out))) : w.heap.size ≤ gb203)); have n4_ := Aside0.mk ((by rw [hg]; exact (below_size (by repeat (first | (with_reducible first | exact HB.out | apply below_alloc | apply pw_below_drewN | apply below_drew1 | refine below_set ?_ GE202.out) | exact HB.out))) : w.heap.size ≤ gb203)); have n5_ := Aside0.mk ((by rw [hg]; exact Nat.ne_of_lt (blk_lt (g := gb202) (o := .cells #[.int .i64 a0_0, .int .i64 a0_1, .string a0_2, .bool a0_3, .int .i64 a0_4] 24 (0, 0)) (by (with_reducible repeat (first | refine blk_drewN ?_ _ | refine blk_drew ?_ | refine blk_alloc ?_ _)); exact BK202.out)) : gb202 ≠ gb203)); have n6_ := Aside0.mk ((by rw [hg]; exact Nat.ne_of_gt (blk_lt (g := gb202) (o := .cells #[.int .i64 a0_0, .int .i64 a0_1, .string a0_2, .bool a0_3, .int .i64 a0_4] 24 (0, 0)) (by (with_reducible repeat (first | refine blk_drewN ?_ _ | refine blk_drew ?_ | refine blk_alloc ?_ _)); exact BK202.out)) : gb203 ≠ gb202)); clear BK202; clear HB; have BK202 := n0_; have HB := n1_; have BK203 := n2_; have GW203 := n3_; have GE203 := n4_; have NB202_203 := n5_; have NB203_202 := n6_; clear n0_ n1_ n2_ n3_ n4_ n5_ n6_; clear hb hbox hg; have hnb29 := NB202_203.out; have hnc29 := NB203_202.out; have hcz30_0 : w28.cell? ⟨gb202, 0, none⟩ = some (.int .i64 a0_0) := (blk_cell BK202.out 0).trans rfl; have hcz30_1 : w28.cell? ⟨gb202, 1, none⟩ = some (.int .i64 a0_1) := (blk_cell BK202.out 1).trans rfl; have hcz30_2 : w28.cell? ⟨gb202, 2, none⟩ = some (.string a0_2) := (blk_cell BK202.out 2).trans rfl; have hcz30_3 : w28.cell? ⟨gb202, 3, none⟩ = some (.bool a0_3) := (blk_cell BK202.out 3).trans rfl; have hcz30_4 : w28.cell? ⟨gb202, 4, none⟩ = some (.int .i64 a0_4) := (blk_cell BK202.out 4).trans rfl; have hfz30_0 := blk_frozen BK202.out 0; have hfz30_1 := blk_frozen BK202.out 1; have hfz30_2 := blk_frozen BK202.out 2; have hfz30_3 := blk_frozen BK202.out 3; have hfz30_4 := blk_frozen BK202.out 4; have hcz31_0 : w28.cell? ⟨gb203, 0, none⟩ = some (.int .i64 a1_0) := (blk_cell BK203.out 0).trans rfl; have hcz31_1 : w28.cell? ⟨gb203, 1, none⟩ = some (.int .i64 a1_1) := (blk_cell BK203.out 1).trans rfl; have hcz31_2 : w28.cell? ⟨gb203, 2, none⟩ = some (.string a1_2) := (blk_cell BK203.out 2).trans rfl; have hcz31_3 : w28.cell? ⟨gb203, 3, none⟩ = some (.bool a1_3) := (blk_cell BK203.out 3).trans rfl; have hcz31_4 : w28.cell? ⟨gb203, 4, none⟩ = some (.int .i64 a1_4) := (blk_cell BK203.out 4).trans rfl; have hfz31_0 := blk_frozen BK203.out 0; have hfz31_1 := blk_frozen BK203.out 1; have hfz31_2 := blk_frozen BK203.out 2; have hfz31_3 := blk_frozen BK203.out 3; have hfz31_4 := blk_frozen BK203.out 4))
  go_ret
  exact ⟨by first | rfl | (simp [errW_none, errW_some] <;> rfl) | (simp [*, errW_none, errW_some] <;> rfl) | (simp [*, errW_none, errW_some] <;> (generalize ByteArray.toList _ = l_; cases l_ <;> rfl)), by repeat (first | (with_reducible first | exact HB.out | apply below_alloc | apply pw_below_drewN | apply below_drew1 | refine below_set ?_ GE202.out | refine below_set ?_ GE203.out) | exact HB.out)⟩
end Go.Proofs.YtfnbflhoaemmeaaGreatDoor.EVal
end
section
namespace Go.Proofs.YtfnbflhoaemmeaaGreatDoor.EBui
open Go.RowKit Go.Lib Go.Proofs.YtfnbflhoaemmeaaGreatDoorW.PrintWords Go.Proofs.YtfnbflhoaemmeaaGreatDoorW.PrintLast Go.Proofs.YtfnbflhoaemmeaaGreatDoor.Ext Go.Proofs.YtfnbflhoaemmeaaGreatDoor.EFxA Go.Proofs.YtfnbflhoaemmeaaGreatDoor.EFix Go.Proofs.YtfnbflhoaemmeaaGreatDoor.EVal
set_option linter.unusedVariables false
set_option linter.unusedSimpArgs false
def okX (x : S24) : Prop := x.f2.size ≤ 250 ∧ int64 x.f1
theorem eq_self (a b : Int) (t : ByteArray) (d : Bool) (e : Int) : counterpaneref1_Eq.f a b t d e a b t d e = some true := by
  unfold counterpaneref1_Eq.f
  rw [if_pos rfl, if_pos rfl, if_pos rfl, if_pos (by simp)]
  simp
end Go.Proofs.YtfnbflhoaemmeaaGreatDoor.EBui
end
section
namespace Go.Proofs.YtfnbflhoaemmeaaGreatDoor.EBui
open Go.RowKit Go.Lib Go.Proofs.YtfnbflhoaemmeaaGreatDoorW.PrintWords Go.Proofs.YtfnbflhoaemmeaaGreatDoorW.PrintLast Go.Proofs.YtfnbflhoaemmeaaGreatDoor.Ext Go.Proofs.YtfnbflhoaemmeaaGreatDoor.EFxA Go.Proofs.YtfnbflhoaemmeaaGreatDoor.EFix Go.Proofs.YtfnbflhoaemmeaaGreatDoor.EVal
set_option linter.unusedVariables false
set_option linter.unusedSimpArgs false
def maX (x : S24) : Prop := mayS (v5 x) = true ∧ okX x
def one1 (x : S24) : S44 := ⟨false, [x]⟩
theorem wrong_ok (x : S24) (h : maX x) : value_wrong.f x.f0 x.f1 x.f2 x.f3 x.f4 = some (errX x) := by
  have hm : mayS (x.f0, x.f1, x.f2, x.f3, x.f4) = true := h.1
  rw [wrong_f _ _ _ _ _ (by have := h.2.1; omega), if_pos hm]
  unfold errX
  by_cases c : x.f0 = 4
  · rw [if_pos c, if_pos ⟨c, h.1⟩]
  · rw [if_neg c, if_neg (fun h => c h.1)]
theorem call_l (nm : ByteArray) (xs : List S24) (hl : xs.length ≤ 100) (h : ∀ x ∈ xs, maX x) : ∀ (n j : Nat), j + n = xs.length → ∀ (k : Nat) (acc : List S24), acc.length + n ≤ 1000 →
    builtin_Call.l0 (k + 1 + 2 * n) nm acc (xs.map one1) (xs.length : Int) (j : Int) = builtin_single.f k nm (acc ++ xs.drop j)
  | 0, j, hj, k, acc, ha => by
    rw [show k + 1 + 2 * 0 = k + 1 from rfl, builtin_Call.l0, if_neg (by omega), List.drop_of_length_le (by omega), List.append_nil]
    cases builtin_single.f k nm acc with
    | none => rfl
    | some r => rfl
  | n + 1, j, hj, k, acc, ha => by
    have c : j < xs.length := by omega
    have c2 : j < (xs.map one1).length := by rw [List.length_map]; exact c
    obtain ⟨x, hx⟩ : ∃ x, xs[j] = x := ⟨_, rfl⟩
    have hm := h x (hx ▸ List.getElem_mem c)
    have hr : rd_T44 (xs.map one1) (j : Int) = one1 x := by rw [rdA _ j c2, List.getElem_map, hx]
    have ih := call_l nm xs hl h n (j + 1) (by omega) k (acc ++ [x]) (by rw [List.length_append, List.length_singleton]; omega)
    have hd : acc ++ xs.drop j = (acc ++ [x]) ++ xs.drop (j + 1) := by rw [List.drop_eq_getElem_cons c, hx, List.append_assoc]; rfl
    rw [hd, ← ih, show k + 1 + 2 * (n + 1) = (k + 1 + 2 * n + 1) + 1 by omega, builtin_Call.l0, if_pos (by omega), if_pos (by omega), if_pos (by rw [List.length_map]; omega), hr, if_neg (show ¬ ((one1 x).f0 = true) by unfold one1; simp)]
    show builtin_Call.j2 (k + 1 + 2 * n + 1) nm acc (xs.map one1) (xs.length : Int) (j : Int) ((([x].length : Nat) : Int) != 1) false [x] = _
    rw [builtin_Call.j2, if_neg (show ¬ (((([x].length : Nat) : Int) != 1) = true) by rw [List.length_singleton]; decide), if_pos (show (0 : Int) < (([x].length : Nat) : Int) by rw [List.length_singleton]; decide), show rd_T24 [x] 0 = x from rfl, may_f _ _ _ _ _ (by have := hm.2.1; omega), Option.bind_some, if_pos (show mayS (x.f0, x.f1, x.f2, x.f3, x.f4) = true from hm.1), if_pos (by omega), wr1 j _ c (by omega)]
theorem call_f (nm : ByteArray) (lo hi : Int) (ka : Nat) (hA : ∀ k, ka ≤ k → builtin_arity.f k nm = some (lo, hi, false)) (xs : List S24) (hl : xs.length ≤ 100) (h : ∀ x ∈ xs, maX x) (h0 : 0 ≤ lo) (h1 : lo ≤ xs.length) (h2 : (xs.length : Int) ≤ hi) (r : R5) (ks : Nat) (hS : ∀ k, ks ≤ k → builtin_single.f k nm xs = some r) :
    ∃ K, ∀ k, K ≤ k → builtin_Call.f k nm (xs.map one1) = some r := by
  refine ⟨ka + ks + 2 * xs.length + 10, fun k hk => ?_⟩
  obtain ⟨q, rfl⟩ : ∃ q, k = q + 1 + 2 * xs.length + 1 := ⟨k - 2 - 2 * xs.length, by omega⟩
  unfold builtin_Call.f
  rw [hA _ (by omega), Option.bind_some, if_neg (by show ¬ lo < 0; omega), if_neg (by rw [List.length_map]; show ¬ ((xs.length : Int) < lo); omega), show (decide (((xs.map one1).length : Int) > (lo, hi, false).2.1)) = false from decide_eq_false (by rw [List.length_map]; show ¬ ((xs.length : Int) > hi); omega), builtin_Call.j0, if_neg (by simp), if_neg (by simp)]
  have := call_l nm xs hl h xs.length 0 (by omega) q [] (by simp; omega)
  rw [List.length_map]
  refine this.trans ?_
  rw [List.drop_zero, List.nil_append]
  exact hS q (by omega)
end Go.Proofs.YtfnbflhoaemmeaaGreatDoor.EBui
end
section
namespace Go.Proofs.YtfnbflhoaemmeaaGreatDoor.EBui
open Go.RowKit Go.Lib Go.Proofs.YtfnbflhoaemmeaaGreatDoorW.PrintWords Go.Proofs.YtfnbflhoaemmeaaGreatDoorW.PrintLast Go.Proofs.YtfnbflhoaemmeaaGreatDoorW.PrintMore Go.Proofs.YtfnbflhoaemmeaaGreatDoor.Ext Go.Proofs.YtfnbflhoaemmeaaGreatDoor.EFxA Go.Proofs.YtfnbflhoaemmeaaGreatDoor.EFix Go.Proofs.YtfnbflhoaemmeaaGreatDoor.EVal
attribute [local go_sem] max2_int min2_int max_two min_two max_three min_three max_four min_four
set_option linter.unusedVariables false
set_option linter.unusedSimpArgs false
theorem ar_IF (k : Nat) (h : 10 ≤ k) : builtin_arity.f k (⟨#[73, 70]⟩ : ByteArray) = some (2, 3, false) := by
  obtain ⟨q, rfl⟩ : ∃ q, k = q + 4 := ⟨k - 4, by omega⟩
  simp [builtin_arity.f, builtin_arity.j0, builtin_arity.j1, builtin_arity.j2, to_by, by_]
abbrev booX (c : Bool) : S24 := ⟨3, 0, ⟨#[]⟩, c, 0⟩
theorem boo_may (c : Bool) : maX (booX c) := by
  refine ⟨?_, Nat.zero_le _, by unfold int64; exact ⟨by show (-9223372036854775808 : Int) ≤ 0; decide, by show (0 : Int) ≤ 9223372036854775807; decide⟩⟩
  show mayS (3, 0, ⟨#[]⟩, c, 0) = true
  unfold mayS
  cases c <;> simp [by_]
theorem boo_truth (c : Bool) : value_Truth.f 3 0 (⟨#[]⟩ : ByteArray) c 0 = some (c, 0) := by
  have he : errX (booX c) = 0 := by unfold errX; rw [if_neg (fun h => absurd h.1 (show ¬ ((3 : Int) = 4) by decide))]
  have hw := wrong_ok (booX c) (boo_may c)
  rw [he] at hw
  unfold value_Truth.f
  rw [hw, Option.bind_some, if_neg (by decide), if_neg (by decide)]
  cases c
  · rw [if_neg (by simp), if_pos rfl, to_by]
    rfl
  · rw [if_pos rfl]
theorem if_f (c : Bool) (xs : List S24) (h : ∀ x ∈ xs, maX x) (a : S24) (ha : xs[0]? = some (booX c)) (n : Nat) (hn : xs.length = n) (h2 : 2 ≤ n) (h3 : n ≤ 3) (r : R5) (hr : builtin_choice.f xs = some r) : ∃ K, builtin_Call.f K (⟨#[73, 70]⟩ : ByteArray) (xs.map one1) = some r := by
  obtain ⟨K, hK⟩ := call_f (⟨#[73, 70]⟩ : ByteArray) 2 3 10 ar_IF xs (by omega) h (by decide) (by omega) (by omega) r 10 (fun k hk => by
    unfold builtin_single.f
    simp only [to_by]
    rw [if_pos (by decide), hr]
    rfl)
  exact ⟨K, hK K (Nat.le_refl _)⟩
theorem choice3 (c : Bool) (a b : S24) : builtin_choice.f [booX c, a, b] = some (if c = true then v5 a else v5 b) := by
  unfold builtin_choice.f
  have e0 : rd_T24 [booX c, a, b] 0 = booX c := rfl
  have e1 : rd_T24 [booX c, a, b] 1 = a := rfl
  have e2 : rd_T24 [booX c, a, b] 2 = b := rfl
  have el : (([booX c, a, b] : List S24).length : Int) = 3 := rfl
  rw [el, if_pos (by decide), e0, e1, e2, boo_truth, Option.bind_some, if_neg (show ¬ ((0 : Int) > 0) by decide)]
  cases c
  · rw [if_neg (by simp), if_pos rfl, if_pos (by decide), if_neg (by simp)]
    rfl
  · rw [if_pos rfl, if_pos (by decide), if_pos rfl]
    rfl
theorem choice2 (c : Bool) (a : S24) : builtin_choice.f [booX c, a] = some (if c = true then v5 a else (3, 0, (⟨#[]⟩ : ByteArray), false, 0)) := by
  unfold builtin_choice.f
  have e0 : rd_T24 [booX c, a] 0 = booX c := rfl
  have e1 : rd_T24 [booX c, a] 1 = a := rfl
  have el : (([booX c, a] : List S24).length : Int) = 2 := rfl
  rw [el, if_pos (by decide), e0, e1, boo_truth, Option.bind_some, if_neg (show ¬ ((0 : Int) > 0) by decide)]
  cases c
  · rw [if_neg (by simp), if_neg (by decide), if_neg (by simp)]
    rfl
  · rw [if_pos rfl, if_pos (by decide), if_pos rfl]
    rfl
theorem call3 (c : Bool) (a b : S24) (ha : maX a) (hb : maX b) : ∃ K, builtin_Call.f K (⟨#[73, 70]⟩ : ByteArray) [⟨false, [booX c]⟩, ⟨false, [a]⟩, ⟨false, [b]⟩] = some (if c = true then v5 a else v5 b) :=
  if_f c [booX c, a, b] (fun x hx => by
    simp only [List.mem_cons, List.not_mem_nil, or_false] at hx
    rcases hx with rfl | rfl | rfl
    · exact boo_may c
    · exact ha
    · exact hb) a rfl 3 rfl (by decide) (by decide) _ (choice3 c a b)
theorem call2 (c : Bool) (a : S24) (ha : maX a) : ∃ K, builtin_Call.f K (⟨#[73, 70]⟩ : ByteArray) [⟨false, [booX c]⟩, ⟨false, [a]⟩] = some (if c = true then v5 a else (3, 0, (⟨#[]⟩ : ByteArray), false, 0)) :=
  if_f c [booX c, a] (fun x hx => by
    simp only [List.mem_cons, List.not_mem_nil, or_false] at hx
    rcases hx with rfl | rfl
    · exact boo_may c
    · exact ha) a rfl 2 rfl (by decide) (by decide) _ (choice2 c a)
end Go.Proofs.YtfnbflhoaemmeaaGreatDoor.EBui
end
section
namespace Go.Proofs.YtfnbflhoaemmeaaGreatDoor.EBui
open Go.RowKit Go.Lib Go.Proofs.YtfnbflhoaemmeaaGreatDoorW.PrintWords Go.Proofs.YtfnbflhoaemmeaaGreatDoorW.PrintLast Go.Proofs.YtfnbflhoaemmeaaGreatDoorW.PrintMore Go.Proofs.YtfnbflhoaemmeaaGreatDoor.Ext Go.Proofs.YtfnbflhoaemmeaaGreatDoor.EFxA Go.Proofs.YtfnbflhoaemmeaaGreatDoor.EFix Go.Proofs.YtfnbflhoaemmeaaGreatDoor.EVal
attribute [local go_sem] max2_int min2_int max_two min_two max_three min_three max_four min_four
set_option linter.unusedVariables false
set_option linter.unusedSimpArgs false
set_option maxHeartbeats 8000000 in
set_option maxRecDepth 100000 in
theorem arity_SUM (w : World) :
    Calls Tryz.prog 53 #[.string (⟨#[83, 85, 77]⟩ : ByteArray)] w fun e w' => e = .returned (.tuple #[.int .i64 0, .int .i64 810000, .bool true]) ∧ Drawn0 w w' := by
  have hu24 := Tryz.underlying24
  have HB := Aside0.mk (Below.refl w.heap.size w)
  go_enter Tryz.func53, Tryz.ntmps53
  go_wp2
  go_ret3
  exact ⟨by first | rfl | (simp; done) | (simp [*]; done), by repeat (first | exact Drawn0.refl _ | apply Drawn0.step)⟩
set_option maxHeartbeats 8000000 in
set_option maxRecDepth 100000 in
theorem arity_IF (w : World) :
    Calls Tryz.prog 53 #[.string (⟨#[73, 70]⟩ : ByteArray)] w fun e w' => e = .returned (.tuple #[.int .i64 2, .int .i64 3, .bool false]) ∧ Drawn0 w w' := by
  have hu24 := Tryz.underlying24
  have HB := Aside0.mk (Below.refl w.heap.size w)
  go_enter Tryz.func53, Tryz.ntmps53
  go_wp2
  go_ret3
  exact ⟨by first | rfl | (simp; done) | (simp [*]; done), by repeat (first | exact Drawn0.refl _ | apply Drawn0.step)⟩
set_option maxHeartbeats 8000000 in
set_option maxRecDepth 100000 in
theorem arity_if (w : World) :
    Calls Tryz.prog 53 #[.string (⟨#[105, 102]⟩ : ByteArray)] w fun e w' => e = .returned (.tuple #[.int .i64 (-1), .int .i64 (-1), .bool false]) ∧ Drawn0 w w' := by
  have hu24 := Tryz.underlying24
  have HB := Aside0.mk (Below.refl w.heap.size w)
  go_enter Tryz.func53, Tryz.ntmps53
  go_wp2
  go_ret3
  exact ⟨by first | rfl | (simp; done) | (simp [*]; done), by repeat (first | exact Drawn0.refl _ | apply Drawn0.step)⟩
set_option maxHeartbeats 8000000 in
set_option maxRecDepth 100000 in
theorem known_IF (w : World) :
    Calls Tryz.prog 51 #[.string (⟨#[73, 70]⟩ : ByteArray)] w fun e w' => e = .returned (.bool true) ∧ Drawn0 w w' := by
  have hu24 := Tryz.underlying24
  have HB := Aside0.mk (Below.refl w.heap.size w)
  go_enter Tryz.func51, Tryz.ntmps51
  go_wp2_with (first
    | ((with_reducible refine gate_callee (f := 53) rfl ?_); (try (refine gate_guard (by rfl) ?_; dsimp only)); refine goesL_ (some 8) rfl rfl Tryz.func53 (by kernel_rfl) rfl #[.string (⟨#[73, 70]⟩ : ByteArray)] rfl (by (try simp only [List.map_toArray, List.map_cons, List.map_nil]); first | done | rfl) ?_; (refine (arity_IF _).mono ?_); rintro e_ w_ ⟨rfl, ⟨nd, rfl⟩⟩; refine ⟨_, rfl, ?_⟩))
  go_ret
  exact ⟨by first | rfl | (simp; done) | (simp [*]; done), by repeat (first | exact Drawn0.refl _ | apply Drawn0.step)⟩
set_option maxHeartbeats 8000000 in
set_option maxRecDepth 100000 in
theorem known_if (w : World) :
    Calls Tryz.prog 51 #[.string (⟨#[105, 102]⟩ : ByteArray)] w fun e w' => e = .returned (.bool false) ∧ Drawn0 w w' := by
  have hu24 := Tryz.underlying24
  have HB := Aside0.mk (Below.refl w.heap.size w)
  go_enter Tryz.func51, Tryz.ntmps51
  go_wp2_with (first
    | ((with_reducible refine gate_callee (f := 53) rfl ?_); (try (refine gate_guard (by rfl) ?_; dsimp only)); refine goesL_ (some 8) rfl rfl Tryz.func53 (by kernel_rfl) rfl #[.string (⟨#[105, 102]⟩ : ByteArray)] rfl (by (try simp only [List.map_toArray, List.map_cons, List.map_nil]); first | done | rfl) ?_; (refine (arity_if _).mono ?_); rintro e_ w_ ⟨rfl, ⟨nd, rfl⟩⟩; refine ⟨_, rfl, ?_⟩))
  go_ret
  exact ⟨by first | rfl | (simp; done) | (simp [*]; done), by repeat (first | exact Drawn0.refl _ | apply Drawn0.step)⟩
set_option maxHeartbeats 8000000 in
set_option maxRecDepth 100000 in
theorem least_00 (w : World) :
    Calls Tryz.prog 57 #[.int .i64 0, .int .i64 0] w fun e w' => e = .returned (.int .i64 0) ∧ Drawn0 w w' := by
  have hu24 := Tryz.underlying24
  have HB := Aside0.mk (Below.refl w.heap.size w)
  go_enter Tryz.func57, Tryz.ntmps57
  go_wp2
  go_ret
  exact ⟨by first | rfl | (simp; done) | (simp [*]; done), by repeat (first | exact Drawn0.refl _ | apply Drawn0.step)⟩
set_option maxHeartbeats 8000000 in
set_option maxRecDepth 100000 in
theorem arith_div (w : World) :
    Calls Tryz.prog 58 #[.string (⟨#[47]⟩ : ByteArray), .int .i64 1, .int .i64 0] w fun e w' => e = .returned (.agg #[.int .i64 4, .int .i64 0, .string (⟨#[]⟩ : ByteArray), .bool false, .int .i64 3]) ∧ Below w.heap.size w w' := by
  have hu24 := Tryz.underlying24
  have HB := Aside0.mk (Below.refl w.heap.size w)
  go_enter Tryz.func58, Tryz.ntmps58
  go_wp2_with (first
    | ((with_reducible refine gate_dst (N := 6) rfl ?_); (try (refine gate_guard (by rfl) ?_; dsimp only)); refine box_event ?hg (N := 6) ?hd (cs := cs5 0 0 (⟨#[]⟩ : ByteArray) false 0) (t := 24) ?hr ?_; (case hd => rfl); (case hg => rfl); (case hr => first | (go_simp; done) | (go_simp; rfl)); intro gR hg wR hbox hb; have GER := Aside0.mk ((by rw [hg]; exact (below_size (by repeat (first | (with_reducible first | exact HB.out | apply bA | apply below_drew | apply bN | apply bD) | exact HB.out))) : w.heap.size ≤ gR)); have nX_ := Aside0.mk hbox; have n0_ := Aside0.mk (below_step (by repeat (first | (with_reducible first | exact HB.out | apply bA | apply below_drew | apply bN | apply bD) | exact HB.out)) hb); clear HB ; have HB := n0_; clear n0_ hb; have BKR := nX_; clear nX_ hbox hg; obtain ⟨zR0, zR1, zR2, zR3, zR4, zRf0, zRf1, zRf2, zRf3, zRf4⟩ := five BKR.out)
    | ((with_reducible refine gate_callee (f := 54) rfl ?_); (try (refine gate_guard (by rfl) ?_; dsimp only)); refine goesL_ (some 38) rfl rfl Tryz.func54 (by kernel_rfl) rfl #[.int .i64 3] rfl (by (try simp only [List.map_toArray, List.map_cons, List.map_nil]); first | done | rfl) ?_; (refine (builtin_failed.calls 3 4 0 (⟨#[]⟩ : ByteArray) false 3 _ rfl).mono ?_); rintro e_ v1 ⟨rfl, hb⟩; refine ⟨_, rfl, ?_⟩; have mR_ := Aside0.mk (blk_below (by (with_reducible repeat (first | refine blk_drewN ?_ _ | refine blk_drew ?_ | refine blk_alloc ?_ _)); exact BKR.out) hb); have n0_ := Aside0.mk (below_step (by repeat (first | (with_reducible first | exact HB.out | apply bA | apply below_drew | apply bN | apply bD | refine below_set ?_ GER.out) | exact HB.out)) hb); clear HB BKR; have HB := n0_; have BKR := mR_; clear n0_ mR_ hb; obtain ⟨zR0, zR1, zR2, zR3, zR4, zRf0, zRf1, zRf2, zRf3, zRf4⟩ := five BKR.out))
  refine bodyPost_ret (results_cell_row rfl _ _ gR 24 (cs5 4 0 (⟨#[]⟩ : ByteArray) false 3) (0, 0) _ rfl (vput (by (with_reducible repeat (first | refine blk_drewN ?_ _ | refine blk_drew ?_ | refine blk_alloc ?_ _)); exact BKR.out) _ _ _ _ _) Tryz.underlying24 rfl (by kernel_rfl)) rfl ?_
  exact ⟨by first | rfl | (simp; done) | (simp [*]; done), (by repeat (first | (with_reducible first | exact HB.out | apply bA | apply below_drew | apply bN | apply bD | refine below_set ?_ GER.out) | exact HB.out))⟩
theorem sub03 (w : World) : Calls Tryz.prog 88 #[.int .i64 0, .int .i64 3] w fun e w' => e = .returned (.tuple #[.int .i64 (-3), .bool true]) ∧ Below w.heap.size w w' := by
  refine (fixnum_Sub.calls 0 3 (-3) true w (by unfold fixnum_Sub.f; rw [wr _ (by decide) (by decide)]; rfl)).mono ?_
  rintro e w' ⟨h1, h2⟩
  exact ⟨h1, h2.below⟩
set_option maxHeartbeats 8000000 in
set_option maxRecDepth 100000 in
theorem arith_neg (w : World) :
    Calls Tryz.prog 58 #[.string (⟨#[45]⟩ : ByteArray), .int .i64 0, .int .i64 3] w fun e w' => e = .returned (.agg #[.int .i64 1, .int .i64 (-3), .string (⟨#[]⟩ : ByteArray), .bool false, .int .i64 0]) ∧ Below w.heap.size w w' := by
  have hu24 := Tryz.underlying24
  have HB := Aside0.mk (Below.refl w.heap.size w)
  go_enter Tryz.func58, Tryz.ntmps58
  go_wp2_with (first
    | ((with_reducible refine gate_dst (N := 6) rfl ?_); (try (refine gate_guard (by rfl) ?_; dsimp only)); refine box_event ?hg (N := 6) ?hd (cs := cs5 0 0 (⟨#[]⟩ : ByteArray) false 0) (t := 24) ?hr ?_; (case hd => rfl); (case hg => rfl); (case hr => first | (go_simp; done) | (go_simp; rfl)); intro gR hg wR hbox hb; have GER := Aside0.mk ((by rw [hg]; exact (below_size (by repeat (first | (with_reducible first | exact HB.out | apply bA | apply below_drew | apply bN | apply bD) | exact HB.out))) : w.heap.size ≤ gR)); have nX_ := Aside0.mk hbox; have n0_ := Aside0.mk (below_step (by repeat (first | (with_reducible first | exact HB.out | apply bA | apply below_drew | apply bN | apply bD) | exact HB.out)) hb); clear HB ; have HB := n0_; clear n0_ hb; have BKR := nX_; clear nX_ hbox hg; obtain ⟨zR0, zR1, zR2, zR3, zR4, zRf0, zRf1, zRf2, zRf3, zRf4⟩ := five BKR.out)
    | ((with_reducible refine gate_callee (f := 88) rfl ?_); (try (refine gate_guard (by rfl) ?_; dsimp only)); refine goesL_ (some 23) rfl rfl Tryz.func88 (by kernel_rfl) rfl #[.int .i64 0, .int .i64 3] rfl (by (try simp only [List.map_toArray, List.map_cons, List.map_nil]); first | done | rfl) ?_; (refine (sub03 _).mono ?_); rintro e_ v1 ⟨rfl, hb⟩; refine ⟨_, rfl, ?_⟩; have mR_ := Aside0.mk (blk_below (by (with_reducible repeat (first | refine blk_drewN ?_ _ | refine blk_drew ?_ | refine blk_alloc ?_ _)); exact BKR.out) hb); have n0_ := Aside0.mk (below_step (by repeat (first | (with_reducible first | exact HB.out | apply bA | apply below_drew | apply bN | apply bD | refine below_set ?_ GER.out) | exact HB.out)) hb); clear HB BKR; have HB := n0_; have BKR := mR_; clear n0_ mR_ hb)
    | ((with_reducible refine gate_callee (f := 82) rfl ?_); (try (refine gate_guard (by rfl) ?_; dsimp only)); refine goesL_ (some 49) rfl rfl Tryz.func82 (by kernel_rfl) rfl #[.int .i64 (-3)] rfl (by (try simp only [List.map_toArray, List.map_cons, List.map_nil]); first | done | rfl) ?_; (refine (builtin_number.calls (-3) 1 (-3) (⟨#[]⟩ : ByteArray) false 0 _ rfl).mono ?_); rintro e_ v2 ⟨rfl, hb⟩; refine ⟨_, rfl, ?_⟩; have mR_ := Aside0.mk (blk_below (by (with_reducible repeat (first | refine blk_drewN ?_ _ | refine blk_drew ?_ | refine blk_alloc ?_ _)); exact BKR.out) hb); have n0_ := Aside0.mk (below_step (by repeat (first | (with_reducible first | exact HB.out | apply bA | apply below_drew | apply bN | apply bD | refine below_set ?_ GER.out) | exact HB.out)) hb); clear HB BKR; have HB := n0_; have BKR := mR_; clear n0_ mR_ hb; obtain ⟨zR0, zR1, zR2, zR3, zR4, zRf0, zRf1, zRf2, zRf3, zRf4⟩ := five BKR.out))
  refine bodyPost_ret (results_cell_row rfl _ _ gR 24 (cs5 1 (-3) (⟨#[]⟩ : ByteArray) false 0) (0, 0) _ rfl (vput (by (with_reducible repeat (first | refine blk_drewN ?_ _ | refine blk_drew ?_ | refine blk_alloc ?_ _)); exact BKR.out) _ _ _ _ _) Tryz.underlying24 rfl (by kernel_rfl)) rfl ?_
  exact ⟨by first | rfl | (simp; done) | (simp [*]; done), (by repeat (first | (with_reducible first | exact HB.out | apply bA | apply below_drew | apply bN | apply bD | refine below_set ?_ GER.out) | exact HB.out))⟩
theorem num_num (n : Int) : value_Number.f 1 n (⟨#[]⟩ : ByteArray) false 0 = some (n, 0) := by
  rw [number_f 1 n _ false 0 (by decide)]
  rfl
set_option maxHeartbeats 8000000 in
set_option maxRecDepth 100000 in
theorem neg_3 (w : World)(hL : Aside0 (Lq w)) :
    Calls Tryz.prog 52 #[.agg #[.int .i64 1, .int .i64 3, .string (⟨#[]⟩ : ByteArray), .bool false, .int .i64 0]] w fun e w' => e = .returned (.agg #[.int .i64 1, .int .i64 (-3), .string (⟨#[]⟩ : ByteArray), .bool false, .int .i64 0]) ∧ Below w.heap.size w w' := by
  have hu24 := Tryz.underlying24
  have HB := Aside0.mk (Below.refl w.heap.size w)
  go_enter Tryz.func52, Tryz.ntmps52
  go_wp2_with (first
    | ((with_reducible refine gate_dst (N := 1) rfl ?_); (try (refine gate_guard (by rfl) ?_; dsimp only)); refine box_event ?hg (N := 1) ?hd (cs := cs5 1 3 (⟨#[]⟩ : ByteArray) false 0) (t := 24) ?hr ?_; (case hd => rfl); (case hg => rfl); (case hr => first | (go_simp; done) | (go_simp; rfl)); intro gA hg wA hbox hb; have GEA := Aside0.mk ((by rw [hg]; exact (below_size (by repeat (first | (with_reducible first | exact HB.out | apply bA | apply below_drew | apply bN | apply bD) | exact HB.out))) : w.heap.size ≤ gA)); have nX_ := Aside0.mk hbox; have n0_ := Aside0.mk (below_step (by repeat (first | (with_reducible first | exact HB.out | apply bA | apply below_drew | apply bN | apply bD) | exact HB.out)) hb); clear HB ; have HB := n0_; clear n0_ hb; have BKA := nX_; clear nX_ hbox hg; obtain ⟨zA0, zA1, zA2, zA3, zA4, zAf0, zAf1, zAf2, zAf3, zAf4⟩ := five BKA.out)
    | ((with_reducible refine gate_dst (N := 2) rfl ?_); (try (refine gate_guard (by rfl) ?_; dsimp only)); refine box_event ?hg (N := 2) ?hd (cs := cs5 0 0 (⟨#[]⟩ : ByteArray) false 0) (t := 24) ?hr ?_; (case hd => rfl); (case hg => rfl); (case hr => first | (go_simp; done) | (go_simp; rfl)); intro gR hg wR hbox hb; have GER := Aside0.mk ((by rw [hg]; exact (below_size (by repeat (first | (with_reducible first | exact HB.out | apply bA | apply below_drew | apply bN | apply bD | refine below_set ?_ GEA.out) | exact HB.out))) : w.heap.size ≤ gR)); have NEAR : gA ≠ gR := (by rw [hg]; exact Nat.ne_of_lt (blk_lt (by (with_reducible repeat (first | refine blk_drewN ?_ _ | refine blk_drew ?_ | refine blk_alloc ?_ _)); exact BKA.out))); have NERA : gR ≠ gA := Ne.symm NEAR; have nX_ := Aside0.mk hbox; have mA_ := Aside0.mk (blk_below (by (with_reducible repeat (first | refine blk_drewN ?_ _ | refine blk_drew ?_ | refine blk_alloc ?_ _)); exact BKA.out) hb); have n0_ := Aside0.mk (below_step (by repeat (first | (with_reducible first | exact HB.out | apply bA | apply below_drew | apply bN | apply bD | refine below_set ?_ GEA.out) | exact HB.out)) hb); clear HB BKA; have HB := n0_; have BKA := mA_; clear n0_ mA_ hb; have BKR := nX_; clear nX_ hbox hg; clear zA0 zAf0 zA1 zAf1 zA2 zAf2 zA3 zAf3 zA4 zAf4; obtain ⟨zA0, zA1, zA2, zA3, zA4, zAf0, zAf1, zAf2, zAf3, zAf4⟩ := five BKA.out; obtain ⟨zR0, zR1, zR2, zR3, zR4, zRf0, zRf1, zRf2, zRf3, zRf4⟩ := five BKR.out)
    | ((with_reducible refine gate_callee (f := 17) rfl ?_); (try (refine gate_guard (by rfl) ?_; dsimp only)); refine goesL_ (some 7) rfl rfl Tryz.func17 (by kernel_rfl) rfl #[.agg #[.int .i64 1, .int .i64 3, .string (⟨#[]⟩ : ByteArray), .bool false, .int .i64 0]] rfl (by (try simp only [List.map_toArray, List.map_cons, List.map_nil]); first | done | rfl) ?_; (refine (value_Number.calls (hL := ⟨hL.out.below (by repeat (first | (with_reducible first | exact HB.out | apply bA | apply below_drew | apply bN | apply bD | refine below_set ?_ GEA.out | refine below_set ?_ GER.out) | exact HB.out))⟩) 1 3 (⟨#[]⟩ : ByteArray) false 0 3 0 _ (num_num 3)).mono ?_); rintro e_ v1 ⟨rfl, hb⟩; refine ⟨_, rfl, ?_⟩; have mA_ := Aside0.mk (blk_below (by (with_reducible repeat (first | refine blk_drewN ?_ _ | refine blk_drew ?_ | refine blk_alloc ?_ _)); exact BKA.out) hb); have mR_ := Aside0.mk (blk_below (by (with_reducible repeat (first | refine blk_drewN ?_ _ | refine blk_drew ?_ | refine blk_alloc ?_ _)); exact BKR.out) hb); have n0_ := Aside0.mk (below_step (by repeat (first | (with_reducible first | exact HB.out | apply bA | apply below_drew | apply bN | apply bD | refine below_set ?_ GEA.out | refine below_set ?_ GER.out) | exact HB.out)) hb); clear HB BKA BKR; have HB := n0_; have BKA := mA_; have BKR := mR_; clear n0_ mA_ mR_ hb)
    | ((with_reducible refine gate_callee (f := 58) rfl ?_); (try (refine gate_guard (by rfl) ?_; dsimp only)); refine goesL_ (some 15) rfl rfl Tryz.func58 (by kernel_rfl) rfl #[.string (⟨#[45]⟩ : ByteArray), .int .i64 0, .int .i64 3] rfl (by (try simp only [List.map_toArray, List.map_cons, List.map_nil]); first | done | rfl) ?_; (refine (arith_neg _).mono ?_); rintro e_ v2 ⟨rfl, hb⟩; refine ⟨_, rfl, ?_⟩; have mA_ := Aside0.mk (blk_below (by (with_reducible repeat (first | refine blk_drewN ?_ _ | refine blk_drew ?_ | refine blk_alloc ?_ _)); exact BKA.out) hb); have mR_ := Aside0.mk (blk_below (by (with_reducible repeat (first | refine blk_drewN ?_ _ | refine blk_drew ?_ | refine blk_alloc ?_ _)); exact BKR.out) hb); have n0_ := Aside0.mk (below_step (by repeat (first | (with_reducible first | exact HB.out | apply bA | apply below_drew | apply bN | apply bD | refine below_set ?_ GEA.out | refine below_set ?_ GER.out) | exact HB.out)) hb); clear HB BKA BKR; have HB := n0_; have BKA := mA_; have BKR := mR_; clear n0_ mA_ mR_ hb; obtain ⟨zR0, zR1, zR2, zR3, zR4, zRf0, zRf1, zRf2, zRf3, zRf4⟩ := five BKR.out))
  refine bodyPost_ret (results_cell_row rfl _ _ gR 24 (cs5 1 (-3) (⟨#[]⟩ : ByteArray) false 0) (0, 0) _ rfl (vput (by (with_reducible repeat (first | refine blk_drewN ?_ _ | refine blk_drew ?_ | refine blk_alloc ?_ _)); exact BKR.out) _ _ _ _ _) Tryz.underlying24 rfl (by kernel_rfl)) rfl ?_
  exact ⟨by first | rfl | (simp; done) | (simp [*]; done), (by repeat (first | (with_reducible first | exact HB.out | apply bA | apply below_drew | apply bN | apply bD | refine below_set ?_ GEA.out | refine below_set ?_ GER.out) | exact HB.out))⟩
theorem txt_num (n : Int) (h : -9223372036854775808 ≤ n ∧ n ≤ 9223372036854775807) : ∃ p, value_Text.f 1 n (⟨#[]⟩ : ByteArray) false 0 = some (p, 0) := by
  obtain ⟨p, hp, _⟩ := print_f n h.1 h.2
  refine ⟨p, ?_⟩
  rw [text_f 1 n _ false 0 p hp (by decide)]
  rfl
set_option maxHeartbeats 8000000 in
set_option maxRecDepth 100000 in
theorem binary_div (w : World)(hL : Aside0 (Lq w)) :
    Calls Tryz.prog 31 #[.string (⟨#[47]⟩ : ByteArray), .agg #[.int .i64 1, .int .i64 1, .string (⟨#[]⟩ : ByteArray), .bool false, .int .i64 0], .agg #[.int .i64 1, .int .i64 0, .string (⟨#[]⟩ : ByteArray), .bool false, .int .i64 0]] w fun e w' => e = .returned (.agg #[.int .i64 4, .int .i64 0, .string (⟨#[]⟩ : ByteArray), .bool false, .int .i64 3]) ∧ Below w.heap.size w w' := by
  have hu24 := Tryz.underlying24
  have HB := Aside0.mk (Below.refl w.heap.size w)
  obtain ⟨P1, p1⟩ := txt_num 1 (by decide)
  obtain ⟨P0, p0⟩ := txt_num 0 (by decide)
  have HP1 := Aside0.mk p1
  have HP0 := Aside0.mk p0
  clear p1 p0
  go_enter Tryz.func31, Tryz.ntmps31
  go_wp2_with (first
    | ((with_reducible refine gate_dst (N := 4) rfl ?_); (try (refine gate_guard (by rfl) ?_; dsimp only)); refine box_event ?hg (N := 4) ?hd (cs := cs5 1 1 (⟨#[]⟩ : ByteArray) false 0) (t := 24) ?hr ?_; (case hd => rfl); (case hg => rfl); (case hr => first | (go_simp; done) | (go_simp; rfl)); intro gA hg wA hbox hb; have GEA := Aside0.mk ((by rw [hg]; exact (below_size (by repeat (first | (with_reducible first | exact HB.out | apply bA | apply below_drew | apply bN | apply bD) | exact HB.out))) : w.heap.size ≤ gA)); have nX_ := Aside0.mk hbox; have n0_ := Aside0.mk (below_step (by repeat (first | (with_reducible first | exact HB.out | apply bA | apply below_drew | apply bN | apply bD) | exact HB.out)) hb); clear HB ; have HB := n0_; clear n0_ hb; have BKA := nX_; clear nX_ hbox hg; obtain ⟨zA0, zA1, zA2, zA3, zA4, zAf0, zAf1, zAf2, zAf3, zAf4⟩ := five BKA.out)
    | ((with_reducible refine gate_dst (N := 5) rfl ?_); (try (refine gate_guard (by rfl) ?_; dsimp only)); refine box_event ?hg (N := 5) ?hd (cs := cs5 1 0 (⟨#[]⟩ : ByteArray) false 0) (t := 24) ?hr ?_; (case hd => rfl); (case hg => rfl); (case hr => first | (go_simp; done) | (go_simp; rfl)); intro gB hg wB hbox hb; have GEB := Aside0.mk ((by rw [hg]; exact (below_size (by repeat (first | (with_reducible first | exact HB.out | apply bA | apply below_drew | apply bN | apply bD | refine below_set ?_ GEA.out) | exact HB.out))) : w.heap.size ≤ gB)); have NEAB : gA ≠ gB := (by rw [hg]; exact Nat.ne_of_lt (blk_lt (by (with_reducible repeat (first | refine blk_drewN ?_ _ | refine blk_drew ?_ | refine blk_alloc ?_ _)); exact BKA.out))); have NEBA : gB ≠ gA := Ne.symm NEAB; have nX_ := Aside0.mk hbox; have mA_ := Aside0.mk (blk_below (by (with_reducible repeat (first | refine blk_drewN ?_ _ | refine blk_drew ?_ | refine blk_alloc ?_ _)); exact BKA.out) hb); have n0_ := Aside0.mk (below_step (by repeat (first | (with_reducible first | exact HB.out | apply bA | apply below_drew | apply bN | apply bD | refine below_set ?_ GEA.out) | exact HB.out)) hb); clear HB BKA; have HB := n0_; have BKA := mA_; clear n0_ mA_ hb; have BKB := nX_; clear nX_ hbox hg; clear zA0 zAf0 zA1 zAf1 zA2 zAf2 zA3 zAf3 zA4 zAf4; obtain ⟨zA0, zA1, zA2, zA3, zA4, zAf0, zAf1, zAf2, zAf3, zAf4⟩ := five BKA.out; obtain ⟨zB0, zB1, zB2, zB3, zB4, zBf0, zBf1, zBf2, zBf3, zBf4⟩ := five BKB.out)
    | ((with_reducible refine gate_dst (N := 6) rfl ?_); (try (refine gate_guard (by rfl) ?_; dsimp only)); refine box_event ?hg (N := 6) ?hd (cs := cs5 0 0 (⟨#[]⟩ : ByteArray) false 0) (t := 24) ?hr ?_; (case hd => rfl); (case hg => rfl); (case hr => first | (go_simp; done) | (go_simp; rfl)); intro gR hg wR hbox hb; have GER := Aside0.mk ((by rw [hg]; exact (below_size (by repeat (first | (with_reducible first | exact HB.out | apply bA | apply below_drew | apply bN | apply bD | refine below_set ?_ GEA.out | refine below_set ?_ GEB.out) | exact HB.out))) : w.heap.size ≤ gR)); have NEAR : gA ≠ gR := (by rw [hg]; exact Nat.ne_of_lt (blk_lt (by (with_reducible repeat (first | refine blk_drewN ?_ _ | refine blk_drew ?_ | refine blk_alloc ?_ _)); exact BKA.out))); have NERA : gR ≠ gA := Ne.symm NEAR; have NEBR : gB ≠ gR := (by rw [hg]; exact Nat.ne_of_lt (blk_lt (by (with_reducible repeat (first | refine blk_drewN ?_ _ | refine blk_drew ?_ | refine blk_alloc ?_ _)); exact BKB.out))); have NERB : gR ≠ gB := Ne.symm NEBR; have nX_ := Aside0.mk hbox; have mA_ := Aside0.mk (blk_below (by (with_reducible repeat (first | refine blk_drewN ?_ _ | refine blk_drew ?_ | refine blk_alloc ?_ _)); exact BKA.out) hb); have mB_ := Aside0.mk (blk_below (by (with_reducible repeat (first | refine blk_drewN ?_ _ | refine blk_drew ?_ | refine blk_alloc ?_ _)); exact BKB.out) hb); have n0_ := Aside0.mk (below_step (by repeat (first | (with_reducible first | exact HB.out | apply bA | apply below_drew | apply bN | apply bD | refine below_set ?_ GEA.out | refine below_set ?_ GEB.out) | exact HB.out)) hb); clear HB BKA BKB; have HB := n0_; have BKA := mA_; have BKB := mB_; clear n0_ mA_ mB_ hb; have BKR := nX_; clear nX_ hbox hg; clear zA0 zAf0 zA1 zAf1 zA2 zAf2 zA3 zAf3 zA4 zAf4; obtain ⟨zA0, zA1, zA2, zA3, zA4, zAf0, zAf1, zAf2, zAf3, zAf4⟩ := five BKA.out; clear zB0 zBf0 zB1 zBf1 zB2 zBf2 zB3 zBf3 zB4 zBf4; obtain ⟨zB0, zB1, zB2, zB3, zB4, zBf0, zBf1, zBf2, zBf3, zBf4⟩ := five BKB.out; obtain ⟨zR0, zR1, zR2, zR3, zR4, zRf0, zRf1, zRf2, zRf3, zRf4⟩ := five BKR.out)
    | ((with_reducible refine gate_callee (f := 19) rfl ?_); (try (refine gate_guard (by rfl) ?_; dsimp only)); refine goesL_ (some 23) rfl rfl Tryz.func19 (by kernel_rfl) rfl #[.agg #[.int .i64 1, .int .i64 1, .string (⟨#[]⟩ : ByteArray), .bool false, .int .i64 0]] rfl (by (try simp only [List.map_toArray, List.map_cons, List.map_nil]); first | done | rfl) ?_; (refine (value_Text.calls (hL := ⟨hL.out.below (by repeat (first | (with_reducible first | exact HB.out | apply bA | apply below_drew | apply bN | apply bD | refine below_set ?_ GEA.out | refine below_set ?_ GEB.out | refine below_set ?_ GER.out) | exact HB.out))⟩) 1 1 (⟨#[]⟩ : ByteArray) false 0 P1 0 _ HP1.out).mono ?_); rintro e_ v1 ⟨rfl, hb⟩; refine ⟨_, rfl, ?_⟩; have mA_ := Aside0.mk (blk_below (by (with_reducible repeat (first | refine blk_drewN ?_ _ | refine blk_drew ?_ | refine blk_alloc ?_ _)); exact BKA.out) hb); have mB_ := Aside0.mk (blk_below (by (with_reducible repeat (first | refine blk_drewN ?_ _ | refine blk_drew ?_ | refine blk_alloc ?_ _)); exact BKB.out) hb); have mR_ := Aside0.mk (blk_below (by (with_reducible repeat (first | refine blk_drewN ?_ _ | refine blk_drew ?_ | refine blk_alloc ?_ _)); exact BKR.out) hb); have n0_ := Aside0.mk (below_step (by repeat (first | (with_reducible first | exact HB.out | apply bA | apply below_drew | apply bN | apply bD | refine below_set ?_ GEA.out | refine below_set ?_ GEB.out | refine below_set ?_ GER.out) | exact HB.out)) hb); clear HB BKA BKB BKR; have HB := n0_; have BKA := mA_; have BKB := mB_; have BKR := mR_; clear n0_ mA_ mB_ mR_ hb; obtain ⟨zB0, zB1, zB2, zB3, zB4, zBf0, zBf1, zBf2, zBf3, zBf4⟩ := five BKB.out)
    | ((with_reducible refine gate_callee (f := 19) rfl ?_); (try (refine gate_guard (by rfl) ?_; dsimp only)); refine goesL_ (some 28) rfl rfl Tryz.func19 (by kernel_rfl) rfl #[.agg #[.int .i64 1, .int .i64 0, .string (⟨#[]⟩ : ByteArray), .bool false, .int .i64 0]] rfl (by (try simp only [List.map_toArray, List.map_cons, List.map_nil]); first | done | rfl) ?_; (refine (value_Text.calls (hL := ⟨hL.out.below (by repeat (first | (with_reducible first | exact HB.out | apply bA | apply below_drew | apply bN | apply bD | refine below_set ?_ GEA.out | refine below_set ?_ GEB.out | refine below_set ?_ GER.out) | exact HB.out))⟩) 1 0 (⟨#[]⟩ : ByteArray) false 0 P0 0 _ HP0.out).mono ?_); rintro e_ v2 ⟨rfl, hb⟩; refine ⟨_, rfl, ?_⟩; have mA_ := Aside0.mk (blk_below (by (with_reducible repeat (first | refine blk_drewN ?_ _ | refine blk_drew ?_ | refine blk_alloc ?_ _)); exact BKA.out) hb); have mB_ := Aside0.mk (blk_below (by (with_reducible repeat (first | refine blk_drewN ?_ _ | refine blk_drew ?_ | refine blk_alloc ?_ _)); exact BKB.out) hb); have mR_ := Aside0.mk (blk_below (by (with_reducible repeat (first | refine blk_drewN ?_ _ | refine blk_drew ?_ | refine blk_alloc ?_ _)); exact BKR.out) hb); have n0_ := Aside0.mk (below_step (by repeat (first | (with_reducible first | exact HB.out | apply bA | apply below_drew | apply bN | apply bD | refine below_set ?_ GEA.out | refine below_set ?_ GEB.out | refine below_set ?_ GER.out) | exact HB.out)) hb); clear HB BKA BKB BKR; have HB := n0_; have BKA := mA_; have BKB := mB_; have BKR := mR_; clear n0_ mA_ mB_ mR_ hb)
    | ((with_reducible refine gate_callee (f := 57) rfl ?_); (try (refine gate_guard (by rfl) ?_; dsimp only)); refine goesL_ (some 33) rfl rfl Tryz.func57 (by kernel_rfl) rfl #[.int .i64 0, .int .i64 0] rfl (by (try simp only [List.map_toArray, List.map_cons, List.map_nil]); first | done | rfl) ?_; (refine (least_00 _).mono ?_); rintro e_ w_ ⟨rfl, ⟨nd, rfl⟩⟩; refine ⟨_, rfl, ?_⟩; obtain ⟨zA0, zA1, zA2, zA3, zA4, zAf0, zAf1, zAf2, zAf3, zAf4⟩ := five BKA.out)
    | ((with_reducible refine gate_callee (f := 17) rfl ?_); (try (refine gate_guard (by rfl) ?_; dsimp only)); refine goesL_ (some 46) rfl rfl Tryz.func17 (by kernel_rfl) rfl #[.agg #[.int .i64 1, .int .i64 1, .string (⟨#[]⟩ : ByteArray), .bool false, .int .i64 0]] rfl (by (try simp only [List.map_toArray, List.map_cons, List.map_nil]); first | done | rfl) ?_; (refine (value_Number.calls (hL := ⟨hL.out.below (by repeat (first | (with_reducible first | exact HB.out | apply bA | apply below_drew | apply bN | apply bD | refine below_set ?_ GEA.out | refine below_set ?_ GEB.out | refine below_set ?_ GER.out) | exact HB.out))⟩) 1 1 (⟨#[]⟩ : ByteArray) false 0 1 0 _ (num_num 1)).mono ?_); rintro e_ v3 ⟨rfl, hb⟩; refine ⟨_, rfl, ?_⟩; have mA_ := Aside0.mk (blk_below (by (with_reducible repeat (first | refine blk_drewN ?_ _ | refine blk_drew ?_ | refine blk_alloc ?_ _)); exact BKA.out) hb); have mB_ := Aside0.mk (blk_below (by (with_reducible repeat (first | refine blk_drewN ?_ _ | refine blk_drew ?_ | refine blk_alloc ?_ _)); exact BKB.out) hb); have mR_ := Aside0.mk (blk_below (by (with_reducible repeat (first | refine blk_drewN ?_ _ | refine blk_drew ?_ | refine blk_alloc ?_ _)); exact BKR.out) hb); have n0_ := Aside0.mk (below_step (by repeat (first | (with_reducible first | exact HB.out | apply bA | apply below_drew | apply bN | apply bD | refine below_set ?_ GEA.out | refine below_set ?_ GEB.out | refine below_set ?_ GER.out) | exact HB.out)) hb); clear HB BKA BKB BKR; have HB := n0_; have BKA := mA_; have BKB := mB_; have BKR := mR_; clear n0_ mA_ mB_ mR_ hb; obtain ⟨zB0, zB1, zB2, zB3, zB4, zBf0, zBf1, zBf2, zBf3, zBf4⟩ := five BKB.out)
    | ((with_reducible refine gate_callee (f := 17) rfl ?_); (try (refine gate_guard (by rfl) ?_; dsimp only)); refine goesL_ (some 51) rfl rfl Tryz.func17 (by kernel_rfl) rfl #[.agg #[.int .i64 1, .int .i64 0, .string (⟨#[]⟩ : ByteArray), .bool false, .int .i64 0]] rfl (by (try simp only [List.map_toArray, List.map_cons, List.map_nil]); first | done | rfl) ?_; (refine (value_Number.calls (hL := ⟨hL.out.below (by repeat (first | (with_reducible first | exact HB.out | apply bA | apply below_drew | apply bN | apply bD | refine below_set ?_ GEA.out | refine below_set ?_ GEB.out | refine below_set ?_ GER.out) | exact HB.out))⟩) 1 0 (⟨#[]⟩ : ByteArray) false 0 0 0 _ (num_num 0)).mono ?_); rintro e_ v4 ⟨rfl, hb⟩; refine ⟨_, rfl, ?_⟩; have mA_ := Aside0.mk (blk_below (by (with_reducible repeat (first | refine blk_drewN ?_ _ | refine blk_drew ?_ | refine blk_alloc ?_ _)); exact BKA.out) hb); have mB_ := Aside0.mk (blk_below (by (with_reducible repeat (first | refine blk_drewN ?_ _ | refine blk_drew ?_ | refine blk_alloc ?_ _)); exact BKB.out) hb); have mR_ := Aside0.mk (blk_below (by (with_reducible repeat (first | refine blk_drewN ?_ _ | refine blk_drew ?_ | refine blk_alloc ?_ _)); exact BKR.out) hb); have n0_ := Aside0.mk (below_step (by repeat (first | (with_reducible first | exact HB.out | apply bA | apply below_drew | apply bN | apply bD | refine below_set ?_ GEA.out | refine below_set ?_ GEB.out | refine below_set ?_ GER.out) | exact HB.out)) hb); clear HB BKA BKB BKR; have HB := n0_; have BKA := mA_; have BKB := mB_; have BKR := mR_; clear n0_ mA_ mB_ mR_ hb)
    | ((with_reducible refine gate_callee (f := 57) rfl ?_); (try (refine gate_guard (by rfl) ?_; dsimp only)); refine goesL_ (some 56) rfl rfl Tryz.func57 (by kernel_rfl) rfl #[.int .i64 0, .int .i64 0] rfl (by (try simp only [List.map_toArray, List.map_cons, List.map_nil]); first | done | rfl) ?_; (refine (least_00 _).mono ?_); rintro e_ w_ ⟨rfl, ⟨nd, rfl⟩⟩; refine ⟨_, rfl, ?_⟩)
    | ((with_reducible refine gate_callee (f := 58) rfl ?_); (try (refine gate_guard (by rfl) ?_; dsimp only)); refine goesL_ (some 64) rfl rfl Tryz.func58 (by kernel_rfl) rfl #[.string (⟨#[47]⟩ : ByteArray), .int .i64 1, .int .i64 0] rfl (by (try simp only [List.map_toArray, List.map_cons, List.map_nil]); first | done | rfl) ?_; (refine (arith_div _).mono ?_); rintro e_ v5 ⟨rfl, hb⟩; refine ⟨_, rfl, ?_⟩; have mA_ := Aside0.mk (blk_below (by (with_reducible repeat (first | refine blk_drewN ?_ _ | refine blk_drew ?_ | refine blk_alloc ?_ _)); exact BKA.out) hb); have mB_ := Aside0.mk (blk_below (by (with_reducible repeat (first | refine blk_drewN ?_ _ | refine blk_drew ?_ | refine blk_alloc ?_ _)); exact BKB.out) hb); have mR_ := Aside0.mk (blk_below (by (with_reducible repeat (first | refine blk_drewN ?_ _ | refine blk_drew ?_ | refine blk_alloc ?_ _)); exact BKR.out) hb); have n0_ := Aside0.mk (below_step (by repeat (first | (with_reducible first | exact HB.out | apply bA | apply below_drew | apply bN | apply bD | refine below_set ?_ GEA.out | refine below_set ?_ GEB.out | refine below_set ?_ GER.out) | exact HB.out)) hb); clear HB BKA BKB BKR; have HB := n0_; have BKA := mA_; have BKB := mB_; have BKR := mR_; clear n0_ mA_ mB_ mR_ hb; obtain ⟨zR0, zR1, zR2, zR3, zR4, zRf0, zRf1, zRf2, zRf3, zRf4⟩ := five BKR.out))
  refine bodyPost_ret (results_cell_row rfl _ _ gR 24 (cs5 4 0 (⟨#[]⟩ : ByteArray) false 3) (0, 0) _ rfl (vput (by (with_reducible repeat (first | refine blk_drewN ?_ _ | refine blk_drew ?_ | refine blk_alloc ?_ _)); exact BKR.out) _ _ _ _ _) Tryz.underlying24 rfl (by kernel_rfl)) rfl ?_
  exact ⟨by first | rfl | (simp; done) | (simp [*]; done), (by repeat (first | (with_reducible first | exact HB.out | apply bA | apply below_drew | apply bN | apply bD | refine below_set ?_ GEA.out | refine below_set ?_ GEB.out | refine below_set ?_ GER.out) | exact HB.out))⟩
set_option maxHeartbeats 8000000 in
set_option maxRecDepth 100000 in
theorem call_all (k : Nat) (nm : ByteArray) (ha : ∀ w, Calls Tryz.prog 53 #[.string nm] w fun e w' => e = .returned (.tuple #[.int .i64 0, .int .i64 810000, .bool true]) ∧ Drawn0 w w') (A1 : Option Addr) (c1 : Nat) (l1 : List S44) (hl : l1.length ≤ 810000) (r1 r2 : Int) (r3 : ByteArray) (r4 : Bool) (r5 : Int) (w : World) (hL : Aside0 (Lq w)) (hr1 : Kd.C k44 w A1 l1.length l1) (hc1 : l1.length ≤ c1) (h : builtin_all.f k nm l1 = some (r1, r2, r3, r4, r5)) :
    Calls Tryz.prog 28 #[.string nm, .slice A1 l1.length c1] w fun e w' => e = .returned (.agg #[.int .i64 r1, .int .i64 r2, .string r3, .bool r4, .int .i64 r5]) ∧ Below w.heap.size w w' := by
  have hu24 := Tryz.underlying24
  have HB := Aside0.mk (Below.refl w.heap.size w)
  have hu44 := Tryz.underlying44
  have HR1 := Aside0.mk hr1
  have HC1 := Aside0.mk hc1
  have H := Aside0.mk h
  have HA := Aside0.mk ha
  have d1 : decide ((l1.length : Int) < 0) = false := decide_eq_false (by omega)
  have d2 : decide ((810000 : Int) < (l1.length : Int)) = false := decide_eq_false (by omega)
  clear hr1 hc1 h ha hl
  go_enter Tryz.func28, Tryz.ntmps28
  go_wp2_with (first
    | ((with_reducible refine gate_dst (N := 4) rfl ?_); (try (refine gate_guard (by rfl) ?_; dsimp only)); refine box_event ?hg (N := 4) ?hd (cs := cs5 0 0 (⟨#[]⟩ : ByteArray) false 0) (t := 24) ?hr ?_; (case hd => rfl); (case hg => rfl); (case hr => first | (go_simp; done) | (go_simp; rfl)); intro gR hg wR hbox hb; have GER := Aside0.mk ((by rw [hg]; exact (below_size (by repeat (first | (with_reducible first | exact HB.out | apply bA | apply below_drew | apply bN | apply bD) | exact HB.out))) : w.heap.size ≤ gR)); have nX_ := Aside0.mk hbox; have n0_ := Aside0.mk (below_step (by repeat (first | (with_reducible first | exact HB.out | apply bA | apply below_drew | apply bN | apply bD) | exact HB.out)) hb); clear HB ; have HB := n0_; clear n0_ hb; have BKR := nX_; clear nX_ hbox hg; obtain ⟨zR0, zR1, zR2, zR3, zR4, zRf0, zRf1, zRf2, zRf3, zRf4⟩ := five BKR.out)
    | ((with_reducible refine gate_callee (f := 53) rfl ?_); (try (refine gate_guard (by rfl) ?_; dsimp only)); refine goesL_ (some 14) rfl rfl Tryz.func53 (by kernel_rfl) rfl #[.string nm] rfl (by (try simp only [List.map_toArray, List.map_cons, List.map_nil]); first | done | rfl) ?_; (refine (HA.out _).mono ?_); rintro e_ w_ ⟨rfl, ⟨nd, rfl⟩⟩; refine ⟨_, rfl, ?_⟩)
    | ((with_reducible refine gate_callee (f := 55) rfl ?_); refine goesL_ (some 38) rfl rfl Tryz.func55 (by kernel_rfl) rfl #[.string nm, .slice A1 l1.length c1] rfl (by (try simp only [List.map_toArray, List.map_cons, List.map_nil]); first | done | rfl) ?_; (with_reducible refine (builtin_all.calls (hL := ⟨hL.out.below (by repeat (first | (with_reducible first | exact HB.out | apply bA | apply below_drew | apply bN | apply bD | refine below_set ?_ GER.out) | exact HB.out))⟩) k nm _ _ l1 r1 r2 r3 r4 r5 _ ?side1 ?side2 H.out).mono ?_); (case side1 => exact Kd.C_below HR1.out (by repeat (first | (with_reducible first | exact HB.out | apply bA | apply below_drew | apply bN | apply bD | refine below_set ?_ GER.out) | exact HB.out))); (case side2 => exact HC1.out); rintro e_ vX ⟨rfl, hb⟩; refine ⟨_, rfl, ?_⟩; have mR_ := Aside0.mk (blk_below (by (with_reducible repeat (first | refine blk_drewN ?_ _ | refine blk_drew ?_ | refine blk_alloc ?_ _)); exact BKR.out) hb); have n0_ := Aside0.mk (below_step (by repeat (first | (with_reducible first | exact HB.out | apply bA | apply below_drew | apply bN | apply bD | refine below_set ?_ GER.out) | exact HB.out)) hb); clear HB BKR; have HB := n0_; have BKR := mR_; clear n0_ mR_ hb; obtain ⟨zR0, zR1, zR2, zR3, zR4, zRf0, zRf1, zRf2, zRf3, zRf4⟩ := five BKR.out))
  refine bodyPost_ret (results_cell_row rfl _ _ gR 24 (cs5 r1 r2 r3 r4 r5) (0, 0) _ rfl (vput (by (with_reducible repeat (first | refine blk_drewN ?_ _ | refine blk_drew ?_ | refine blk_alloc ?_ _)); exact BKR.out) _ _ _ _ _) Tryz.underlying24 rfl (by kernel_rfl)) rfl ?_
  exact ⟨by first | rfl | (simp; done) | (simp [*]; done), (by repeat (first | (with_reducible first | exact HB.out | apply bA | apply below_drew | apply bN | apply bD | refine below_set ?_ GER.out) | exact HB.out))⟩
end Go.Proofs.YtfnbflhoaemmeaaGreatDoor.EBui
end
