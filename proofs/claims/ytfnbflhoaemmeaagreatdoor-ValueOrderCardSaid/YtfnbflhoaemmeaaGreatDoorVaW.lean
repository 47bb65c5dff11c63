/- The law ValueOrder: whatever the values and the number, it returns true. Condition: the listed variables read as laid. -/
import Derived.Test.YtfnbflhoaemmeaaGreatDoorVaC
import Derived.WalkKit
namespace Go.Proofs.YtfnbflhoaemmeaaGreatDoor.EVal
open Go.RowKit Go.Lib Go.Proofs.YtfnbflhoaemmeaaGreatDoorW.PrintWords Go.Proofs.YtfnbflhoaemmeaaGreatDoorW.PrintLast Go.Proofs.YtfnbflhoaemmeaaGreatDoorW.PrintMore Go.Proofs.YtfnbflhoaemmeaaGreatDoor.Ext Go.Proofs.YtfnbflhoaemmeaaGreatDoor.EFxA Go.Proofs.YtfnbflhoaemmeaaGreatDoor.EFix
attribute [local go_sem] max2_int min2_int max_two min_two max_three min_three max_four min_four
set_option linter.unusedVariables false
set_option linter.unusedSimpArgs false
theorem cut_f (k n : Int) (s : ByteArray) (b : Bool) (e : Int) : ∃ t, counterpanelaw2_Cut.f k n s b e = some (k, n, t, b, e) ∧ t.size ≤ 250 := by
  unfold counterpanelaw2_Cut.f
  by_cases c : (s.size : Int) > 250
  · rw [if_pos c, if_pos (by decide), if_pos (by omega)]
    exact ⟨_, rfl, by rw [ByteArray.size_extract]; omega⟩
  · rw [if_neg c]
    exact ⟨_, rfl, by omega⟩
def vo_T4 : Bool × List (List Nat × List Nat) := (true, [([], []), ([0], [0]), ([], []), ([2, 1], [2]), ([], []), ([4, 3], [4]), ([1, 5, 0, 1], [1]), ([3, 6, 0, 1, 2, 3, 6], [3]), ([5, 7, 0, 1, 2, 3, 4, 5, 6, 7], [5])])
def vo_B4 : List Nat := [0, 1, 0, 7, 0, 31, 63, 127, 255]
theorem vo_tab4 : rtab .any (opsOf Tryz.f3 4) = vo_T4 := by kernel_rfl
theorem vo_bits4 : waitsOk vo_T4.2 vo_B4 = true := by kernel_rfl
def vo_T6 : Bool × List (List Nat × List Nat) := (true, [([], []), ([], []), ([], []), ([1, 2], [1, 2]), ([0, 3], [0, 3]), ([4, 3], [4]), ([5], [5]), ([5], [5]), ([6, 7, 5, 5], [5, 6, 7]), ([5], [5]), ([9, 5], [5, 9]), ([8, 10, 5], [5, 8, 10]), ([5, 11], [5, 11]), ([12, 8], [12]), ([13], [13]), ([13], [13]), ([14, 15, 13, 13], [13, 14, 15]), ([13], [13]), ([13], [13]), ([17, 18, 16, 13], [13, 17, 18]), ([16, 19, 13], [13, 16, 19]), ([13, 20], [13, 20]), ([21, 19], [21]), ([22], [22]), ([22], [22]), ([23, 24, 22, 22], [22, 23, 24]), ([25, 22], [22, 25]), ([22, 26], [22, 26])])
def vo_B6 : List Nat := [0, 0, 0, 6, 15, 31, 63, 63, 255, 63, 575, 2047, 4095, 8191, 16383, 16383, 65535, 16383, 16383, 524287, 1048575, 2097151, 4194303, 8388607, 8388607, 33554431, 67108863, 134217727]
theorem vo_tab6 : rtab .any (opsOf Tryz.f3 6) = vo_T6 := by kernel_rfl
theorem vo_bits6 : waitsOk vo_T6.2 vo_B6 = true := by kernel_rfl
set_option maxHeartbeats 8000000 in
set_option maxRecDepth 100000 in
theorem valueOrder_in (a0 a1 : Int) (ra : ByteArray) (a3 : Bool) (a4 b0 b1 : Int) (rb : ByteArray) (b3 : Bool) (b4 c0 c1 : Int) (rc : ByteArray) (c3 : Bool) (c4 n : Int) (w : World) (hL : Aside0 (Lq w)) :
    Calls Tryz.prog 3 #[.agg #[.int .i64 a0, .int .i64 a1, .string ra, .bool a3, .int .i64 a4], .agg #[.int .i64 b0, .int .i64 b1, .string rb, .bool b3, .int .i64 b4], .agg #[.int .i64 c0, .int .i64 c1, .string rc, .bool c3, .int .i64 c4], .int .i64 n] w fun e w' => e = .returned (.bool true) ∧ Below w.heap.size w w' := by
  obtain ⟨ta, hca, sa⟩ := cut_f a0 a1 ra a3 a4
  obtain ⟨tb, hcb, sb⟩ := cut_f b0 b1 rb b3 b4
  obtain ⟨tc, hcc, sc⟩ := cut_f c0 c1 rc c3 c4
  have HCa := Aside0.mk hca
  have HCb := Aside0.mk hcb
  have HCc := Aside0.mk hcc
  clear hca hcb hcc
  have hx := compare_f 2000000 (a0, a1, ta, a3, a4) (b0, b1, tb, b3, b4) (by simp only; omega) (by simp only; omega) (by decide)
  have hr := refCompare_f 2000000 (a0, a1, ta, a3, a4) (b0, b1, tb, b3, b4) (by simp only; omega) (by simp only; omega) (by decide)
  have hn := compare_f 2000000 (b0, b1, tb, b3, b4) (a0, a1, ta, a3, a4) (by simp only; omega) (by simp only; omega) (by decide)
  have hs := compare_f 2000000 (a0, a1, ta, a3, a4) (a0, a1, ta, a3, a4) (by simp only; omega) (by simp only; omega) (by decide)
  have hy := compare_f 2000000 (b0, b1, tb, b3, b4) (c0, c1, tc, c3, c4) (by simp only; omega) (by simp only; omega) (by decide)
  have hz := compare_f 2000000 (a0, a1, ta, a3, a4) (c0, c1, tc, c3, c4) (by simp only; omega) (by simp only; omega) (by decide)
  have hf := refEq_f (a0, a1, ta, a3, a4) (b0, b1, tb, b3, b4)
  have tr := fun h1 h2 => @cmpS_tr (a0, a1, ta, a3, a4) (b0, b1, tb, b3, b4) (c0, c1, tc, c3, c4) h1 h2
  have rg := cmpS_rng (a0, a1, ta, a3, a4) (b0, b1, tb, b3, b4)
  rw [cmpS_refl] at hs
  rw [cmpS_anti (a0, a1, ta, a3, a4)] at hn
  simp only at hx hr hn hs hy hz hf
  obtain ⟨x, ex⟩ : ∃ x, cmpS (a0, a1, ta, a3, a4) (b0, b1, tb, b3, b4) = x := ⟨_, rfl⟩
  obtain ⟨y, ey⟩ : ∃ x, cmpS (b0, b1, tb, b3, b4) (c0, c1, tc, c3, c4) = x := ⟨_, rfl⟩
  obtain ⟨z, ez⟩ : ∃ x, cmpS (a0, a1, ta, a3, a4) (c0, c1, tc, c3, c4) = x := ⟨_, rfl⟩
  rw [ex] at hx hr hn tr rg
  rw [ey] at hy tr
  rw [ez] at hz tr
  obtain ⟨q, he⟩ : ∃ q, value_Eq.f a0 a1 ta a3 a4 b0 b1 tb b3 b4 = some q := ⟨_, rfl⟩
  rw [he] at hf
  obtain ⟨r, hm, ho⟩ := names_f n
  have HX := Aside0.mk hx
  have HR := Aside0.mk hr
  have HN := Aside0.mk hn
  have HS := Aside0.mk hs
  have HY := Aside0.mk hy
  have HZ := Aside0.mk hz
  have HE := Aside0.mk he
  have HF := Aside0.mk hf
  have HM := Aside0.mk hm
  have HO := Aside0.mk ho
  have TR := Aside0.mk tr
  have RG := Aside0.mk rg
  clear hx hr hn hs hy hz he hf hm ho tr ex ey ez sa sb sc
  have kn : IntKind.i64.wrap (-x) = -x := by rw [IntKind.wrap_i64]; omega
  have kn2 : wrap64 (-x) = -x := by rw [wrap64]; omega
  have x1 : (x == x) = true := beq_self_eq_true x
  have x2 : (q == q) = true := beq_self_eq_true q
  have x3 : (r.toList == r.toList) = true := beq_self_eq_true _
  clear rg
  have y1 : (x != x) = false := by simp
  have y2 : (-x != -x) = false := by simp
  have y3 : (q != q) = false := by simp
  have hu24 := Tryz.underlying24
  have HB := Aside0.mk (Below.refl w.heap.size w)
  go_enter Tryz.func3, Tryz.ntmps3
  go_wp2_with (first | ((with_reducible refine gate_dst (N := 4) rfl ?_); refine box_event ?hg (N := 4) ?hd (cs := cs5 a0 a1 ra a3 a4) (t := 24) ?hr ?_; (case hd => rfl); (case hg => rfl); (case hr => first | (go_simp; done) | (go_simp; rfl)); intro gA hg wA hbox hb; have n0_ := Aside0.mk (below_step (by repeat (first | (with_reducible first | exact HB.out | apply below_alloc | apply below_drew | apply pw_below_drewN | apply below_drew1) | exact HB.out)) hb); have n1_ := Aside0.mk hbox; have GEA := Aside0.mk ((by rw [hg]; exact (below_size (by repeat (first | (with_reducible first | exact HB.out | apply below_alloc | apply below_drew | apply pw_below_drewN | apply below_drew1) | exact HB.out))) : w.heap.size ≤ gA)); clear HB; have HB := n0_; have BKA := n1_; clear n0_ n1_; clear hb hbox hg) | ((with_reducible refine gate_dst (N := 5) rfl ?_); refine box_event ?hg (N := 5) ?hd (cs := cs5 b0 b1 rb b3 b4) (t := 24) ?hr ?_; (case hd => rfl); (case hg => rfl); (case hr => first | (go_simp; done) | (go_simp; rfl)); intro gB hg wB hbox hb; have n0_ := Aside0.mk (below_step (by repeat (first | (with_reducible first | exact HB.out | apply below_alloc | apply below_drew | apply pw_below_drewN | apply below_drew1) | exact HB.out)) hb); have n1_ := Aside0.mk hbox; have GEB := Aside0.mk ((by rw [hg]; exact (below_size (by repeat (first | (with_reducible first | exact HB.out | apply below_alloc | apply below_drew | apply pw_below_drewN | apply below_drew1) | exact HB.out))) : w.heap.size ≤ gB)); have m0_ := Aside0.mk (blk_below (by (with_reducible repeat (first | refine blk_drewN ?_ _ | refine blk_drew ?_ | refine blk_alloc ?_ _)); exact BKA.out) hb); have NEAB := Aside0.mk ((by rw [hg]; exact Nat.ne_of_lt (blk_lt (by (with_reducible repeat (first | refine blk_drewN ?_ _ | refine blk_drew ?_ | refine blk_alloc ?_ _)); exact BKA.out))) : gA ≠ gB); clear HB BKA; have HB := n0_; have BKB := n1_; have BKA := m0_; clear n0_ n1_ m0_; clear hb hbox hg) | ((with_reducible refine gate_dst (N := 6) rfl ?_); refine box_event ?hg (N := 6) ?hd (cs := cs5 c0 c1 rc c3 c4) (t := 24) ?hr ?_; (case hd => rfl); (case hg => rfl); (case hr => first | (go_simp; done) | (go_simp; rfl)); intro gC hg wC hbox hb; have n0_ := Aside0.mk (below_step (by repeat (first | (with_reducible first | exact HB.out | apply below_alloc | apply below_drew | apply pw_below_drewN | apply below_drew1) | exact HB.out)) hb); have n1_ := Aside0.mk hbox; have GEC := Aside0.mk ((by rw [hg]; exact (below_size (by repeat (first | (with_reducible first | exact HB.out | apply below_alloc | apply below_drew | apply pw_below_drewN | apply below_drew1) | exact HB.out))) : w.heap.size ≤ gC)); have m0_ := Aside0.mk (blk_below (by (with_reducible repeat (first | refine blk_drewN ?_ _ | refine blk_drew ?_ | refine blk_alloc ?_ _)); exact BKA.out) hb); have NEAC := Aside0.mk ((by rw [hg]; exact Nat.ne_of_lt (blk_lt (by (with_reducible repeat (first | refine blk_drewN ?_ _ | refine blk_drew ?_ | refine blk_alloc ?_ _)); exact BKA.out))) : gA ≠ gC); have m1_ := Aside0.mk (blk_below (by (with_reducible repeat (first | refine blk_drewN ?_ _ | refine blk_drew ?_ | refine blk_alloc ?_ _)); exact BKB.out) hb); have NEBC := Aside0.mk ((by rw [hg]; exact Nat.ne_of_lt (blk_lt (by (with_reducible repeat (first | refine blk_drewN ?_ _ | refine blk_drew ?_ | refine blk_alloc ?_ _)); exact BKB.out))) : gB ≠ gC); clear HB BKA BKB; have HB := n0_; have BKC := n1_; have BKA := m0_; have BKB := m1_; clear n0_ n1_ m0_ m1_; clear hb hbox hg) | ((with_reducible refine gate_callee (f := 9) rfl ?_); (try (refine gate_guard (by rfl) ?_; dsimp only)); refine goesL_ (some 11) rfl rfl Tryz.func9 (by kernel_rfl) rfl #[] rfl (by (try simp only [List.map_toArray, List.map_cons, List.map_nil]); first | done | rfl | (simp only [List.length_drop, List.length_take]; rfl)) ?_; (refine (counterpanelaw2_begun.calls (hL := ⟨hL.out.below (by repeat (first | (with_reducible first | exact HB.out | apply below_alloc | apply below_drew | apply pw_below_drewN | apply below_drew1) | exact HB.out))⟩) 300 true _ (begun2_f 300 (by decide))).mono ?_); rintro e w9 ⟨rfl, hb⟩; refine ⟨_, rfl, ?_⟩; have m0_ := Aside0.mk (blk_below (by (with_reducible repeat (first | refine blk_drewN ?_ _ | refine blk_drew ?_ | refine blk_alloc ?_ _)); exact BKA.out) hb); have m1_ := Aside0.mk (blk_below (by (with_reducible repeat (first | refine blk_drewN ?_ _ | refine blk_drew ?_ | refine blk_alloc ?_ _)); exact BKB.out) hb); have m2_ := Aside0.mk (blk_below (by (with_reducible repeat (first | refine blk_drewN ?_ _ | refine blk_drew ?_ | refine blk_alloc ?_ _)); exact BKC.out) hb); have n0_ := Aside0.mk (below_step (by repeat (first | (with_reducible first | exact HB.out | apply below_alloc | apply below_drew | apply pw_below_drewN | apply below_drew1) | exact HB.out)) hb); clear HB BKA BKB BKC; have HB := n0_; have BKA := m0_; have BKB := m1_; have BKC := m2_; clear n0_ m0_ m1_ m2_; clear hb))
  refine start_ (n := 9) (S := fun w' => w'.heap[gA]? = some (.cells (cs5 a0 a1 ra a3 a4) 24 (0, 0)) ∧ w'.heap[gB]? = some (.cells (cs5 b0 b1 rb b3 b4) 24 (0, 0)) ∧ w'.heap[gC]? = some (.cells (cs5 c0 c1 rc c3 c4) 24 (0, 0))) (ds := [6, 7, 8]) #[false, false, false, false, false, false, false, false, false] (by kernel_rfl) rfl rfl ⟨blk_drew BKA.out, blk_drew BKB.out, blk_drew BKC.out⟩ (fun hHeld => ?_)
  refine with_tabW vo_tab4 vo_bits4 (fun HT_ HW_ => ?_)
  have m0_ := Aside0.mk (blk_drew BKA.out)
  have m1_ := Aside0.mk (blk_drew BKB.out)
  have m2_ := Aside0.mk (blk_drew BKC.out)
  have n0_ := Aside0.mk (below_drew1 HB.out)
  clear BKA BKB BKC HB
  have BKA := m0_
  have BKB := m1_
  have BKC := m2_
  have HB := n0_
  clear m0_ m1_ m2_ n0_
  generalize w9.drew = wD at BKA BKB BKC HB hHeld ⊢
  refine take_ (i := 0) (N := some 14) (v := ?_) (a' := ?_) #[true, false, false, false, false, false, false, false, false] rfl rfl (take_ofW HT_.out HW_.out (by kernel_rfl)) (fun _ _ _ h => h) (Or.inl ⟨by rfl, ?_⟩) hHeld ?_ ?_
  rotate_left
  · rintro w' ⟨sA, sB, sC⟩
    have s0 : w'.cell? ⟨gA, 0, none⟩ = some (.int .i64 a0) := (blk_cell sA 0).trans rfl
    have s1 : w'.cell? ⟨gA, 1, none⟩ = some (.int .i64 a1) := (blk_cell sA 1).trans rfl
    have s2 : w'.cell? ⟨gA, 2, none⟩ = some (.string ra) := (blk_cell sA 2).trans rfl
    have s3 : w'.cell? ⟨gA, 3, none⟩ = some (.bool a3) := (blk_cell sA 3).trans rfl
    have s4 : w'.cell? ⟨gA, 4, none⟩ = some (.int .i64 a4) := (blk_cell sA 4).trans rfl
    clear sA sB sC
    go_simp
    with_reducible rfl
  rotate_left
  · simp only [Act.put, List.setIfInBounds_toArray, List.set_cons_zero, List.set_cons_succ, i64_w, i32_w]
    rfl
  refine take_ (i := 2) (N := some 16) (v := ?_) (a' := ?_) #[true, false, true, false, false, false, false, false, false] rfl rfl (take_ofW HT_.out HW_.out (by kernel_rfl)) (fun _ _ _ h => h) (Or.inl ⟨by rfl, ?_⟩) hHeld ?_ ?_
  rotate_left
  · rintro w' ⟨sA, sB, sC⟩
    have s0 : w'.cell? ⟨gB, 0, none⟩ = some (.int .i64 b0) := (blk_cell sB 0).trans rfl
    have s1 : w'.cell? ⟨gB, 1, none⟩ = some (.int .i64 b1) := (blk_cell sB 1).trans rfl
    have s2 : w'.cell? ⟨gB, 2, none⟩ = some (.string rb) := (blk_cell sB 2).trans rfl
    have s3 : w'.cell? ⟨gB, 3, none⟩ = some (.bool b3) := (blk_cell sB 3).trans rfl
    have s4 : w'.cell? ⟨gB, 4, none⟩ = some (.int .i64 b4) := (blk_cell sB 4).trans rfl
    clear sA sB sC
    go_simp
    with_reducible rfl
  rotate_left
  · simp only [Act.put, List.setIfInBounds_toArray, List.set_cons_zero, List.set_cons_succ, i64_w, i32_w]
    rfl
  refine take_ (i := 4) (N := some 18) (v := ?_) (a' := ?_) #[true, false, true, false, true, false, false, false, false] rfl rfl (take_ofW HT_.out HW_.out (by kernel_rfl)) (fun _ _ _ h => h) (Or.inl ⟨by rfl, ?_⟩) hHeld ?_ ?_
  rotate_left
  · rintro w' ⟨sA, sB, sC⟩
    have s0 : w'.cell? ⟨gC, 0, none⟩ = some (.int .i64 c0) := (blk_cell sC 0).trans rfl
    have s1 : w'.cell? ⟨gC, 1, none⟩ = some (.int .i64 c1) := (blk_cell sC 1).trans rfl
    have s2 : w'.cell? ⟨gC, 2, none⟩ = some (.string rc) := (blk_cell sC 2).trans rfl
    have s3 : w'.cell? ⟨gC, 3, none⟩ = some (.bool c3) := (blk_cell sC 3).trans rfl
    have s4 : w'.cell? ⟨gC, 4, none⟩ = some (.int .i64 c4) := (blk_cell sC 4).trans rfl
    clear sA sB sC
    go_simp
    with_reducible rfl
  rotate_left
  · simp only [Act.put, List.setIfInBounds_toArray, List.set_cons_zero, List.set_cons_succ, i64_w, i32_w]
    rfl
  refine one_ (i := 1) (N := some 15) #[true, true, true, false, true, false, false, false, false] rfl rfl (one_of HT_.out (by kernel_rfl)) (by decide) (fun K hK => ?_)
  refine goes_ Tryz.func10 (by kernel_rfl) rfl #[.agg #[.int .i64 a0, .int .i64 a1, .string ra, .bool a3, .int .i64 a4]] (by rfl) rfl rfl (by (try simp only [List.map_toArray, List.map_cons, List.map_nil]); first | done | rfl | (simp only [List.length_drop, List.length_take]; rfl)) ?_
  refine (counterpanelaw2_Cut.calls a0 a1 ra a3 a4 a0 a1 ta a3 a4 _ HCa.out).mono ?_
  rintro e w1 ⟨rfl, hb⟩
  refine ⟨_, rfl, ?_⟩
  have m0_ := Aside0.mk (blk_below (by (with_reducible repeat (first | refine blk_drewN ?_ _ | refine blk_drew ?_ | refine blk_alloc ?_ _)); exact BKA.out) hb); have m1_ := Aside0.mk (blk_below (by (with_reducible repeat (first | refine blk_drewN ?_ _ | refine blk_drew ?_ | refine blk_alloc ?_ _)); exact BKB.out) hb); have m2_ := Aside0.mk (blk_below (by (with_reducible repeat (first | refine blk_drewN ?_ _ | refine blk_drew ?_ | refine blk_alloc ?_ _)); exact BKC.out) hb); have n0_ := Aside0.mk (below_step (by repeat (first | (with_reducible first | exact HB.out | apply below_alloc | apply below_drew | apply pw_below_drewN | apply below_drew1) | exact HB.out)) hb); clear HB BKA BKB BKC; have HB := n0_; have BKA := m0_; have BKB := m1_; have BKC := m2_; clear n0_ m0_ m1_ m2_; clear hb
  refine hK.out _ _ ⟨BKA.out, BKB.out, BKC.out⟩ (fun hHeld => ?_)
  clear hK K
  refine norm_ (a' := ?_) ?_ ?_
  rotate_left
  · show Act.put _ (some 15) _ = _
    simp only [Act.put, List.setIfInBounds_toArray, List.set_cons_zero, List.set_cons_succ, i64_w, i32_w]
    rfl
  refine one_ (i := 3) (N := some 17) #[true, true, true, true, true, false, false, false, false] rfl rfl (one_of HT_.out (by kernel_rfl)) (by decide) (fun K hK => ?_)
  refine goes_ Tryz.func10 (by kernel_rfl) rfl #[.agg #[.int .i64 b0, .int .i64 b1, .string rb, .bool b3, .int .i64 b4]] (by rfl) rfl rfl (by (try simp only [List.map_toArray, List.map_cons, List.map_nil]); first | done | rfl | (simp only [List.length_drop, List.length_take]; rfl)) ?_
  refine (counterpanelaw2_Cut.calls b0 b1 rb b3 b4 b0 b1 tb b3 b4 _ HCb.out).mono ?_
  rintro e w1 ⟨rfl, hb⟩
  refine ⟨_, rfl, ?_⟩
  have m0_ := Aside0.mk (blk_below (by (with_reducible repeat (first | refine blk_drewN ?_ _ | refine blk_drew ?_ | refine blk_alloc ?_ _)); exact BKA.out) hb); have m1_ := Aside0.mk (blk_below (by (with_reducible repeat (first | refine blk_drewN ?_ _ | refine blk_drew ?_ | refine blk_alloc ?_ _)); exact BKB.out) hb); have m2_ := Aside0.mk (blk_below (by (with_reducible repeat (first | refine blk_drewN ?_ _ | refine blk_drew ?_ | refine blk_alloc ?_ _)); exact BKC.out) hb); have n0_ := Aside0.mk (below_step (by repeat (first | (with_reducible first | exact HB.out | apply below_alloc | apply below_drew | apply pw_below_drewN | apply below_drew1) | exact HB.out)) hb); clear HB BKA BKB BKC; have HB := n0_; have BKA := m0_; have BKB := m1_; have BKC := m2_; clear n0_ m0_ m1_ m2_; clear hb
  refine hK.out _ _ ⟨BKA.out, BKB.out, BKC.out⟩ (fun hHeld => ?_)
  clear hK K
  refine norm_ (a' := ?_) ?_ ?_
  rotate_left
  · show Act.put _ (some 17) _ = _
    simp only [Act.put, List.setIfInBounds_toArray, List.set_cons_zero, List.set_cons_succ, i64_w, i32_w]
    rfl
  refine one_ (i := 5) (N := some 19) #[true, true, true, true, true, true, false, false, false] rfl rfl (one_of HT_.out (by kernel_rfl)) (by decide) (fun K hK => ?_)
  refine goes_ Tryz.func10 (by kernel_rfl) rfl #[.agg #[.int .i64 c0, .int .i64 c1, .string rc, .bool c3, .int .i64 c4]] (by rfl) rfl rfl (by (try simp only [List.map_toArray, List.map_cons, List.map_nil]); first | done | rfl | (simp only [List.length_drop, List.length_take]; rfl)) ?_
  refine (counterpanelaw2_Cut.calls c0 c1 rc c3 c4 c0 c1 tc c3 c4 _ HCc.out).mono ?_
  rintro e w1 ⟨rfl, hb⟩
  refine ⟨_, rfl, ?_⟩
  have m0_ := Aside0.mk (blk_below (by (with_reducible repeat (first | refine blk_drewN ?_ _ | refine blk_drew ?_ | refine blk_alloc ?_ _)); exact BKA.out) hb); have m1_ := Aside0.mk (blk_below (by (with_reducible repeat (first | refine blk_drewN ?_ _ | refine blk_drew ?_ | refine blk_alloc ?_ _)); exact BKB.out) hb); have m2_ := Aside0.mk (blk_below (by (with_reducible repeat (first | refine blk_drewN ?_ _ | refine blk_drew ?_ | refine blk_alloc ?_ _)); exact BKC.out) hb); have n0_ := Aside0.mk (below_step (by repeat (first | (with_reducible first | exact HB.out | apply below_alloc | apply below_drew | apply pw_below_drewN | apply below_drew1) | exact HB.out)) hb); clear HB BKA BKB BKC; have HB := n0_; have BKA := m0_; have BKB := m1_; have BKC := m2_; clear n0_ m0_ m1_ m2_; clear hb
  refine hK.out _ _ ⟨BKA.out, BKB.out, BKC.out⟩ (fun hHeld => ?_)
  clear hK K
  refine norm_ (a' := ?_) ?_ ?_
  rotate_left
  · show Act.put _ (some 19) _ = _
    simp only [Act.put, List.setIfInBounds_toArray, List.set_cons_zero, List.set_cons_succ, i64_w, i32_w]
    rfl
  refine last_ (i := 6) (N := none) #[true, true, true, true, true, true, true, false, false] rfl rfl (one_of HT_.out (by kernel_rfl)) (by decide) (fun K hK => ?_)
  have zA0 : w1.cell? ⟨gA, 0, none⟩ = some (.int .i64 a0) := (blk_cell BKA.out 0).trans rfl
  have zA1 : w1.cell? ⟨gA, 1, none⟩ = some (.int .i64 a1) := (blk_cell BKA.out 1).trans rfl
  have zA2 : w1.cell? ⟨gA, 2, none⟩ = some (.string ra) := (blk_cell BKA.out 2).trans rfl
  have zA3 : w1.cell? ⟨gA, 3, none⟩ = some (.bool a3) := (blk_cell BKA.out 3).trans rfl
  have zA4 : w1.cell? ⟨gA, 4, none⟩ = some (.int .i64 a4) := (blk_cell BKA.out 4).trans rfl
  have zfA0 := blk_frozen BKA.out 0
  have zfA1 := blk_frozen BKA.out 1
  have zfA2 := blk_frozen BKA.out 2
  have zfA3 := blk_frozen BKA.out 3
  have zfA4 := blk_frozen BKA.out 4
  refine skip_ (w1 := ?_) (by rfl) rfl ?_ ?_
  rotate_left
  · go_simp
    rfl
  refine hK.out _ _ ?_
  clear hK K
  clear zA0 zfA0 zA1 zfA1 zA2 zfA2 zA3 zfA3 zA4 zfA4
  generalize hW : World.setCell _ ⟨gA, 4, none⟩ _ = wS1
  have mA_ : Aside0 (wS1.heap[gA]? = some (.cells (cs5 a0 a1 ta a3 a4) 24 (0, 0))) := ⟨by rw [← hW]; exact vput BKA.out _ _ _ _ _⟩
  have mB_ : Aside0 (wS1.heap[gB]? = some (.cells (cs5 b0 b1 rb b3 b4) 24 (0, 0))) := ⟨by rw [← hW]; exact vfar BKB.out (Ne.symm NEAB.out) _ _ _ _ _⟩
  have mC_ : Aside0 (wS1.heap[gC]? = some (.cells (cs5 c0 c1 rc c3 c4) 24 (0, 0))) := ⟨by rw [← hW]; exact vfar BKC.out (Ne.symm NEAC.out) _ _ _ _ _⟩
  have n0_ : Aside0 (Below w.heap.size w wS1) := ⟨by rw [← hW]; exact vbel HB.out GEA.out _ _ _ _ _⟩
  clear BKA BKB BKC HB hW
  have BKA := mA_
  have BKB := mB_
  have BKC := mC_
  have HB := n0_
  clear mA_ mB_ mC_ n0_
  refine last_ (i := 7) (N := none) #[true, true, true, true, true, true, true, true, false] rfl rfl (one_of HT_.out (by kernel_rfl)) (by decide) (fun K hK => ?_)
  have zB0 : wS1.cell? ⟨gB, 0, none⟩ = some (.int .i64 b0) := (blk_cell BKB.out 0).trans rfl
  have zB1 : wS1.cell? ⟨gB, 1, none⟩ = some (.int .i64 b1) := (blk_cell BKB.out 1).trans rfl
  have zB2 : wS1.cell? ⟨gB, 2, none⟩ = some (.string rb) := (blk_cell BKB.out 2).trans rfl
  have zB3 : wS1.cell? ⟨gB, 3, none⟩ = some (.bool b3) := (blk_cell BKB.out 3).trans rfl
  have zB4 : wS1.cell? ⟨gB, 4, none⟩ = some (.int .i64 b4) := (blk_cell BKB.out 4).trans rfl
  have zfB0 := blk_frozen BKB.out 0
  have zfB1 := blk_frozen BKB.out 1
  have zfB2 := blk_frozen BKB.out 2
  have zfB3 := blk_frozen BKB.out 3
  have zfB4 := blk_frozen BKB.out 4
  refine skip_ (w1 := ?_) (by rfl) rfl ?_ ?_
  rotate_left
  · go_simp
    rfl
  refine hK.out _ _ ?_
  clear hK K
  clear zB0 zfB0 zB1 zfB1 zB2 zfB2 zB3 zfB3 zB4 zfB4
  generalize hW : World.setCell _ ⟨gB, 4, none⟩ _ = wS2
  have mA_ : Aside0 (wS2.heap[gA]? = some (.cells (cs5 a0 a1 ta a3 a4) 24 (0, 0))) := ⟨by rw [← hW]; exact vfar BKA.out NEAB.out _ _ _ _ _⟩
  have mB_ : Aside0 (wS2.heap[gB]? = some (.cells (cs5 b0 b1 tb b3 b4) 24 (0, 0))) := ⟨by rw [← hW]; exact vput BKB.out _ _ _ _ _⟩
  have mC_ : Aside0 (wS2.heap[gC]? = some (.cells (cs5 c0 c1 rc c3 c4) 24 (0, 0))) := ⟨by rw [← hW]; exact vfar BKC.out (Ne.symm NEBC.out) _ _ _ _ _⟩
  have n0_ : Aside0 (Below w.heap.size w wS2) := ⟨by rw [← hW]; exact vbel HB.out GEB.out _ _ _ _ _⟩
  clear BKA BKB BKC HB hW
  have BKA := mA_
  have BKB := mB_
  have BKC := mC_
  have HB := n0_
  clear mA_ mB_ mC_ n0_
  refine last_ (i := 8) (N := none) #[true, true, true, true, true, true, true, true, true] rfl rfl (one_of HT_.out (by kernel_rfl)) (by decide) (fun K hK => ?_)
  have zC0 : wS2.cell? ⟨gC, 0, none⟩ = some (.int .i64 c0) := (blk_cell BKC.out 0).trans rfl
  have zC1 : wS2.cell? ⟨gC, 1, none⟩ = some (.int .i64 c1) := (blk_cell BKC.out 1).trans rfl
  have zC2 : wS2.cell? ⟨gC, 2, none⟩ = some (.string rc) := (blk_cell BKC.out 2).trans rfl
  have zC3 : wS2.cell? ⟨gC, 3, none⟩ = some (.bool c3) := (blk_cell BKC.out 3).trans rfl
  have zC4 : wS2.cell? ⟨gC, 4, none⟩ = some (.int .i64 c4) := (blk_cell BKC.out 4).trans rfl
  have zfC0 := blk_frozen BKC.out 0
  have zfC1 := blk_frozen BKC.out 1
  have zfC2 := blk_frozen BKC.out 2
  have zfC3 := blk_frozen BKC.out 3
  have zfC4 := blk_frozen BKC.out 4
  refine skip_ (w1 := ?_) (by rfl) rfl ?_ ?_
  rotate_left
  · go_simp
    rfl
  refine hK.out _ _ ?_
  clear hK K
  clear zC0 zfC0 zC1 zfC1 zC2 zfC2 zC3 zfC3 zC4 zfC4
  generalize hW : World.setCell _ ⟨gC, 4, none⟩ _ = wS3
  have mA_ : Aside0 (wS3.heap[gA]? = some (.cells (cs5 a0 a1 ta a3 a4) 24 (0, 0))) := ⟨by rw [← hW]; exact vfar BKA.out NEAC.out _ _ _ _ _⟩
  have mB_ : Aside0 (wS3.heap[gB]? = some (.cells (cs5 b0 b1 tb b3 b4) 24 (0, 0))) := ⟨by rw [← hW]; exact vfar BKB.out NEBC.out _ _ _ _ _⟩
  have mC_ : Aside0 (wS3.heap[gC]? = some (.cells (cs5 c0 c1 tc c3 c4) 24 (0, 0))) := ⟨by rw [← hW]; exact vput BKC.out _ _ _ _ _⟩
  have n0_ : Aside0 (Below w.heap.size w wS3) := ⟨by rw [← hW]; exact vbel HB.out GEC.out _ _ _ _ _⟩
  clear BKA BKB BKC HB hW
  have BKA := mA_
  have BKB := mB_
  have BKC := mC_
  have HB := n0_
  clear mA_ mB_ mC_ n0_
  refine done_ (done_of HT_.out (by kernel_rfl)) ?_
  clear HT_ HW_
  have zA0 : wS3.cell? ⟨gA, 0, none⟩ = some (.int .i64 a0) := (blk_cell BKA.out 0).trans rfl
  have zA1 : wS3.cell? ⟨gA, 1, none⟩ = some (.int .i64 a1) := (blk_cell BKA.out 1).trans rfl
  have zA2 : wS3.cell? ⟨gA, 2, none⟩ = some (.string ta) := (blk_cell BKA.out 2).trans rfl
  have zA3 : wS3.cell? ⟨gA, 3, none⟩ = some (.bool a3) := (blk_cell BKA.out 3).trans rfl
  have zA4 : wS3.cell? ⟨gA, 4, none⟩ = some (.int .i64 a4) := (blk_cell BKA.out 4).trans rfl
  have zfA0 := blk_frozen BKA.out 0
  have zfA1 := blk_frozen BKA.out 1
  have zfA2 := blk_frozen BKA.out 2
  have zfA3 := blk_frozen BKA.out 3
  have zfA4 := blk_frozen BKA.out 4
  have zB0 : wS3.cell? ⟨gB, 0, none⟩ = some (.int .i64 b0) := (blk_cell BKB.out 0).trans rfl
  have zB1 : wS3.cell? ⟨gB, 1, none⟩ = some (.int .i64 b1) := (blk_cell BKB.out 1).trans rfl
  have zB2 : wS3.cell? ⟨gB, 2, none⟩ = some (.string tb) := (blk_cell BKB.out 2).trans rfl
  have zB3 : wS3.cell? ⟨gB, 3, none⟩ = some (.bool b3) := (blk_cell BKB.out 3).trans rfl
  have zB4 : wS3.cell? ⟨gB, 4, none⟩ = some (.int .i64 b4) := (blk_cell BKB.out 4).trans rfl
  have zfB0 := blk_frozen BKB.out 0
  have zfB1 := blk_frozen BKB.out 1
  have zfB2 := blk_frozen BKB.out 2
  have zfB3 := blk_frozen BKB.out 3
  have zfB4 := blk_frozen BKB.out 4
  have zC0 : wS3.cell? ⟨gC, 0, none⟩ = some (.int .i64 c0) := (blk_cell BKC.out 0).trans rfl
  have zC1 : wS3.cell? ⟨gC, 1, none⟩ = some (.int .i64 c1) := (blk_cell BKC.out 1).trans rfl
  have zC2 : wS3.cell? ⟨gC, 2, none⟩ = some (.string tc) := (blk_cell BKC.out 2).trans rfl
  have zC3 : wS3.cell? ⟨gC, 3, none⟩ = some (.bool c3) := (blk_cell BKC.out 3).trans rfl
  have zC4 : wS3.cell? ⟨gC, 4, none⟩ = some (.int .i64 c4) := (blk_cell BKC.out 4).trans rfl
  have zfC0 := blk_frozen BKC.out 0
  have zfC1 := blk_frozen BKC.out 1
  have zfC2 := blk_frozen BKC.out 2
  have zfC3 := blk_frozen BKC.out 3
  have zfC4 := blk_frozen BKC.out 4
  go_wp2_with (first | ((with_reducible refine gate_callee (f := 11) rfl ?_); (try (refine gate_guard (by rfl) ?_; dsimp only)); refine goesL_ (some 22) rfl rfl Tryz.func11 (by kernel_rfl) rfl #[.agg #[.int .i64 a0, .int .i64 a1, .string ta, .bool a3, .int .i64 a4], .agg #[.int .i64 b0, .int .i64 b1, .string tb, .bool b3, .int .i64 b4]] rfl (by (try simp only [List.map_toArray, List.map_cons, List.map_nil]); first | done | rfl | (simp only [List.length_drop, List.length_take]; rfl)) ?_; (refine (value_Compare.calls (hL := ⟨hL.out.below (by repeat (first | (with_reducible first | exact HB.out | apply below_alloc | apply below_drew | apply pw_below_drewN | apply below_drew1) | exact HB.out))⟩) 2000000 a0 a1 ta a3 a4 b0 b1 tb b3 b4 x _ HX.out).mono ?_); rintro e w22 ⟨rfl, hb⟩; refine ⟨_, rfl, ?_⟩; clear zA0 zfA0 zA1 zfA1 zA2 zfA2 zA3 zfA3 zA4 zfA4 zB0 zfB0 zB1 zfB1 zB2 zfB2 zB3 zfB3 zB4 zfB4 zC0 zfC0 zC1 zfC1 zC2 zfC2 zC3 zfC3 zC4 zfC4; have m0_ := Aside0.mk (blk_below (by (with_reducible repeat (first | refine blk_drewN ?_ _ | refine blk_drew ?_ | refine blk_alloc ?_ _)); exact BKA.out) hb); have m1_ := Aside0.mk (blk_below (by (with_reducible repeat (first | refine blk_drewN ?_ _ | refine blk_drew ?_ | refine blk_alloc ?_ _)); exact BKB.out) hb); have m2_ := Aside0.mk (blk_below (by (with_reducible repeat (first | refine blk_drewN ?_ _ | refine blk_drew ?_ | refine blk_alloc ?_ _)); exact BKC.out) hb); have n0_ := Aside0.mk (below_step (by repeat (first | (with_reducible first | exact HB.out | apply below_alloc | apply below_drew | apply pw_below_drewN | apply below_drew1) | exact HB.out)) hb); clear HB BKA BKB BKC; have HB := n0_; have BKA := m0_; have BKB := m1_; have BKC := m2_; clear n0_ m0_ m1_ m2_; clear hb))
  refine start_ (n := 28) (S := fun w' => w'.heap[gA]? = some (.cells (cs5 a0 a1 ta a3 a4) 24 (0, 0)) ∧ w'.heap[gB]? = some (.cells (cs5 b0 b1 tb b3 b4) 24 (0, 0)) ∧ w'.heap[gC]? = some (.cells (cs5 c0 c1 tc c3 c4) 24 (0, 0))) (ds := []) #[false, false, false, false, false, false, false, false, false, false, false, false, false, false, false, false, false, false, false, false, false, false, false, false, false, false, false, false] (by kernel_rfl) rfl rfl ⟨blk_drew BKA.out, blk_drew BKB.out, blk_drew BKC.out⟩ (fun hHeld => ?_)
  refine with_tabW vo_tab6 vo_bits6 (fun HT_ HW_ => ?_)
  have m0_ := Aside0.mk (blk_drew BKA.out)
  have m1_ := Aside0.mk (blk_drew BKB.out)
  have m2_ := Aside0.mk (blk_drew BKC.out)
  have n0_ := Aside0.mk (below_drew1 HB.out)
  clear BKA BKB BKC HB
  have BKA := m0_
  have BKB := m1_
  have BKC := m2_
  have HB := n0_
  clear m0_ m1_ m2_ n0_
  generalize w22.drew = wD at BKA BKB BKC HB hHeld ⊢
  refine pure_ (i := 0) (N := some 23) (v := ?_) (a' := ?_) #[true, false, false, false, false, false, false, false, false, false, false, false, false, false, false, false, false, false, false, false, false, false, false, false, false, false, false, false] rfl rfl (any_of HT_.out (by kernel_rfl)) (fun _ _ _ h => h) (Or.inl ⟨by rfl, ?_⟩) ?_ ?_
  rotate_left
  · intro w'
    go_simp
    with_reducible rfl
  rotate_left
  · simp only [Act.put, List.setIfInBounds_toArray, List.set_cons_zero, List.set_cons_succ, i64_w, i32_w]
    rfl
  refine take_ (i := 1) (N := some 24) (v := ?_) (a' := ?_) #[true, true, false, false, false, false, false, false, false, false, false, false, false, false, false, false, false, false, false, false, false, false, false, false, false, false, false, false] rfl rfl (take_ofW HT_.out HW_.out (by kernel_rfl)) (fun _ _ _ h => h) (Or.inl ⟨by rfl, ?_⟩) hHeld ?_ ?_
  rotate_left
  · rintro w' ⟨sA, sB, sC⟩
    have s0 : w'.cell? ⟨gA, 0, none⟩ = some (.int .i64 a0) := (blk_cell sA 0).trans rfl
    have s1 : w'.cell? ⟨gA, 1, none⟩ = some (.int .i64 a1) := (blk_cell sA 1).trans rfl
    have s2 : w'.cell? ⟨gA, 2, none⟩ = some (.string ta) := (blk_cell sA 2).trans rfl
    have s3 : w'.cell? ⟨gA, 3, none⟩ = some (.bool a3) := (blk_cell sA 3).trans rfl
    have s4 : w'.cell? ⟨gA, 4, none⟩ = some (.int .i64 a4) := (blk_cell sA 4).trans rfl
    clear sA sB sC
    go_simp
    with_reducible rfl
  rotate_left
  · simp only [Act.put, List.setIfInBounds_toArray, List.set_cons_zero, List.set_cons_succ, i64_w, i32_w]
    rfl
  refine take_ (i := 2) (N := some 25) (v := ?_) (a' := ?_) #[true, true, true, false, false, false, false, false, false, false, false, false, false, false, false, false, false, false, false, false, false, false, false, false, false, false, false, false] rfl rfl (take_ofW HT_.out HW_.out (by kernel_rfl)) (fun _ _ _ h => h) (Or.inl ⟨by rfl, ?_⟩) hHeld ?_ ?_
  rotate_left
  · rintro w' ⟨sA, sB, sC⟩
    have s0 : w'.cell? ⟨gB, 0, none⟩ = some (.int .i64 b0) := (blk_cell sB 0).trans rfl
    have s1 : w'.cell? ⟨gB, 1, none⟩ = some (.int .i64 b1) := (blk_cell sB 1).trans rfl
    have s2 : w'.cell? ⟨gB, 2, none⟩ = some (.string tb) := (blk_cell sB 2).trans rfl
    have s3 : w'.cell? ⟨gB, 3, none⟩ = some (.bool b3) := (blk_cell sB 3).trans rfl
    have s4 : w'.cell? ⟨gB, 4, none⟩ = some (.int .i64 b4) := (blk_cell sB 4).trans rfl
    clear sA sB sC
    go_simp
    with_reducible rfl
  rotate_left
  · simp only [Act.put, List.setIfInBounds_toArray, List.set_cons_zero, List.set_cons_succ, i64_w, i32_w]
    rfl
  refine one_ (i := 3) (N := some 26) #[true, true, true, true, false, false, false, false, false, false, false, false, false, false, false, false, false, false, false, false, false, false, false, false, false, false, false, false] rfl rfl (one_of HT_.out (by kernel_rfl)) (by decide) (fun K hK => ?_)
  refine goes_ Tryz.func12 (by kernel_rfl) rfl #[.agg #[.int .i64 a0, .int .i64 a1, .string ta, .bool a3, .int .i64 a4], .agg #[.int .i64 b0, .int .i64 b1, .string tb, .bool b3, .int .i64 b4]] (by rfl) rfl rfl (by (try simp only [List.map_toArray, List.map_cons, List.map_nil]); first | done | rfl | (simp only [List.length_drop, List.length_take]; rfl)) ?_
  refine (counterpaneref1_Compare.calls 2000000 a0 a1 ta a3 a4 b0 b1 tb b3 b4 x _ HR.out).mono ?_
  rintro e w1 ⟨rfl, hb⟩
  refine ⟨_, rfl, ?_⟩
  have m0_ := Aside0.mk (blk_below (by (with_reducible repeat (first | refine blk_drewN ?_ _ | refine blk_drew ?_ | refine blk_alloc ?_ _)); exact BKA.out) hb); have m1_ := Aside0.mk (blk_below (by (with_reducible repeat (first | refine blk_drewN ?_ _ | refine blk_drew ?_ | refine blk_alloc ?_ _)); exact BKB.out) hb); have m2_ := Aside0.mk (blk_below (by (with_reducible repeat (first | refine blk_drewN ?_ _ | refine blk_drew ?_ | refine blk_alloc ?_ _)); exact BKC.out) hb); have n0_ := Aside0.mk (below_step (by repeat (first | (with_reducible first | exact HB.out | apply below_alloc | apply below_drew | apply pw_below_drewN | apply below_drew1) | exact HB.out)) hb); clear HB BKA BKB BKC; have HB := n0_; have BKA := m0_; have BKB := m1_; have BKC := m2_; clear n0_ m0_ m1_ m2_; clear hb
  refine hK.out _ _ ⟨BKA.out, BKB.out, BKC.out⟩ (fun hHeld => ?_)
  clear hK K
  refine norm_ (a' := ?_) ?_ ?_
  rotate_left
  · show Act.put _ (some 26) _ = _
    simp only [Act.put, List.setIfInBounds_toArray, List.set_cons_zero, List.set_cons_succ, i64_w, i32_w]
    rfl
  refine pure_ (i := 4) (N := some 27) (v := ?_) (a' := ?_) #[true, true, true, true, true, false, false, false, false, false, false, false, false, false, false, false, false, false, false, false, false, false, false, false, false, false, false, false] rfl rfl (any_of HT_.out (by kernel_rfl)) (fun _ _ _ h => h) (Or.inl ⟨by rfl, ?_⟩) ?_ ?_
  rotate_left
  · intro w'
    go_simp
    with_reducible rfl
  rotate_left
  · simp only [Act.put, List.setIfInBounds_toArray, List.set_cons_zero, List.set_cons_succ, i64_w, i32_w]
    rfl
  refine pure_ (i := 5) (N := some 28) (v := ?_) (a' := ?_) #[true, true, true, true, true, true, false, false, false, false, false, false, false, false, false, false, false, false, false, false, false, false, false, false, false, false, false, false] rfl rfl (any_of HT_.out (by kernel_rfl)) (fun _ _ _ h => h) (Or.inl ⟨by rfl, ?_⟩) ?_ ?_
  rotate_left
  · intro w'
    go_simp
    with_reducible rfl
  rotate_left
  · simp only [Act.put, List.setIfInBounds_toArray, List.set_cons_zero, List.set_cons_succ, i64_w, i32_w]
    rfl
  refine pure_ (i := 9) (N := some 32) (v := ?_) (a' := ?_) #[true, true, true, true, true, true, false, false, false, true, false, false, false, false, false, false, false, false, false, false, false, false, false, false, false, false, false, false] rfl rfl (any_of HT_.out (by kernel_rfl)) (fun _ _ _ h => h) (Or.inl ⟨by rfl, ?_⟩) ?_ ?_
  rotate_left
  · intro w'
    go_simp
    with_reducible rfl
  rotate_left
  · simp only [Act.put, List.setIfInBounds_toArray, List.set_cons_zero, List.set_cons_succ, i64_w, i32_w]
    rfl
  refine pure_ (i := 10) (N := some 33) (v := ?_) (a' := ?_) #[true, true, true, true, true, true, false, false, false, true, true, false, false, false, false, false, false, false, false, false, false, false, false, false, false, false, false, false] rfl rfl (any_of HT_.out (by kernel_rfl)) (fun _ _ _ h => h) (Or.inl ⟨by rfl, ?_⟩) ?_ ?_
  rotate_left
  · intro w'
    go_simp
    with_reducible rfl
  rotate_left
  · simp only [Act.put, List.setIfInBounds_toArray, List.set_cons_zero, List.set_cons_succ, i64_w, i32_w]
    rfl
  refine take_ (i := 6) (N := some 29) (v := ?_) (a' := ?_) #[true, true, true, true, true, true, true, false, false, true, true, false, false, false, false, false, false, false, false, false, false, false, false, false, false, false, false, false] rfl rfl (take_ofW HT_.out HW_.out (by kernel_rfl)) (fun _ _ _ h => h) (Or.inl ⟨by rfl, ?_⟩) hHeld ?_ ?_
  rotate_left
  · rintro w' ⟨sA, sB, sC⟩
    have s0 : w'.cell? ⟨gB, 0, none⟩ = some (.int .i64 b0) := (blk_cell sB 0).trans rfl
    have s1 : w'.cell? ⟨gB, 1, none⟩ = some (.int .i64 b1) := (blk_cell sB 1).trans rfl
    have s2 : w'.cell? ⟨gB, 2, none⟩ = some (.string tb) := (blk_cell sB 2).trans rfl
    have s3 : w'.cell? ⟨gB, 3, none⟩ = some (.bool b3) := (blk_cell sB 3).trans rfl
    have s4 : w'.cell? ⟨gB, 4, none⟩ = some (.int .i64 b4) := (blk_cell sB 4).trans rfl
    clear sA sB sC
    go_simp
    with_reducible rfl
  rotate_left
  · simp only [Act.put, List.setIfInBounds_toArray, List.set_cons_zero, List.set_cons_succ, i64_w, i32_w]
    rfl
  refine take_ (i := 7) (N := some 30) (v := ?_) (a' := ?_) #[true, true, true, true, true, true, true, true, false, true, true, false, false, false, false, false, false, false, false, false, false, false, false, false, false, false, false, false] rfl rfl (take_ofW HT_.out HW_.out (by kernel_rfl)) (fun _ _ _ h => h) (Or.inl ⟨by rfl, ?_⟩) hHeld ?_ ?_
  rotate_left
  · rintro w' ⟨sA, sB, sC⟩
    have s0 : w'.cell? ⟨gA, 0, none⟩ = some (.int .i64 a0) := (blk_cell sA 0).trans rfl
    have s1 : w'.cell? ⟨gA, 1, none⟩ = some (.int .i64 a1) := (blk_cell sA 1).trans rfl
    have s2 : w'.cell? ⟨gA, 2, none⟩ = some (.string ta) := (blk_cell sA 2).trans rfl
    have s3 : w'.cell? ⟨gA, 3, none⟩ = some (.bool a3) := (blk_cell sA 3).trans rfl
    have s4 : w'.cell? ⟨gA, 4, none⟩ = some (.int .i64 a4) := (blk_cell sA 4).trans rfl
    clear sA sB sC
    go_simp
    with_reducible rfl
  rotate_left
  · simp only [Act.put, List.setIfInBounds_toArray, List.set_cons_zero, List.set_cons_succ, i64_w, i32_w]
    rfl
  refine one_ (i := 8) (N := some 31) #[true, true, true, true, true, true, true, true, true, true, true, false, false, false, false, false, false, false, false, false, false, false, false, false, false, false, false, false] rfl rfl (one_of HT_.out (by kernel_rfl)) (by decide) (fun K hK => ?_)
  refine goes_ Tryz.func11 (by kernel_rfl) rfl #[.agg #[.int .i64 b0, .int .i64 b1, .string tb, .bool b3, .int .i64 b4], .agg #[.int .i64 a0, .int .i64 a1, .string ta, .bool a3, .int .i64 a4]] (by rfl) rfl rfl (by (try simp only [List.map_toArray, List.map_cons, List.map_nil]); first | done | rfl | (simp only [List.length_drop, List.length_take]; rfl)) ?_
  refine (value_Compare.calls (hL := ⟨hL.out.below (by repeat (first | (with_reducible first | exact HB.out | apply below_alloc | apply below_drew | apply pw_below_drewN | apply below_drew1) | exact HB.out))⟩) 2000000 b0 b1 tb b3 b4 a0 a1 ta a3 a4 (-x) _ HN.out).mono ?_
  rintro e w1 ⟨rfl, hb⟩
  refine ⟨_, rfl, ?_⟩
  have m0_ := Aside0.mk (blk_below (by (with_reducible repeat (first | refine blk_drewN ?_ _ | refine blk_drew ?_ | refine blk_alloc ?_ _)); exact BKA.out) hb); have m1_ := Aside0.mk (blk_below (by (with_reducible repeat (first | refine blk_drewN ?_ _ | refine blk_drew ?_ | refine blk_alloc ?_ _)); exact BKB.out) hb); have m2_ := Aside0.mk (blk_below (by (with_reducible repeat (first | refine blk_drewN ?_ _ | refine blk_drew ?_ | refine blk_alloc ?_ _)); exact BKC.out) hb); have n0_ := Aside0.mk (below_step (by repeat (first | (with_reducible first | exact HB.out | apply below_alloc | apply below_drew | apply pw_below_drewN | apply below_drew1) | exact HB.out)) hb); clear HB BKA BKB BKC; have HB := n0_; have BKA := m0_; have BKB := m1_; have BKC := m2_; clear n0_ m0_ m1_ m2_; clear hb
  refine hK.out _ _ ⟨BKA.out, BKB.out, BKC.out⟩ (fun hHeld => ?_)
  clear hK K
  refine norm_ (a' := ?_) ?_ ?_
  rotate_left
  · show Act.put _ (some 31) _ = _
    simp only [Act.put, List.setIfInBounds_toArray, List.set_cons_zero, List.set_cons_succ, i64_w, i32_w]
    rfl
  refine pure_ (i := 11) (N := some 34) (v := ?_) (a' := ?_) #[true, true, true, true, true, true, true, true, true, true, true, true, false, false, false, false, false, false, false, false, false, false, false, false, false, false, false, false] rfl rfl (any_of HT_.out (by kernel_rfl)) (fun _ _ _ h => h) (Or.inl ⟨by rfl, ?_⟩) ?_ ?_
  rotate_left
  · intro w'
    go_simp
    with_reducible rfl
  rotate_left
  · simp only [Act.put, List.setIfInBounds_toArray, List.set_cons_zero, List.set_cons_succ, i64_w, i32_w]
    rfl
  refine pure_ (i := 12) (N := some 35) (v := ?_) (a' := ?_) #[true, true, true, true, true, true, true, true, true, true, true, true, true, false, false, false, false, false, false, false, false, false, false, false, false, false, false, false] rfl rfl (any_of HT_.out (by kernel_rfl)) (fun _ _ _ h => h) (Or.inl ⟨by rfl, ?_⟩) ?_ ?_
  rotate_left
  · intro w'
    go_simp
    with_reducible rfl
  rotate_left
  · simp only [Act.put, List.setIfInBounds_toArray, List.set_cons_zero, List.set_cons_succ, i64_w, i32_w]
    rfl
  refine pure_ (i := 13) (N := some 36) (v := ?_) (a' := ?_) #[true, true, true, true, true, true, true, true, true, true, true, true, true, true, false, false, false, false, false, false, false, false, false, false, false, false, false, false] rfl rfl (any_of HT_.out (by kernel_rfl)) (fun _ _ _ h => h) (Or.inl ⟨by rfl, ?_⟩) ?_ ?_
  rotate_left
  · intro w'
    go_simp
    with_reducible rfl
  rotate_left
  · simp only [Act.put, List.setIfInBounds_toArray, List.set_cons_zero, List.set_cons_succ, i64_w, i32_w]
    rfl
  refine take_ (i := 14) (N := some 37) (v := ?_) (a' := ?_) #[true, true, true, true, true, true, true, true, true, true, true, true, true, true, true, false, false, false, false, false, false, false, false, false, false, false, false, false] rfl rfl (take_ofW HT_.out HW_.out (by kernel_rfl)) (fun _ _ _ h => h) (Or.inl ⟨by rfl, ?_⟩) hHeld ?_ ?_
  rotate_left
  · rintro w' ⟨sA, sB, sC⟩
    have s0 : w'.cell? ⟨gA, 0, none⟩ = some (.int .i64 a0) := (blk_cell sA 0).trans rfl
    have s1 : w'.cell? ⟨gA, 1, none⟩ = some (.int .i64 a1) := (blk_cell sA 1).trans rfl
    have s2 : w'.cell? ⟨gA, 2, none⟩ = some (.string ta) := (blk_cell sA 2).trans rfl
    have s3 : w'.cell? ⟨gA, 3, none⟩ = some (.bool a3) := (blk_cell sA 3).trans rfl
    have s4 : w'.cell? ⟨gA, 4, none⟩ = some (.int .i64 a4) := (blk_cell sA 4).trans rfl
    clear sA sB sC
    go_simp
    with_reducible rfl
  rotate_left
  · simp only [Act.put, List.setIfInBounds_toArray, List.set_cons_zero, List.set_cons_succ, i64_w, i32_w]
    rfl
  refine take_ (i := 15) (N := some 38) (v := ?_) (a' := ?_) #[true, true, true, true, true, true, true, true, true, true, true, true, true, true, true, true, false, false, false, false, false, false, false, false, false, false, false, false] rfl rfl (take_ofW HT_.out HW_.out (by kernel_rfl)) (fun _ _ _ h => h) (Or.inl ⟨by rfl, ?_⟩) hHeld ?_ ?_
  rotate_left
  · rintro w' ⟨sA, sB, sC⟩
    have s0 : w'.cell? ⟨gB, 0, none⟩ = some (.int .i64 b0) := (blk_cell sB 0).trans rfl
    have s1 : w'.cell? ⟨gB, 1, none⟩ = some (.int .i64 b1) := (blk_cell sB 1).trans rfl
    have s2 : w'.cell? ⟨gB, 2, none⟩ = some (.string tb) := (blk_cell sB 2).trans rfl
    have s3 : w'.cell? ⟨gB, 3, none⟩ = some (.bool b3) := (blk_cell sB 3).trans rfl
    have s4 : w'.cell? ⟨gB, 4, none⟩ = some (.int .i64 b4) := (blk_cell sB 4).trans rfl
    clear sA sB sC
    go_simp
    with_reducible rfl
  rotate_left
  · simp only [Act.put, List.setIfInBounds_toArray, List.set_cons_zero, List.set_cons_succ, i64_w, i32_w]
    rfl
  refine take_ (i := 17) (N := some 40) (v := ?_) (a' := ?_) #[true, true, true, true, true, true, true, true, true, true, true, true, true, true, true, true, false, true, false, false, false, false, false, false, false, false, false, false] rfl rfl (take_ofW HT_.out HW_.out (by kernel_rfl)) (fun _ _ _ h => h) (Or.inl ⟨by rfl, ?_⟩) hHeld ?_ ?_
  rotate_left
  · rintro w' ⟨sA, sB, sC⟩
    have s0 : w'.cell? ⟨gA, 0, none⟩ = some (.int .i64 a0) := (blk_cell sA 0).trans rfl
    have s1 : w'.cell? ⟨gA, 1, none⟩ = some (.int .i64 a1) := (blk_cell sA 1).trans rfl
    have s2 : w'.cell? ⟨gA, 2, none⟩ = some (.string ta) := (blk_cell sA 2).trans rfl
    have s3 : w'.cell? ⟨gA, 3, none⟩ = some (.bool a3) := (blk_cell sA 3).trans rfl
    have s4 : w'.cell? ⟨gA, 4, none⟩ = some (.int .i64 a4) := (blk_cell sA 4).trans rfl
    clear sA sB sC
    go_simp
    with_reducible rfl
  rotate_left
  · simp only [Act.put, List.setIfInBounds_toArray, List.set_cons_zero, List.set_cons_succ, i64_w, i32_w]
    rfl
  refine take_ (i := 18) (N := some 41) (v := ?_) (a' := ?_) #[true, true, true, true, true, true, true, true, true, true, true, true, true, true, true, true, false, true, true, false, false, false, false, false, false, false, false, false] rfl rfl (take_ofW HT_.out HW_.out (by kernel_rfl)) (fun _ _ _ h => h) (Or.inl ⟨by rfl, ?_⟩) hHeld ?_ ?_
  rotate_left
  · rintro w' ⟨sA, sB, sC⟩
    have s0 : w'.cell? ⟨gB, 0, none⟩ = some (.int .i64 b0) := (blk_cell sB 0).trans rfl
    have s1 : w'.cell? ⟨gB, 1, none⟩ = some (.int .i64 b1) := (blk_cell sB 1).trans rfl
    have s2 : w'.cell? ⟨gB, 2, none⟩ = some (.string tb) := (blk_cell sB 2).trans rfl
    have s3 : w'.cell? ⟨gB, 3, none⟩ = some (.bool b3) := (blk_cell sB 3).trans rfl
    have s4 : w'.cell? ⟨gB, 4, none⟩ = some (.int .i64 b4) := (blk_cell sB 4).trans rfl
    clear sA sB sC
    go_simp
    with_reducible rfl
  rotate_left
  · simp only [Act.put, List.setIfInBounds_toArray, List.set_cons_zero, List.set_cons_succ, i64_w, i32_w]
    rfl
  refine one_ (i := 16) (N := some 39) #[true, true, true, true, true, true, true, true, true, true, true, true, true, true, true, true, true, true, true, false, false, false, false, false, false, false, false, false] rfl rfl (one_of HT_.out (by kernel_rfl)) (by decide) (fun K hK => ?_)
  refine goes_ Tryz.func13 (by kernel_rfl) rfl #[.agg #[.int .i64 a0, .int .i64 a1, .string ta, .bool a3, .int .i64 a4], .agg #[.int .i64 b0, .int .i64 b1, .string tb, .bool b3, .int .i64 b4]] (by rfl) rfl rfl (by (try simp only [List.map_toArray, List.map_cons, List.map_nil]); first | done | rfl | (simp only [List.length_drop, List.length_take]; rfl)) ?_
  refine (value_Eq.calls a0 a1 ta a3 a4 b0 b1 tb b3 b4 q _ HE.out).mono ?_
  rintro e w1 ⟨rfl, hb⟩
  refine ⟨_, rfl, ?_⟩
  have m0_ := Aside0.mk (blk_below (by (with_reducible repeat (first | refine blk_drewN ?_ _ | refine blk_drew ?_ | refine blk_alloc ?_ _)); exact BKA.out) hb); have m1_ := Aside0.mk (blk_below (by (with_reducible repeat (first | refine blk_drewN ?_ _ | refine blk_drew ?_ | refine blk_alloc ?_ _)); exact BKB.out) hb); have m2_ := Aside0.mk (blk_below (by (with_reducible repeat (first | refine blk_drewN ?_ _ | refine blk_drew ?_ | refine blk_alloc ?_ _)); exact BKC.out) hb); have n0_ := Aside0.mk (below_step (by repeat (first | (with_reducible first | exact HB.out | apply below_alloc | apply below_drew | apply pw_below_drewN | apply below_drew1) | exact HB.out)) hb); clear HB BKA BKB BKC; have HB := n0_; have BKA := m0_; have BKB := m1_; have BKC := m2_; clear n0_ m0_ m1_ m2_; clear hb
  refine hK.out _ _ ⟨BKA.out, BKB.out, BKC.out⟩ (fun hHeld => ?_)
  clear hK K
  refine norm_ (a' := ?_) ?_ ?_
  rotate_left
  · show Act.put _ (some 39) _ = _
    simp only [Act.put, List.setIfInBounds_toArray, List.set_cons_zero, List.set_cons_succ, i64_w, i32_w]
    rfl
  refine one_ (i := 19) (N := some 42) #[true, true, true, true, true, true, true, true, true, true, true, true, true, true, true, true, true, true, true, true, false, false, false, false, false, false, false, false] rfl rfl (one_of HT_.out (by kernel_rfl)) (by decide) (fun K hK => ?_)
  refine goes_ Tryz.func14 (by kernel_rfl) rfl #[.agg #[.int .i64 a0, .int .i64 a1, .string ta, .bool a3, .int .i64 a4], .agg #[.int .i64 b0, .int .i64 b1, .string tb, .bool b3, .int .i64 b4]] (by rfl) rfl rfl (by (try simp only [List.map_toArray, List.map_cons, List.map_nil]); first | done | rfl | (simp only [List.length_drop, List.length_take]; rfl)) ?_
  refine (counterpaneref1_Eq.calls a0 a1 ta a3 a4 b0 b1 tb b3 b4 q _ HF.out).mono ?_
  rintro e w1 ⟨rfl, hb⟩
  refine ⟨_, rfl, ?_⟩
  have m0_ := Aside0.mk (blk_below (by (with_reducible repeat (first | refine blk_drewN ?_ _ | refine blk_drew ?_ | refine blk_alloc ?_ _)); exact BKA.out) hb); have m1_ := Aside0.mk (blk_below (by (with_reducible repeat (first | refine blk_drewN ?_ _ | refine blk_drew ?_ | refine blk_alloc ?_ _)); exact BKB.out) hb); have m2_ := Aside0.mk (blk_below (by (with_reducible repeat (first | refine blk_drewN ?_ _ | refine blk_drew ?_ | refine blk_alloc ?_ _)); exact BKC.out) hb); have n0_ := Aside0.mk (below_step (by repeat (first | (with_reducible first | exact HB.out | apply below_alloc | apply below_drew | apply pw_below_drewN | apply below_drew1) | exact HB.out)) hb); clear HB BKA BKB BKC; have HB := n0_; have BKA := m0_; have BKB := m1_; have BKC := m2_; clear n0_ m0_ m1_ m2_; clear hb
  refine hK.out _ _ ⟨BKA.out, BKB.out, BKC.out⟩ (fun hHeld => ?_)
  clear hK K
  refine norm_ (a' := ?_) ?_ ?_
  rotate_left
  · show Act.put _ (some 42) _ = _
    simp only [Act.put, List.setIfInBounds_toArray, List.set_cons_zero, List.set_cons_succ, i64_w, i32_w]
    rfl
  refine pure_ (i := 20) (N := some 43) (v := ?_) (a' := ?_) #[true, true, true, true, true, true, true, true, true, true, true, true, true, true, true, true, true, true, true, true, true, false, false, false, false, false, false, false] rfl rfl (any_of HT_.out (by kernel_rfl)) (fun _ _ _ h => h) (Or.inl ⟨by rfl, ?_⟩) ?_ ?_
  rotate_left
  · intro w'
    go_simp
    with_reducible rfl
  rotate_left
  · simp only [Act.put, List.setIfInBounds_toArray, List.set_cons_zero, List.set_cons_succ, i64_w, i32_w]
    rfl
  refine pure_ (i := 21) (N := some 44) (v := ?_) (a' := ?_) #[true, true, true, true, true, true, true, true, true, true, true, true, true, true, true, true, true, true, true, true, true, true, false, false, false, false, false, false] rfl rfl (any_of HT_.out (by kernel_rfl)) (fun _ _ _ h => h) (Or.inl ⟨by rfl, ?_⟩) ?_ ?_
  rotate_left
  · intro w'
    go_simp
    with_reducible rfl
  rotate_left
  · simp only [Act.put, List.setIfInBounds_toArray, List.set_cons_zero, List.set_cons_succ, i64_w, i32_w]
    rfl
  refine pure_ (i := 22) (N := some 45) (v := ?_) (a' := ?_) #[true, true, true, true, true, true, true, true, true, true, true, true, true, true, true, true, true, true, true, true, true, true, true, false, false, false, false, false] rfl rfl (any_of HT_.out (by kernel_rfl)) (fun _ _ _ h => h) (Or.inl ⟨by rfl, ?_⟩) ?_ ?_
  rotate_left
  · intro w'
    go_simp
    with_reducible rfl
  rotate_left
  · simp only [Act.put, List.setIfInBounds_toArray, List.set_cons_zero, List.set_cons_succ, i64_w, i32_w]
    rfl
  refine take_ (i := 23) (N := some 46) (v := ?_) (a' := ?_) #[true, true, true, true, true, true, true, true, true, true, true, true, true, true, true, true, true, true, true, true, true, true, true, true, false, false, false, false] rfl rfl (take_ofW HT_.out HW_.out (by kernel_rfl)) (fun _ _ _ h => h) (Or.inl ⟨by rfl, ?_⟩) hHeld ?_ ?_
  rotate_left
  · rintro w' ⟨sA, sB, sC⟩
    have s0 : w'.cell? ⟨gA, 0, none⟩ = some (.int .i64 a0) := (blk_cell sA 0).trans rfl
    have s1 : w'.cell? ⟨gA, 1, none⟩ = some (.int .i64 a1) := (blk_cell sA 1).trans rfl
    have s2 : w'.cell? ⟨gA, 2, none⟩ = some (.string ta) := (blk_cell sA 2).trans rfl
    have s3 : w'.cell? ⟨gA, 3, none⟩ = some (.bool a3) := (blk_cell sA 3).trans rfl
    have s4 : w'.cell? ⟨gA, 4, none⟩ = some (.int .i64 a4) := (blk_cell sA 4).trans rfl
    clear sA sB sC
    go_simp
    with_reducible rfl
  rotate_left
  · simp only [Act.put, List.setIfInBounds_toArray, List.set_cons_zero, List.set_cons_succ, i64_w, i32_w]
    rfl
  refine take_ (i := 24) (N := some 47) (v := ?_) (a' := ?_) #[true, true, true, true, true, true, true, true, true, true, true, true, true, true, true, true, true, true, true, true, true, true, true, true, true, false, false, false] rfl rfl (take_ofW HT_.out HW_.out (by kernel_rfl)) (fun _ _ _ h => h) (Or.inl ⟨by rfl, ?_⟩) hHeld ?_ ?_
  rotate_left
  · rintro w' ⟨sA, sB, sC⟩
    have s0 : w'.cell? ⟨gA, 0, none⟩ = some (.int .i64 a0) := (blk_cell sA 0).trans rfl
    have s1 : w'.cell? ⟨gA, 1, none⟩ = some (.int .i64 a1) := (blk_cell sA 1).trans rfl
    have s2 : w'.cell? ⟨gA, 2, none⟩ = some (.string ta) := (blk_cell sA 2).trans rfl
    have s3 : w'.cell? ⟨gA, 3, none⟩ = some (.bool a3) := (blk_cell sA 3).trans rfl
    have s4 : w'.cell? ⟨gA, 4, none⟩ = some (.int .i64 a4) := (blk_cell sA 4).trans rfl
    clear sA sB sC
    go_simp
    with_reducible rfl
  rotate_left
  · simp only [Act.put, List.setIfInBounds_toArray, List.set_cons_zero, List.set_cons_succ, i64_w, i32_w]
    rfl
  refine one_ (i := 25) (N := some 48) #[true, true, true, true, true, true, true, true, true, true, true, true, true, true, true, true, true, true, true, true, true, true, true, true, true, true, false, false] rfl rfl (one_of HT_.out (by kernel_rfl)) (by decide) (fun K hK => ?_)
  refine goes_ Tryz.func11 (by kernel_rfl) rfl #[.agg #[.int .i64 a0, .int .i64 a1, .string ta, .bool a3, .int .i64 a4], .agg #[.int .i64 a0, .int .i64 a1, .string ta, .bool a3, .int .i64 a4]] (by rfl) rfl rfl (by (try simp only [List.map_toArray, List.map_cons, List.map_nil]); first | done | rfl | (simp only [List.length_drop, List.length_take]; rfl)) ?_
  refine (value_Compare.calls (hL := ⟨hL.out.below (by repeat (first | (with_reducible first | exact HB.out | apply below_alloc | apply below_drew | apply pw_below_drewN | apply below_drew1) | exact HB.out))⟩) 2000000 a0 a1 ta a3 a4 a0 a1 ta a3 a4 0 _ HS.out).mono ?_
  rintro e w1 ⟨rfl, hb⟩
  refine ⟨_, rfl, ?_⟩
  have m0_ := Aside0.mk (blk_below (by (with_reducible repeat (first | refine blk_drewN ?_ _ | refine blk_drew ?_ | refine blk_alloc ?_ _)); exact BKA.out) hb); have m1_ := Aside0.mk (blk_below (by (with_reducible repeat (first | refine blk_drewN ?_ _ | refine blk_drew ?_ | refine blk_alloc ?_ _)); exact BKB.out) hb); have m2_ := Aside0.mk (blk_below (by (with_reducible repeat (first | refine blk_drewN ?_ _ | refine blk_drew ?_ | refine blk_alloc ?_ _)); exact BKC.out) hb); have n0_ := Aside0.mk (below_step (by repeat (first | (with_reducible first | exact HB.out | apply below_alloc | apply below_drew | apply pw_below_drewN | apply below_drew1) | exact HB.out)) hb); clear HB BKA BKB BKC; have HB := n0_; have BKA := m0_; have BKB := m1_; have BKC := m2_; clear n0_ m0_ m1_ m2_; clear hb
  refine hK.out _ _ ⟨BKA.out, BKB.out, BKC.out⟩ (fun hHeld => ?_)
  clear hK K
  refine norm_ (a' := ?_) ?_ ?_
  rotate_left
  · show Act.put _ (some 48) _ = _
    simp only [Act.put, List.setIfInBounds_toArray, List.set_cons_zero, List.set_cons_succ, i64_w, i32_w]
    rfl
  refine pure_ (i := 26) (N := some 49) (v := ?_) (a' := ?_) #[true, true, true, true, true, true, true, true, true, true, true, true, true, true, true, true, true, true, true, true, true, true, true, true, true, true, true, false] rfl rfl (any_of HT_.out (by kernel_rfl)) (fun _ _ _ h => h) (Or.inl ⟨by rfl, ?_⟩) ?_ ?_
  rotate_left
  · intro w'
    go_simp
    with_reducible rfl
  rotate_left
  · simp only [Act.put, List.setIfInBounds_toArray, List.set_cons_zero, List.set_cons_succ, i64_w, i32_w]
    rfl
  refine pure_ (i := 27) (N := some 50) (v := ?_) (a' := ?_) #[true, true, true, true, true, true, true, true, true, true, true, true, true, true, true, true, true, true, true, true, true, true, true, true, true, true, true, true] rfl rfl (any_of HT_.out (by kernel_rfl)) (fun _ _ _ h => h) (Or.inl ⟨by rfl, ?_⟩) ?_ ?_
  rotate_left
  · intro w'
    go_simp
    with_reducible rfl
  rotate_left
  · simp only [Act.put, List.setIfInBounds_toArray, List.set_cons_zero, List.set_cons_succ, i64_w, i32_w]
    rfl
  refine done_ (done_of HT_.out (by kernel_rfl)) ?_
  clear HT_ HW_ hHeld
  have zA0 : w1.cell? ⟨gA, 0, none⟩ = some (.int .i64 a0) := (blk_cell BKA.out 0).trans rfl
  have zA1 : w1.cell? ⟨gA, 1, none⟩ = some (.int .i64 a1) := (blk_cell BKA.out 1).trans rfl
  have zA2 : w1.cell? ⟨gA, 2, none⟩ = some (.string ta) := (blk_cell BKA.out 2).trans rfl
  have zA3 : w1.cell? ⟨gA, 3, none⟩ = some (.bool a3) := (blk_cell BKA.out 3).trans rfl
  have zA4 : w1.cell? ⟨gA, 4, none⟩ = some (.int .i64 a4) := (blk_cell BKA.out 4).trans rfl
  have zfA0 := blk_frozen BKA.out 0
  have zfA1 := blk_frozen BKA.out 1
  have zfA2 := blk_frozen BKA.out 2
  have zfA3 := blk_frozen BKA.out 3
  have zfA4 := blk_frozen BKA.out 4
  have zB0 : w1.cell? ⟨gB, 0, none⟩ = some (.int .i64 b0) := (blk_cell BKB.out 0).trans rfl
  have zB1 : w1.cell? ⟨gB, 1, none⟩ = some (.int .i64 b1) := (blk_cell BKB.out 1).trans rfl
  have zB2 : w1.cell? ⟨gB, 2, none⟩ = some (.string tb) := (blk_cell BKB.out 2).trans rfl
  have zB3 : w1.cell? ⟨gB, 3, none⟩ = some (.bool b3) := (blk_cell BKB.out 3).trans rfl
  have zB4 : w1.cell? ⟨gB, 4, none⟩ = some (.int .i64 b4) := (blk_cell BKB.out 4).trans rfl
  have zfB0 := blk_frozen BKB.out 0
  have zfB1 := blk_frozen BKB.out 1
  have zfB2 := blk_frozen BKB.out 2
  have zfB3 := blk_frozen BKB.out 3
  have zfB4 := blk_frozen BKB.out 4
  have zC0 : w1.cell? ⟨gC, 0, none⟩ = some (.int .i64 c0) := (blk_cell BKC.out 0).trans rfl
  have zC1 : w1.cell? ⟨gC, 1, none⟩ = some (.int .i64 c1) := (blk_cell BKC.out 1).trans rfl
  have zC2 : w1.cell? ⟨gC, 2, none⟩ = some (.string tc) := (blk_cell BKC.out 2).trans rfl
  have zC3 : w1.cell? ⟨gC, 3, none⟩ = some (.bool c3) := (blk_cell BKC.out 3).trans rfl
  have zC4 : w1.cell? ⟨gC, 4, none⟩ = some (.int .i64 c4) := (blk_cell BKC.out 4).trans rfl
  have zfC0 := blk_frozen BKC.out 0
  have zfC1 := blk_frozen BKC.out 1
  have zfC2 := blk_frozen BKC.out 2
  have zfC3 := blk_frozen BKC.out 3
  have zfC4 := blk_frozen BKC.out 4
  by_cases hx0 : x ≤ 0
  · have d1 : decide (x ≤ 0) = true := decide_eq_true hx0
    by_cases hy0 : y ≤ 0
    · have d2 : decide (y ≤ 0) = true := decide_eq_true hy0
      have hz0 := TR.out hx0 hy0
      have d3 : decide (0 < z) = false := decide_eq_false (by omega)
      clear hx0 hy0 hz0
      go_wp2_with (first
    | ((with_reducible refine gate_callee (f := 11) rfl ?_); (try (refine gate_guard (by rfl) ?_; dsimp only)); refine goesL_ (some 56) rfl rfl Tryz.func11 (by kernel_rfl) rfl #[.agg #[.int .i64 b0, .int .i64 b1, .string tb, .bool b3, .int .i64 b4], .agg #[.int .i64 c0, .int .i64 c1, .string tc, .bool c3, .int .i64 c4]] rfl (by (try simp only [List.map_toArray, List.map_cons, List.map_nil]); first | done | rfl | (simp only [List.length_drop, List.length_take]; rfl)) ?_; (refine (value_Compare.calls (hL := ⟨hL.out.below (by repeat (first | (with_reducible first | exact HB.out | apply below_alloc | apply below_drew | apply pw_below_drewN | apply below_drew1) | exact HB.out))⟩) 2000000 b0 b1 tb b3 b4 c0 c1 tc c3 c4 y _ HY.out).mono ?_); rintro e w56 ⟨rfl, hb⟩; refine ⟨_, rfl, ?_⟩; clear zA0 zfA0 zA1 zfA1 zA2 zfA2 zA3 zfA3 zA4 zfA4 zB0 zfB0 zB1 zfB1 zB2 zfB2 zB3 zfB3 zB4 zfB4 zC0 zfC0 zC1 zfC1 zC2 zfC2 zC3 zfC3 zC4 zfC4; have m0_ := Aside0.mk (blk_below (by (with_reducible repeat (first | refine blk_drewN ?_ _ | refine blk_drew ?_ | refine blk_alloc ?_ _)); exact BKA.out) hb); have m1_ := Aside0.mk (blk_below (by (with_reducible repeat (first | refine blk_drewN ?_ _ | refine blk_drew ?_ | refine blk_alloc ?_ _)); exact BKB.out) hb); have m2_ := Aside0.mk (blk_below (by (with_reducible repeat (first | refine blk_drewN ?_ _ | refine blk_drew ?_ | refine blk_alloc ?_ _)); exact BKC.out) hb); have n0_ := Aside0.mk (below_step (by repeat (first | (with_reducible first | exact HB.out | apply below_alloc | apply below_drew | apply pw_below_drewN | apply below_drew1) | exact HB.out)) hb); clear HB BKA BKB BKC; have HB := n0_; have BKA := m0_; have BKB := m1_; have BKC := m2_; clear n0_ m0_ m1_ m2_; clear hb; have zA0 : w56.cell? ⟨gA, 0, none⟩ = some (.int .i64 a0) := (blk_cell BKA.out 0).trans rfl; have zA1 : w56.cell? ⟨gA, 1, none⟩ = some (.int .i64 a1) := (blk_cell BKA.out 1).trans rfl; have zA2 : w56.cell? ⟨gA, 2, none⟩ = some (.string ta) := (blk_cell BKA.out 2).trans rfl; have zA3 : w56.cell? ⟨gA, 3, none⟩ = some (.bool a3) := (blk_cell BKA.out 3).trans rfl; have zA4 : w56.cell? ⟨gA, 4, none⟩ = some (.int .i64 a4) := (blk_cell BKA.out 4).trans rfl; have zfA0 := blk_frozen BKA.out 0; have zfA1 := blk_frozen BKA.out 1; have zfA2 := blk_frozen BKA.out 2; have zfA3 := blk_frozen BKA.out 3; have zfA4 := blk_frozen BKA.out 4; have zB0 : w56.cell? ⟨gB, 0, none⟩ = some (.int .i64 b0) := (blk_cell BKB.out 0).trans rfl; have zB1 : w56.cell? ⟨gB, 1, none⟩ = some (.int .i64 b1) := (blk_cell BKB.out 1).trans rfl; have zB2 : w56.cell? ⟨gB, 2, none⟩ = some (.string tb) := (blk_cell BKB.out 2).trans rfl; have zB3 : w56.cell? ⟨gB, 3, none⟩ = some (.bool b3) := (blk_cell BKB.out 3).trans rfl; have zB4 : w56.cell? ⟨gB, 4, none⟩ = some (.int .i64 b4) := (blk_cell BKB.out 4).trans rfl; have zfB0 := blk_frozen BKB.out 0; have zfB1 := blk_frozen BKB.out 1; have zfB2 := blk_frozen BKB.out 2; have zfB3 := blk_frozen BKB.out 3; have zfB4 := blk_frozen BKB.out 4; have zC0 : w56.cell? ⟨gC, 0, none⟩ = some (.int .i64 c0) := (blk_cell BKC.out 0).trans rfl; have zC1 : w56.cell? ⟨gC, 1, none⟩ = some (.int .i64 c1) := (blk_cell BKC.out 1).trans rfl; have zC2 : w56.cell? ⟨gC, 2, none⟩ = some (.string tc) := (blk_cell BKC.out 2).trans rfl; have zC3 : w56.cell? ⟨gC, 3, none⟩ = some (.bool c3) := (blk_cell BKC.out 3).trans rfl; have zC4 : w56.cell? ⟨gC, 4, none⟩ = some (.int .i64 c4) := (blk_cell BKC.out 4).trans rfl; have zfC0 := blk_frozen BKC.out 0; have zfC1 := blk_frozen BKC.out 1; have zfC2 := blk_frozen BKC.out 2; have zfC3 := blk_frozen BKC.out 3; have zfC4 := blk_frozen BKC.out 4)
    | ((with_reducible refine gate_callee (f := 11) rfl ?_); (try (refine gate_guard (by rfl) ?_; dsimp only)); refine goesL_ (some 62) rfl rfl Tryz.func11 (by kernel_rfl) rfl #[.agg #[.int .i64 a0, .int .i64 a1, .string ta, .bool a3, .int .i64 a4], .agg #[.int .i64 c0, .int .i64 c1, .string tc, .bool c3, .int .i64 c4]] rfl (by (try simp only [List.map_toArray, List.map_cons, List.map_nil]); first | done | rfl | (simp only [List.length_drop, List.length_take]; rfl)) ?_; (refine (value_Compare.calls (hL := ⟨hL.out.below (by repeat (first | (with_reducible first | exact HB.out | apply below_alloc | apply below_drew | apply pw_below_drewN | apply below_drew1) | exact HB.out))⟩) 2000000 a0 a1 ta a3 a4 c0 c1 tc c3 c4 z _ HZ.out).mono ?_); rintro e w62 ⟨rfl, hb⟩; refine ⟨_, rfl, ?_⟩; clear zA0 zfA0 zA1 zfA1 zA2 zfA2 zA3 zfA3 zA4 zfA4 zB0 zfB0 zB1 zfB1 zB2 zfB2 zB3 zfB3 zB4 zfB4 zC0 zfC0 zC1 zfC1 zC2 zfC2 zC3 zfC3 zC4 zfC4; have m0_ := Aside0.mk (blk_below (by (with_reducible repeat (first | refine blk_drewN ?_ _ | refine blk_drew ?_ | refine blk_alloc ?_ _)); exact BKA.out) hb); have m1_ := Aside0.mk (blk_below (by (with_reducible repeat (first | refine blk_drewN ?_ _ | refine blk_drew ?_ | refine blk_alloc ?_ _)); exact BKB.out) hb); have m2_ := Aside0.mk (blk_below (by (with_reducible repeat (first | refine blk_drewN ?_ _ | refine blk_drew ?_ | refine blk_alloc ?_ _)); exact BKC.out) hb); have n0_ := Aside0.mk (below_step (by repeat (first | (with_reducible first | exact HB.out | apply below_alloc | apply below_drew | apply pw_below_drewN | apply below_drew1) | exact HB.out)) hb); clear HB BKA BKB BKC; have HB := n0_; have BKA := m0_; have BKB := m1_; have BKC := m2_; clear n0_ m0_ m1_ m2_; clear hb)
    | ((with_reducible refine gate_callee (f := 15) rfl ?_); (try (refine gate_guard (by rfl) ?_; dsimp only)); refine goesL_ (some 68) rfl rfl Tryz.func15 (by kernel_rfl) rfl #[.int .i64 n] rfl (by (try simp only [List.map_toArray, List.map_cons, List.map_nil]); first | done | rfl | (simp only [List.length_drop, List.length_take]; rfl)) ?_; (refine (value_Name.calls n r _ HM.out).mono ?_); rintro e w68 ⟨rfl, ⟨nd, rfl⟩⟩; refine ⟨_, rfl, ?_⟩)
    | ((with_reducible refine gate_callee (f := 16) rfl ?_); (try (refine gate_guard (by rfl) ?_; dsimp only)); refine goesL_ (some 70) rfl rfl Tryz.func16 (by kernel_rfl) rfl #[.int .i64 n] rfl (by (try simp only [List.map_toArray, List.map_cons, List.map_nil]); first | done | rfl | (simp only [List.length_drop, List.length_take]; rfl)) ?_; (refine (counterpaneref1_Name.calls n r _ HO.out).mono ?_); rintro e w70 ⟨rfl, hb⟩; refine ⟨_, rfl, ?_⟩; have n1_ := Aside0.mk (below_step (by repeat (first | (with_reducible first | exact HB.out | apply below_alloc | apply below_drew | apply pw_below_drewN | apply below_drew1) | exact HB.out)) hb); clear HB; have HB := n1_; clear n1_; clear hb))
      go_ret
      exact ⟨by first | rfl | (simp; done) | (simp [*]; done), (by repeat (first | (with_reducible first | exact HB.out | apply below_alloc | apply below_drew | apply pw_below_drewN | apply below_drew1) | exact HB.out))⟩
    · have d2 : decide (y ≤ 0) = false := decide_eq_false hy0
      clear hx0 hy0
      go_wp2_with (first
    | ((with_reducible refine gate_callee (f := 11) rfl ?_); (try (refine gate_guard (by rfl) ?_; dsimp only)); refine goesL_ (some 56) rfl rfl Tryz.func11 (by kernel_rfl) rfl #[.agg #[.int .i64 b0, .int .i64 b1, .string tb, .bool b3, .int .i64 b4], .agg #[.int .i64 c0, .int .i64 c1, .string tc, .bool c3, .int .i64 c4]] rfl (by (try simp only [List.map_toArray, List.map_cons, List.map_nil]); first | done | rfl | (simp only [List.length_drop, List.length_take]; rfl)) ?_; (refine (value_Compare.calls (hL := ⟨hL.out.below (by repeat (first | (with_reducible first | exact HB.out | apply below_alloc | apply below_drew | apply pw_below_drewN | apply below_drew1) | exact HB.out))⟩) 2000000 b0 b1 tb b3 b4 c0 c1 tc c3 c4 y _ HY.out).mono ?_); rintro e w56 ⟨rfl, hb⟩; refine ⟨_, rfl, ?_⟩; clear zA0 zfA0 zA1 zfA1 zA2 zfA2 zA3 zfA3 zA4 zfA4 zB0 zfB0 zB1 zfB1 zB2 zfB2 zB3 zfB3 zB4 zfB4 zC0 zfC0 zC1 zfC1 zC2 zfC2 zC3 zfC3 zC4 zfC4; have m0_ := Aside0.mk (blk_below (by (with_reducible repeat (first | refine blk_drewN ?_ _ | refine blk_drew ?_ | refine blk_alloc ?_ _)); exact BKA.out) hb); have m1_ := Aside0.mk (blk_below (by (with_reducible repeat (first | refine blk_drewN ?_ _ | refine blk_drew ?_ | refine blk_alloc ?_ _)); exact BKB.out) hb); have m2_ := Aside0.mk (blk_below (by (with_reducible repeat (first | refine blk_drewN ?_ _ | refine blk_drew ?_ | refine blk_alloc ?_ _)); exact BKC.out) hb); have n0_ := Aside0.mk (below_step (by repeat (first | (with_reducible first | exact HB.out | apply below_alloc | apply below_drew | apply pw_below_drewN | apply below_drew1) | exact HB.out)) hb); clear HB BKA BKB BKC; have HB := n0_; have BKA := m0_; have BKB := m1_; have BKC := m2_; clear n0_ m0_ m1_ m2_; clear hb; have zA0 : w56.cell? ⟨gA, 0, none⟩ = some (.int .i64 a0) := (blk_cell BKA.out 0).trans rfl; have zA1 : w56.cell? ⟨gA, 1, none⟩ = some (.int .i64 a1) := (blk_cell BKA.out 1).trans rfl; have zA2 : w56.cell? ⟨gA, 2, none⟩ = some (.string ta) := (blk_cell BKA.out 2).trans rfl; have zA3 : w56.cell? ⟨gA, 3, none⟩ = some (.bool a3) := (blk_cell BKA.out 3).trans rfl; have zA4 : w56.cell? ⟨gA, 4, none⟩ = some (.int .i64 a4) := (blk_cell BKA.out 4).trans rfl; have zfA0 := blk_frozen BKA.out 0; have zfA1 := blk_frozen BKA.out 1; have zfA2 := blk_frozen BKA.out 2; have zfA3 := blk_frozen BKA.out 3; have zfA4 := blk_frozen BKA.out 4; have zB0 : w56.cell? ⟨gB, 0, none⟩ = some (.int .i64 b0) := (blk_cell BKB.out 0).trans rfl; have zB1 : w56.cell? ⟨gB, 1, none⟩ = some (.int .i64 b1) := (blk_cell BKB.out 1).trans rfl; have zB2 : w56.cell? ⟨gB, 2, none⟩ = some (.string tb) := (blk_cell BKB.out 2).trans rfl; have zB3 : w56.cell? ⟨gB, 3, none⟩ = some (.bool b3) := (blk_cell BKB.out 3).trans rfl; have zB4 : w56.cell? ⟨gB, 4, none⟩ = some (.int .i64 b4) := (blk_cell BKB.out 4).trans rfl; have zfB0 := blk_frozen BKB.out 0; have zfB1 := blk_frozen BKB.out 1; have zfB2 := blk_frozen BKB.out 2; have zfB3 := blk_frozen BKB.out 3; have zfB4 := blk_frozen BKB.out 4; have zC0 : w56.cell? ⟨gC, 0, none⟩ = some (.int .i64 c0) := (blk_cell BKC.out 0).trans rfl; have zC1 : w56.cell? ⟨gC, 1, none⟩ = some (.int .i64 c1) := (blk_cell BKC.out 1).trans rfl; have zC2 : w56.cell? ⟨gC, 2, none⟩ = some (.string tc) := (blk_cell BKC.out 2).trans rfl; have zC3 : w56.cell? ⟨gC, 3, none⟩ = some (.bool c3) := (blk_cell BKC.out 3).trans rfl; have zC4 : w56.cell? ⟨gC, 4, none⟩ = some (.int .i64 c4) := (blk_cell BKC.out 4).trans rfl; have zfC0 := blk_frozen BKC.out 0; have zfC1 := blk_frozen BKC.out 1; have zfC2 := blk_frozen BKC.out 2; have zfC3 := blk_frozen BKC.out 3; have zfC4 := blk_frozen BKC.out 4)
    | ((with_reducible refine gate_callee (f := 11) rfl ?_); (try (refine gate_guard (by rfl) ?_; dsimp only)); refine goesL_ (some 62) rfl rfl Tryz.func11 (by kernel_rfl) rfl #[.agg #[.int .i64 a0, .int .i64 a1, .string ta, .bool a3, .int .i64 a4], .agg #[.int .i64 c0, .int .i64 c1, .string tc, .bool c3, .int .i64 c4]] rfl (by (try simp only [List.map_toArray, List.map_cons, List.map_nil]); first | done | rfl | (simp only [List.length_drop, List.length_take]; rfl)) ?_; (refine (value_Compare.calls (hL := ⟨hL.out.below (by repeat (first | (with_reducible first | exact HB.out | apply below_alloc | apply below_drew | apply pw_below_drewN | apply below_drew1) | exact HB.out))⟩) 2000000 a0 a1 ta a3 a4 c0 c1 tc c3 c4 z _ HZ.out).mono ?_); rintro e w62 ⟨rfl, hb⟩; refine ⟨_, rfl, ?_⟩; clear zA0 zfA0 zA1 zfA1 zA2 zfA2 zA3 zfA3 zA4 zfA4 zB0 zfB0 zB1 zfB1 zB2 zfB2 zB3 zfB3 zB4 zfB4 zC0 zfC0 zC1 zfC1 zC2 zfC2 zC3 zfC3 zC4 zfC4; have m0_ := Aside0.mk (blk_below (by (with_reducible repeat (first | refine blk_drewN ?_ _ | refine blk_drew ?_ | refine blk_alloc ?_ _)); exact BKA.out) hb); have m1_ := Aside0.mk (blk_below (by (with_reducible repeat (first | refine blk_drewN ?_ _ | refine blk_drew ?_ | refine blk_alloc ?_ _)); exact BKB.out) hb); have m2_ := Aside0.mk (blk_below (by (with_reducible repeat (first | refine blk_drewN ?_ _ | refine blk_drew ?_ | refine blk_alloc ?_ _)); exact BKC.out) hb); have n0_ := Aside0.mk (below_step (by repeat (first | (with_reducible first | exact HB.out | apply below_alloc | apply below_drew | apply pw_below_drewN | apply below_drew1) | exact HB.out)) hb); clear HB BKA BKB BKC; have HB := n0_; have BKA := m0_; have BKB := m1_; have BKC := m2_; clear n0_ m0_ m1_ m2_; clear hb)
    | ((with_reducible refine gate_callee (f := 15) rfl ?_); (try (refine gate_guard (by rfl) ?_; dsimp only)); refine goesL_ (some 68) rfl rfl Tryz.func15 (by kernel_rfl) rfl #[.int .i64 n] rfl (by (try simp only [List.map_toArray, List.map_cons, List.map_nil]); first | done | rfl | (simp only [List.length_drop, List.length_take]; rfl)) ?_; (refine (value_Name.calls n r _ HM.out).mono ?_); rintro e w68 ⟨rfl, ⟨nd, rfl⟩⟩; refine ⟨_, rfl, ?_⟩)
    | ((with_reducible refine gate_callee (f := 16) rfl ?_); (try (refine gate_guard (by rfl) ?_; dsimp only)); refine goesL_ (some 70) rfl rfl Tryz.func16 (by kernel_rfl) rfl #[.int .i64 n] rfl (by (try simp only [List.map_toArray, List.map_cons, List.map_nil]); first | done | rfl | (simp only [List.length_drop, List.length_take]; rfl)) ?_; (refine (counterpaneref1_Name.calls n r _ HO.out).mono ?_); rintro e w70 ⟨rfl, hb⟩; refine ⟨_, rfl, ?_⟩; have n1_ := Aside0.mk (below_step (by repeat (first | (with_reducible first | exact HB.out | apply below_alloc | apply below_drew | apply pw_below_drewN | apply below_drew1) | exact HB.out)) hb); clear HB; have HB := n1_; clear n1_; clear hb))
      go_ret
      exact ⟨by first | rfl | (simp; done) | (simp [*]; done), (by repeat (first | (with_reducible first | exact HB.out | apply below_alloc | apply below_drew | apply pw_below_drewN | apply below_drew1) | exact HB.out))⟩
  · have d1 : decide (x ≤ 0) = false := decide_eq_false hx0
    clear hx0
    go_wp2_with (first
    | ((with_reducible refine gate_callee (f := 11) rfl ?_); (try (refine gate_guard (by rfl) ?_; dsimp only)); refine goesL_ (some 56) rfl rfl Tryz.func11 (by kernel_rfl) rfl #[.agg #[.int .i64 b0, .int .i64 b1, .string tb, .bool b3, .int .i64 b4], .agg #[.int .i64 c0, .int .i64 c1, .string tc, .bool c3, .int .i64 c4]] rfl (by (try simp only [List.map_toArray, List.map_cons, List.map_nil]); first | done | rfl | (simp only [List.length_drop, List.length_take]; rfl)) ?_; (refine (value_Compare.calls (hL := ⟨hL.out.below (by repeat (first | (with_reducible first | exact HB.out | apply below_alloc | apply below_drew | apply pw_below_drewN | apply below_drew1) | exact HB.out))⟩) 2000000 b0 b1 tb b3 b4 c0 c1 tc c3 c4 y _ HY.out).mono ?_); rintro e w56 ⟨rfl, hb⟩; refine ⟨_, rfl, ?_⟩; clear zA0 zfA0 zA1 zfA1 zA2 zfA2 zA3 zfA3 zA4 zfA4 zB0 zfB0 zB1 zfB1 zB2 zfB2 zB3 zfB3 zB4 zfB4 zC0 zfC0 zC1 zfC1 zC2 zfC2 zC3 zfC3 zC4 zfC4; have m0_ := Aside0.mk (blk_below (by (with_reducible repeat (first | refine blk_drewN ?_ _ | refine blk_drew ?_ | refine blk_alloc ?_ _)); exact BKA.out) hb); have m1_ := Aside0.mk (blk_below (by (with_reducible repeat (first | refine blk_drewN ?_ _ | refine blk_drew ?_ | refine blk_alloc ?_ _)); exact BKB.out) hb); have m2_ := Aside0.mk (blk_below (by (with_reducible repeat (first | refine blk_drewN ?_ _ | refine blk_drew ?_ | refine blk_alloc ?_ _)); exact BKC.out) hb); have n0_ := Aside0.mk (below_step (by repeat (first | (with_reducible first | exact HB.out | apply below_alloc | apply below_drew | apply pw_below_drewN | apply below_drew1) | exact HB.out)) hb); clear HB BKA BKB BKC; have HB := n0_; have BKA := m0_; have BKB := m1_; have BKC := m2_; clear n0_ m0_ m1_ m2_; clear hb; have zA0 : w56.cell? ⟨gA, 0, none⟩ = some (.int .i64 a0) := (blk_cell BKA.out 0).trans rfl; have zA1 : w56.cell? ⟨gA, 1, none⟩ = some (.int .i64 a1) := (blk_cell BKA.out 1).trans rfl; have zA2 : w56.cell? ⟨gA, 2, none⟩ = some (.string ta) := (blk_cell BKA.out 2).trans rfl; have zA3 : w56.cell? ⟨gA, 3, none⟩ = some (.bool a3) := (blk_cell BKA.out 3).trans rfl; have zA4 : w56.cell? ⟨gA, 4, none⟩ = some (.int .i64 a4) := (blk_cell BKA.out 4).trans rfl; have zfA0 := blk_frozen BKA.out 0; have zfA1 := blk_frozen BKA.out 1; have zfA2 := blk_frozen BKA.out 2; have zfA3 := blk_frozen BKA.out 3; have zfA4 := blk_frozen BKA.out 4; have zB0 : w56.cell? ⟨gB, 0, none⟩ = some (.int .i64 b0) := (blk_cell BKB.out 0).trans rfl; have zB1 : w56.cell? ⟨gB, 1, none⟩ = some (.int .i64 b1) := (blk_cell BKB.out 1).trans rfl; have zB2 : w56.cell? ⟨gB, 2, none⟩ = some (.string tb) := (blk_cell BKB.out 2).trans rfl; have zB3 : w56.cell? ⟨gB, 3, none⟩ = some (.bool b3) := (blk_cell BKB.out 3).trans rfl; have zB4 : w56.cell? ⟨gB, 4, none⟩ = some (.int .i64 b4) := (blk_cell BKB.out 4).trans rfl; have zfB0 := blk_frozen BKB.out 0; have zfB1 := blk_frozen BKB.out 1; have zfB2 := blk_frozen BKB.out 2; have zfB3 := blk_frozen BKB.out 3; have zfB4 := blk_frozen BKB.out 4; have zC0 : w56.cell? ⟨gC, 0, none⟩ = some (.int .i64 c0) := (blk_cell BKC.out 0).trans rfl; have zC1 : w56.cell? ⟨gC, 1, none⟩ = some (.int .i64 c1) := (blk_cell BKC.out 1).trans rfl; have zC2 : w56.cell? ⟨gC, 2, none⟩ = some (.string tc) := (blk_cell BKC.out 2).trans rfl; have zC3 : w56.cell? ⟨gC, 3, none⟩ = some (.bool c3) := (blk_cell BKC.out 3).trans rfl; have zC4 : w56.cell? ⟨gC, 4, none⟩ = some (.int .i64 c4) := (blk_cell BKC.out 4).trans rfl; have zfC0 := blk_frozen BKC.out 0; have zfC1 := blk_frozen BKC.out 1; have zfC2 := blk_frozen BKC.out 2; have zfC3 := blk_frozen BKC.out 3; have zfC4 := blk_frozen BKC.out 4)
    | ((with_reducible refine gate_callee (f := 11) rfl ?_); (try (refine gate_guard (by rfl) ?_; dsimp only)); refine goesL_ (some 62) rfl rfl Tryz.func11 (by kernel_rfl) rfl #[.agg #[.int .i64 a0, .int .i64 a1, .string ta, .bool a3, .int .i64 a4], .agg #[.int .i64 c0, .int .i64 c1, .string tc, .bool c3, .int .i64 c4]] rfl (by (try simp only [List.map_toArray, List.map_cons, List.map_nil]); first | done | rfl | (simp only [List.length_drop, List.length_take]; rfl)) ?_; (refine (value_Compare.calls (hL := ⟨hL.out.below (by repeat (first | (with_reducible first | exact HB.out | apply below_alloc | apply below_drew | apply pw_below_drewN | apply below_drew1) | exact HB.out))⟩) 2000000 a0 a1 ta a3 a4 c0 c1 tc c3 c4 z _ HZ.out).mono ?_); rintro e w62 ⟨rfl, hb⟩; refine ⟨_, rfl, ?_⟩; clear zA0 zfA0 zA1 zfA1 zA2 zfA2 zA3 zfA3 zA4 zfA4 zB0 zfB0 zB1 zfB1 zB2 zfB2 zB3 zfB3 zB4 zfB4 zC0 zfC0 zC1 zfC1 zC2 zfC2 zC3 zfC3 zC4 zfC4; have m0_ := Aside0.mk (blk_below (by (with_reducible repeat (first | refine blk_drewN ?_ _ | refine blk_drew ?_ | refine blk_alloc ?_ _)); exact BKA.out) hb); have m1_ := Aside0.mk (blk_below (by (with_reducible repeat (first | refine blk_drewN ?_ _ | refine blk_drew ?_ | refine blk_alloc ?_ _)); exact BKB.out) hb); have m2_ := Aside0.mk (blk_below (by (with_reducible repeat (first | refine blk_drewN ?_ _ | refine blk_drew ?_ | refine blk_alloc ?_ _)); exact BKC.out) hb); have n0_ := Aside0.mk (below_step (by repeat (first | (with_reducible first | exact HB.out | apply below_alloc | apply below_drew | apply pw_below_drewN | apply below_drew1) | exact HB.out)) hb); clear HB BKA BKB BKC; have HB := n0_; have BKA := m0_; have BKB := m1_; have BKC := m2_; clear n0_ m0_ m1_ m2_; clear hb)
    | ((with_reducible refine gate_callee (f := 15) rfl ?_); (try (refine gate_guard (by rfl) ?_; dsimp only)); refine goesL_ (some 68) rfl rfl Tryz.func15 (by kernel_rfl) rfl #[.int .i64 n] rfl (by (try simp only [List.map_toArray, List.map_cons, List.map_nil]); first | done | rfl | (simp only [List.length_drop, List.length_take]; rfl)) ?_; (refine (value_Name.calls n r _ HM.out).mono ?_); rintro e w68 ⟨rfl, ⟨nd, rfl⟩⟩; refine ⟨_, rfl, ?_⟩)
    | ((with_reducible refine gate_callee (f := 16) rfl ?_); (try (refine gate_guard (by rfl) ?_; dsimp only)); refine goesL_ (some 70) rfl rfl Tryz.func16 (by kernel_rfl) rfl #[.int .i64 n] rfl (by (try simp only [List.map_toArray, List.map_cons, List.map_nil]); first | done | rfl | (simp only [List.length_drop, List.length_take]; rfl)) ?_; (refine (counterpaneref1_Name.calls n r _ HO.out).mono ?_); rintro e w70 ⟨rfl, hb⟩; refine ⟨_, rfl, ?_⟩; have n1_ := Aside0.mk (below_step (by repeat (first | (with_reducible first | exact HB.out | apply below_alloc | apply below_drew | apply pw_below_drewN | apply below_drew1) | exact HB.out)) hb); clear HB; have HB := n1_; clear n1_; clear hb))
    go_ret
    exact ⟨by first | rfl | (simp; done) | (simp [*]; done), (by repeat (first | (with_reducible first | exact HB.out | apply below_alloc | apply below_drew | apply pw_below_drewN | apply below_drew1) | exact HB.out))⟩
end Go.Proofs.YtfnbflhoaemmeaaGreatDoor.EVal
