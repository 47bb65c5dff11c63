/- Part 4 of what the claim's proof stands on: contracts of the program's functions, by walks, and plain laws. -/
import Derived.Test.YtfnbflhoaemmeaaGreatDoorZi3
section
namespace Go.Proofs.YtfnbflhoaemmeaaGreatDoor.EBui
open Go.RowKit Go.Proofs.YtfnbflhoaemmeaaGreatDoor.Ext Go.Proofs.YtfnbflhoaemmeaaGreatDoor.EFxA Go.Proofs.YtfnbflhoaemmeaaGreatDoor.EFix Go.Proofs.YtfnbflhoaemmeaaGreatDoor.EVal Go.Proofs.YtfnbflhoaemmeaaGreatDoorW.PrintWords Go.Proofs.YtfnbflhoaemmeaaGreatDoorW.PrintLast Go.Proofs.YtfnbflhoaemmeaaGreatDoorW.PrintMore
attribute [local go_sem] max2_int min2_int max_two min_two max_three min_three max_four min_four   
set_option linter.unusedVariables false
set_option linter.unusedSimpArgs false
mutual
def builtin_all.l0 : Nat → ByteArray → List Int → Int → List (S44) → Int → Int → Option (Int × Int × ByteArray × Bool × Int)
 | 0, _, _, _, _, _, _ => none
 | k + 1, x0, x5, x6, x16, x17, x18 => if x18 < x17 then (if 0 ≤ x18 then (if x18 < (x16.length : Int) then (builtin_all.l1 k x0 x5 x6 x16 x17 x18 ((rd_T44 x16 x18).f1) (((rd_T44 x16 x18).f1).length : Int) 0) else (none)) else (none)) else (if x6 > 0 then ((builtin_failed.f x6).bind fun bt137 => (some (bt137.1, bt137.2.1, bt137.2.2.1, bt137.2.2.2.1, bt137.2.2.2.2))) else ((fixnum_Int.f (x5.length : Int)).bind fun bt142 => (if x0.toList = ([67, 79, 85, 78, 84] : List UInt8) then ((builtin_number.f bt142.1).bind fun bt144 => (some (bt144.1, bt144.2.1, bt144.2.2.1, bt144.2.2.2.1, bt144.2.2.2.2))) else (if x0.toList = ([77, 73, 78] : List UInt8) then (builtin_all.j3 k x0 x5 bt142.1 bt142.2 (x0.toList == ([77, 73, 78] : List UInt8))) else (builtin_all.j3 k x0 x5 bt142.1 bt142.2 (x0.toList == ([77, 65, 88] : List UInt8)))))))
def builtin_all.l1 : Nat → ByteArray → List Int → Int → List (S44) → Int → Int → List (S24) → Int → Int → Option (Int × Int × ByteArray × Bool × Int)
 | 0, _, _, _, _, _, _, _, _, _ => none
 | k + 1, x0, x5, x6, x16, x17, x18, x23, x24, x25 => if x25 < x24 then (if 0 ≤ x25 then (if x25 < (x23.length : Int) then ((value_Worst.f k (([(⟨(rd_T24 x23 x25).f0, (rd_T24 x23 x25).f1, (rd_T24 x23 x25).f2, (rd_T24 x23 x25).f3, (rd_T24 x23 x25).f4⟩ : S24)] : List (S24)))).bind fun t128 => (if t128 > 0 then (if x6 = 0 then (builtin_all.j2 k x0 x5 x6 t128 x16 x17 x18 x23 x24 x25 true ((rd_T24 x23 x25).f0) ((rd_T24 x23 x25).f1) ((rd_T24 x23 x25).f2) ((rd_T24 x23 x25).f3) ((rd_T24 x23 x25).f4)) else (builtin_all.j2 k x0 x5 x6 t128 x16 x17 x18 x23 x24 x25 (decide (t128 < x6)) ((rd_T24 x23 x25).f0) ((rd_T24 x23 x25).f1) ((rd_T24 x23 x25).f2) ((rd_T24 x23 x25).f3) ((rd_T24 x23 x25).f4))) else (builtin_all.j2 k x0 x5 x6 t128 x16 x17 x18 x23 x24 x25 false ((rd_T24 x23 x25).f0) ((rd_T24 x23 x25).f1) ((rd_T24 x23 x25).f2) ((rd_T24 x23 x25).f3) ((rd_T24 x23 x25).f4)))) else (none)) else (none)) else (builtin_all.l0 k x0 x5 x6 x16 x17 (wrap64 (x18 + 1)))
def builtin_all.j2 : Nat → ByteArray → List Int → Int → Int → List (S44) → Int → Int → List (S24) → Int → Int → Bool → Int → Int → ByteArray → Bool → Int → Option (Int × Int × ByteArray × Bool × Int)
 | 0, _, _, _, _, _, _, _, _, _, _, _, _, _, _, _, _ => none
 | k + 1, x0, x5, x6, x11, x16, x17, x18, x23, x24, x25, x42, x125000, x125001, x125002, x125003, x125004 => if x42 = true then (if x125000 = 1 then ((value_May.f x125000 x125001 x125002 x125003 x125004).bind fun t129 => (if t129 = true then (if x5.length < 17592186044416 then (builtin_all.l1 k x0 (x5 ++ [x125001]) x11 x16 x17 x18 x23 x24 (wrap64 (x25 + 1))) else (none)) else (builtin_all.l1 k x0 x5 x11 x16 x17 x18 x23 x24 (wrap64 (x25 + 1))))) else (builtin_all.l1 k x0 x5 x11 x16 x17 x18 x23 x24 (wrap64 (x25 + 1)))) else (if x125000 = 1 then ((value_May.f x125000 x125001 x125002 x125003 x125004).bind fun t133 => (if t133 = true then (if x5.length < 17592186044416 then (builtin_all.l1 k x0 (x5 ++ [x125001]) x6 x16 x17 x18 x23 x24 (wrap64 (x25 + 1))) else (none)) else (builtin_all.l1 k x0 x5 x6 x16 x17 x18 x23 x24 (wrap64 (x25 + 1))))) else (builtin_all.l1 k x0 x5 x6 x16 x17 x18 x23 x24 (wrap64 (x25 + 1))))
def builtin_all.j3 : Nat → ByteArray → List Int → Int → Bool → Bool → Option (Int × Int × ByteArray × Bool × Int)
 | 0, _, _, _, _, _ => none
 | k + 1, x0, x5, x12, x13, x73 => if x73 = true then ((builtin_extreme.f k x5 (x0.toList == ([77, 65, 88] : List UInt8))).bind fun t149 => ((builtin_number.f t149).bind fun bt150 => (some (bt150.1, bt150.2.1, bt150.2.2.1, bt150.2.2.2.1, bt150.2.2.2.2)))) else ((fixnum_Sum.f k x5).bind fun bt155 => (if x0.toList = ([65, 86, 69, 82, 65, 71, 69] : List UInt8) then (builtin_all.j4 k x0 x12 x13 bt155.1 bt155.2 ((x5.length : Int) == 0)) else (builtin_all.j4 k x0 x12 x13 bt155.1 bt155.2 false)))
def builtin_all.j4 : Nat → ByteArray → Int → Bool → Int → Bool → Bool → Option (Int × Int × ByteArray × Bool × Int)
 | 0, _, _, _, _, _, _ => none
 | k + 1, x0, x12, x13, x14, x15, x86 => if x86 = true then ((builtin_failed.f 3).bind fun bt157 => (some (bt157.1, bt157.2.1, bt157.2.2.1, bt157.2.2.2.1, bt157.2.2.2.2))) else (if x15 = true then (builtin_all.j5 k x0 x12 x14 (!x13)) else (builtin_all.j5 k x0 x12 x14 true))
def builtin_all.j5 : Nat → ByteArray → Int → Int → Bool → Option (Int × Int × ByteArray × Bool × Int)
 | 0, _, _, _, _ => none
 | k + 1, x0, x12, x14, x95 => if x95 = true then ((builtin_failed.f 4).bind fun bt162 => (some (bt162.1, bt162.2.1, bt162.2.2.1, bt162.2.2.2.1, bt162.2.2.2.2))) else (if x0.toList = ([65, 86, 69, 82, 65, 71, 69] : List UInt8) then ((div_.f x14 x12).bind fun bt167 => ((builtin_number.f bt167.1).bind fun bt169 => (some (bt169.1, bt169.2.1, bt169.2.2.1, bt169.2.2.2.1, bt169.2.2.2.2)))) else ((builtin_number.f x14).bind fun bt174 => (some (bt174.1, bt174.2.1, bt174.2.2.1, bt174.2.2.2.1, bt174.2.2.2.2))))
end
def builtin_all.f (k : Nat) (a0 : ByteArray) (l1 : List (S44)) : Option (Int × Int × ByteArray × Bool × Int) := builtin_all.l0 k a0 ([] : List Int) 0 l1 (l1.length : Int) 0
set_option maxHeartbeats 8000000 in
set_option maxRecDepth 100000 in
theorem builtin_all.calls (k : Nat) (a0 : ByteArray) (A1 : Option Addr) (c1 : Nat) (l1 : List (S44)) (r1 : Int) (r2 : Int) (r3 : ByteArray) (r4 : Bool) (r5 : Int) (w : World) (hL : Aside0 (Lq w)) (hr1 : Kd.C k44 w A1 l1.length l1) (hc1 : l1.length ≤ c1) (h : builtin_all.f k a0 l1 = some (r1, r2, r3, r4, r5)) :
  Calls Tryz.prog 55 #[.string a0, .slice A1 l1.length c1] w fun e w' => e = .returned (.agg #[.int .i64 r1, .int .i64 r2, .string r3, .bool r4, .int .i64 r5]) ∧ Below w.heap.size w w' := by
 have hu24 := Tryz.underlying24
 have hu44 := Tryz.underlying44
 have HR1 := Aside0.mk hr1
 have HC1 := Aside0.mk hc1
 clear hr1 hc1
 have HB := Aside0.mk (Below.refl w.heap.size w)
 have H : (builtin_all.l0 k a0 ([] : List Int) 0 l1 (l1.length : Int) 0) = some (r1, r2, r3, r4, r5) := h
 clear h
 have H' := Aside0.mk H
 clear H
 go_enter Tryz.func55, Tryz.ntmps55
 go_wp2_with (first | ((with_reducible refine gate_dst (N := 4) rfl ?_); (try (refine gate_guard (by rfl) ?_; dsimp only)); refine box_event ?hg (N := 4) ?hd (cs := #[.int .i64 0, .int .i64 0, .string (⟨#[]⟩ : ByteArray), .bool false, .int .i64 0]) (t := 24) ?hr ?_; (case hd => rfl); (case hg => rfl); (case hr => first | (go_simp; done) | (go_simp; rfl)); intro gb120 hg w3 hbox hb; have n0_ := Aside0.mk (below_step (by repeat (first | (with_reducible first | exact HB.out | apply bA | apply bN | apply bD) | exact HB.out)) hb); have n1_ := Aside0.mk (hbox); have n2_ := Aside0.mk ((by rw [hg]; exact (below_size (by repeat (first | (with_reducible first | exact HB.out | apply bA | apply bN | apply bD) | exact HB.out))) : w.heap.size ≤ gb120)); have n3_ := Aside0.mk ((by rw [hg]; exact (below_size (by repeat (first | (with_reducible first | exact HB.out | apply bA | apply bN | apply bD) | exact HB.out))) : w.heap.size ≤ gb120)); clear HB; have HB := n0_; have BK120 := n1_; have GW120 := n2_; have GE120 := n3_; clear n0_ n1_ n2_ n3_; clear hb hbox hg))
 go_loopg [5, 6, 18] k (fun kq v5 v6 v18 w' => ∃ (x5_1 : List Int) (x6_1 : Int) (x18_1 : Int), v6 = .int .i64 x6_1 ∧ v18 = .int .i64 x18_1 ∧ Aside0 (builtin_all.l0 kq a0 x5_1 x6_1 l1 (l1.length : Int) x18_1 = some (r1, r2, r3, r4, r5)) ∧ Aside0 (kq ≤ k) ∧ Aside0 (Kd.R (Kd.int .i64) 22 w' w.heap.size (fun _ => True) v5 x5_1) ∧ Aside0 (w'.heap[gb120]? = some (.cells #[.int .i64 0, .int .i64 0, .string (⟨#[]⟩ : ByteArray), .bool false, .int .i64 0] 24 (0, 0))) ∧ Aside0 (Below w.heap.size w w'))
 case atStart => exact ⟨(([] : List Int)), (0), (0), (by first | rfl | (simp; done) | (simp [*]; done)), (by first | rfl | (simp; done) | (simp [*]; done)), H', ⟨Nat.le_refl _⟩, ⟨by first | exact Kd.R_nil _ _ _ _ _ | exact Kd.N_nil _ _ _ _ _ | exact Kd.V_nil _ _ _ _ _ | exact Kd.Q_nil _ _ _ _ _ | exact Kd.S_nil _ _ _ _ _⟩, ⟨by (with_reducible repeat (first | refine blk_drewN ?_ _ | refine blk_drew ?_ | refine blk_alloc ?_ _)); exact BK120.out⟩, ⟨by repeat (first | (with_reducible first | exact HB.out | apply bA | apply bN | apply bD | refine below_set ?_ GE120.out) | exact HB.out)⟩⟩
 case round =>
  clear H'
  try clear c1
  try clear p2
  obtain ⟨x5_1, x6_1, x18_1, rfl, rfl, HA, HK1, HO_5, BK120, HB⟩ := hrel
  cases gk with
  | zero => exact absurd HA.out (by simp [builtin_all.l0])
  | succ k1 =>
   have H := HA.out
   clear HA
   simp only [builtin_all.l0] at H
   by_cases c4 : x18_1 < (l1.length : Int)
   ·rw [if_pos c4] at H
    have c4b0 : decide (x18_1 < (l1.length : Int)) = true := decide_eq_true c4
    clear c4
    by_cases c5 : 0 ≤ x18_1
    ·rw [if_pos c5] at H
     have c5b0 : decide (0 ≤ x18_1) = true := decide_eq_true c5
     clear c5
     by_cases c6 : x18_1 < (l1.length : Int)
     ·rw [if_pos c6] at H
      have c6b0 : decide (x18_1 < (l1.length : Int)) = true := decide_eq_true c6
      clear c6
      have H' := Aside0.mk H
      clear H
      have p121 : 0 ≤ (x18_1 : Int) := of_decide_eq_true (by first | (with_reducible assumption) | assumption)
      have q121 : x18_1 < (l1.length : Int) := of_decide_eq_true (by first | (with_reducible assumption) | assumption)
      obtain ⟨ad121, A121_1, c121_1, e121, hx121_0, hx121_1, hl121_1, hi121_1⟩ := at_T44 HR1.out x18_1 p121 q121
      cases e121
      replace hx121_0 := (HB.out.cell (World.block_lt_of_cell? w _ hx121_0)).trans hx121_0
      replace hx121_1 := (HB.out.cell (World.block_lt_of_cell? w _ hx121_1)).trans hx121_1
      have HR121_1 := Aside0.mk hi121_1
      have HC121_1 := Aside0.mk hl121_1
      clear hi121_1 hl121_1
      replace p121 := eq_true p121
      replace q121 := eq_true q121
      try (have q121z := q121; simp only [ByteArray.size_extract, Nat.min_self] at q121z)
      go_wp2_with (first | ((with_reducible refine gate_dst (N := 8) rfl ?_); (try (refine gate_guard (by rfl) ?_; dsimp only)); refine box_event ?hg (N := 8) ?hd (cs := #[.bool false, .slice none 0 0]) (t := 44) ?hr ?_; (case hd => rfl); (case hg => rfl); (case hr => first | (go_simp; done) | (go_simp; rfl)); intro gb122 hg w7 hbox hb; have n0_ := Aside0.mk (Kd.R_below (by (with_reducible repeat (first | apply Kd.R_alloc | apply Kd.R_drewN | apply Kd.R_drew)); exact HO_5.out) hb); have n1_ := Aside0.mk (blk_below (g := gb120) (o := .cells #[.int .i64 0, .int .i64 0, .string (⟨#[]⟩ : ByteArray), .bool false, .int .i64 0] 24 (0, 0)) (by (with_reducible repeat (first | refine blk_drewN ?_ _ | refine blk_drew ?_ | refine blk_alloc ?_ _)); exact BK120.out) hb); have n2_ := Aside0.mk (below_step (by repeat (first | (with_reducible first | exact HB.out | apply bA | apply bN | apply bD | refine below_set ?_ GE120.out) | exact HB.out)) hb); have n3_ := Aside0.mk (hbox); have n4_ := Aside0.mk ((by rw [hg]; exact (below_size (by repeat (first | (with_reducible first | exact HB.out | apply bA | apply bN | apply bD | refine below_set ?_ GE120.out) | exact HB.out))) : w.heap.size ≤ gb122)); have n5_ := Aside0.mk ((by rw [hg]; exact (below_size (by repeat (first | (with_reducible first | exact HB.out | apply bA | apply bN | apply bD | refine below_set ?_ GE120.out) | exact HB.out))) : w.heap.size ≤ gb122)); have n6_ := Aside0.mk ((by rw [hg]; exact Nat.ne_of_lt (blk_lt (g := gb120) (o := .cells #[.int .i64 0, .int .i64 0, .string (⟨#[]⟩ : ByteArray), .bool false, .int .i64 0] 24 (0, 0)) (by (with_reducible repeat (first | refine blk_drewN ?_ _ | refine blk_drew ?_ | refine blk_alloc ?_ _)); exact BK120.out)) : gb120 ≠ gb122)); have n7_ := Aside0.mk ((by rw [hg]; exact Nat.ne_of_gt (blk_lt (g := gb120) (o := .cells #[.int .i64 0, .int .i64 0, .string (⟨#[]⟩ : ByteArray), .bool false, .int .i64 0] 24 (0, 0)) (by (with_reducible repeat (first | refine blk_drewN ?_ _ | refine blk_drew ?_ | refine blk_alloc ?_ _)); exact BK120.out)) : gb122 ≠ gb120)); clear HO_5; clear BK120; clear HB; have HO_5 := n0_; have BK120 := n1_; have HB := n2_; have BK122 := n3_; have GW122 := n4_; have GE122 := n5_; have NB120_122 := n6_; have NB122_120 := n7_; clear n0_ n1_ n2_ n3_ n4_ n5_ n6_ n7_; clear hb hbox hg; have hnb8 := NB122_120.out; have hnc8 := NB120_122.out; have hcz9_0 : w7.cell? ⟨gb122, 0, none⟩ = some (.bool false) := (blk_cell BK122.out 0).trans rfl; have hcz9_1 : w7.cell? ⟨gb122, 1, none⟩ = some (.slice none 0 0) := (blk_cell BK122.out 1).trans rfl; have hfz9_0 := blk_frozen BK122.out 0; have hfz9_1 := blk_frozen BK122.out 1))
      go_loopg [5, 6, 25] k1 (fun kq v5 v6 v25 w' => ∃ (x5_2 : List Int) (x6_2 : Int) (x25_2 : Int), v6 = .int .i64 x6_2 ∧ v25 = .int .i64 x25_2 ∧ Aside0 (builtin_all.l1 kq a0 x5_2 x6_2 l1 (l1.length : Int) x18_1 ((rd_T44 l1 x18_1).f1) (((rd_T44 l1 x18_1).f1).length : Int) x25_2 = some (r1, r2, r3, r4, r5)) ∧ Aside0 (kq ≤ k1) ∧ Aside0 (Kd.R (Kd.int .i64) 22 w' w.heap.size (fun _ => True) v5 x5_2) ∧ Aside0 (w'.heap[gb120]? = some (.cells #[.int .i64 0, .int .i64 0, .string (⟨#[]⟩ : ByteArray), .bool false, .int .i64 0] 24 (0, 0))) ∧ Aside0 (w'.heap[gb122]? = some (.cells #[.bool ((rd_T44 l1 x18_1).f0), (.slice A121_1 ((rd_T44 l1 x18_1).f1).length c121_1)] 44 (0, 0))) ∧ Aside0 (Below w.heap.size w w'))
      case atStart => exact ⟨(x5_1), (x6_1), (0), (by first | rfl | (simp; done) | (simp [*]; done)), (by first | rfl | (simp; done) | (simp [*]; done)), H', ⟨Nat.le_refl _⟩, ⟨by (with_reducible repeat (first | apply Kd.R_alloc | apply Kd.R_drewN | apply Kd.R_drew)); exact Kd.R_mono (Kd.R_far (p := ⟨gb122, 1, none⟩) (Kd.R_far (p := ⟨gb122, 0, none⟩) (Kd.R_types HO_5.out BK122.out (by decide)) (fun _ hk => hk.2) (.bool ((rd_T44 l1 x18_1).f0))) (fun _ hk => hk.2) (.slice A121_1 ((rd_T44 l1 x18_1).f1).length c121_1)) (fun _ hk => trivial)⟩, ⟨by (with_reducible repeat (first | refine blk_drewN ?_ _ | refine blk_drew ?_ | refine blk_alloc ?_ _)); refine blk_far ?_ NB120_122.out _; (with_reducible repeat (first | refine blk_drewN ?_ _ | refine blk_drew ?_ | refine blk_alloc ?_ _)); refine blk_far ?_ NB120_122.out _; (with_reducible repeat (first | refine blk_drewN ?_ _ | refine blk_drew ?_ | refine blk_alloc ?_ _)); exact BK120.out⟩, ⟨by (with_reducible repeat (first | refine blk_drewN ?_ _ | refine blk_drew ?_ | refine blk_alloc ?_ _)); refine blk_put (cs := #[.bool ((rd_T44 l1 x18_1).f0), .slice none 0 0]) ?_ 1 _ rfl; (with_reducible repeat (first | refine blk_drewN ?_ _ | refine blk_drew ?_ | refine blk_alloc ?_ _)); refine blk_put (cs := #[.bool false, .slice none 0 0]) ?_ 0 _ rfl; (with_reducible repeat (first | refine blk_drewN ?_ _ | refine blk_drew ?_ | refine blk_alloc ?_ _)); exact BK122.out⟩, ⟨by repeat (first | (with_reducible first | exact HB.out | apply bA | apply bN | apply bD | refine below_set ?_ GE120.out | refine below_set ?_ GE122.out) | exact HB.out)⟩⟩
      case round =>
       clear H'
       try clear c1
       try clear p1
       try clear q1
       try clear hx1
       try clear p2
       try clear c4
       try clear c4b0
       try clear c5
       try clear c5b0
       try clear c6
       try clear c6b0
       try clear c8
       try clear hcz9_0
       try clear hcz9_1
       try clear hfz9_0
       try clear hfz9_1
       try clear hx121_0
       try clear hx121_1
       try clear p121
       try clear p2
       try clear q121
       obtain ⟨x5_2, x6_2, x25_2, rfl, rfl, HA, HK2, HO_5, BK120, BK122, HB⟩ := hrel
       cases gk with
       | zero => exact absurd HA.out (by simp [builtin_all.l1])
       | succ k2 =>
        have H := HA.out
        clear HA
        simp only [builtin_all.l1] at H
        by_cases c10 : x25_2 < (((rd_T44 l1 x18_1).f1).length : Int)
        ·rw [if_pos c10] at H
         have c10b0 : decide (x25_2 < (((rd_T44 l1 x18_1).f1).length : Int)) = true := decide_eq_true c10
         clear c10
         by_cases c11 : 0 ≤ x25_2
         ·rw [if_pos c11] at H
          have c11b0 : decide (0 ≤ x25_2) = true := decide_eq_true c11
          clear c11
          by_cases c12 : x25_2 < (((rd_T44 l1 x18_1).f1).length : Int)
          ·rw [if_pos c12] at H
           have c12b0 : decide (x25_2 < (((rd_T44 l1 x18_1).f1).length : Int)) = true := decide_eq_true c12
           clear c12
           obtain ⟨y125, hy125⟩ : ∃ y_ : List (S24), y_ = (([(⟨(rd_T24 ((rd_T44 l1 x18_1).f1) x25_2).f0, (rd_T24 ((rd_T44 l1 x18_1).f1) x25_2).f1, (rd_T24 ((rd_T44 l1 x18_1).f1) x25_2).f2, (rd_T24 ((rd_T44 l1 x18_1).f1) x25_2).f3, (rd_T24 ((rd_T44 l1 x18_1).f1) x25_2).f4⟩ : S24)] : List (S24))) := ⟨_, rfl⟩
           replace H : ((value_Worst.f k2 y125).bind fun t128 => (if t128 > 0 then (if x6_2 = 0 then (builtin_all.j2 k2 a0 x5_2 x6_2 t128 l1 (l1.length : Int) x18_1 ((rd_T44 l1 x18_1).f1) (((rd_T44 l1 x18_1).f1).length : Int) x25_2 true ((rd_T24 ((rd_T44 l1 x18_1).f1) x25_2).f0) ((rd_T24 ((rd_T44 l1 x18_1).f1) x25_2).f1) ((rd_T24 ((rd_T44 l1 x18_1).f1) x25_2).f2) ((rd_T24 ((rd_T44 l1 x18_1).f1) x25_2).f3) ((rd_T24 ((rd_T44 l1 x18_1).f1) x25_2).f4)) else (builtin_all.j2 k2 a0 x5_2 x6_2 t128 l1 (l1.length : Int) x18_1 ((rd_T44 l1 x18_1).f1) (((rd_T44 l1 x18_1).f1).length : Int) x25_2 (decide (t128 < x6_2)) ((rd_T24 ((rd_T44 l1 x18_1).f1) x25_2).f0) ((rd_T24 ((rd_T44 l1 x18_1).f1) x25_2).f1) ((rd_T24 ((rd_T44 l1 x18_1).f1) x25_2).f2) ((rd_T24 ((rd_T44 l1 x18_1).f1) x25_2).f3) ((rd_T24 ((rd_T44 l1 x18_1).f1) x25_2).f4))) else (builtin_all.j2 k2 a0 x5_2 x6_2 t128 l1 (l1.length : Int) x18_1 ((rd_T44 l1 x18_1).f1) (((rd_T44 l1 x18_1).f1).length : Int) x25_2 false ((rd_T24 ((rd_T44 l1 x18_1).f1) x25_2).f0) ((rd_T24 ((rd_T44 l1 x18_1).f1) x25_2).f1) ((rd_T24 ((rd_T44 l1 x18_1).f1) x25_2).f2) ((rd_T24 ((rd_T44 l1 x18_1).f1) x25_2).f3) ((rd_T24 ((rd_T44 l1 x18_1).f1) x25_2).f4)))) = some (r1, r2, r3, r4, r5) := by first | (rw [hy125]; with_reducible exact H) | (have H2_ := (Option.bind_some _ _).symm.trans H; rw [hy125]; with_reducible exact H2_) | (have H2_ := (Option.bind_some _ _).symm.trans H; with_reducible exact H2_) | with_reducible exact H | (rw [hy125]; exact H) | exact H
           have Ny125 := Aside0.mk hy125
           clear hy125
           replace H := Option.bind_eq_some_iff.mp H
           obtain ⟨t128, A130, H⟩ := H
           replace H : (if t128 > 0 then (if x6_2 = 0 then (builtin_all.j2 k2 a0 x5_2 x6_2 t128 l1 (l1.length : Int) x18_1 ((rd_T44 l1 x18_1).f1) (((rd_T44 l1 x18_1).f1).length : Int) x25_2 true ((rd_T24 ((rd_T44 l1 x18_1).f1) x25_2).f0) ((rd_T24 ((rd_T44 l1 x18_1).f1) x25_2).f1) ((rd_T24 ((rd_T44 l1 x18_1).f1) x25_2).f2) ((rd_T24 ((rd_T44 l1 x18_1).f1) x25_2).f3) ((rd_T24 ((rd_T44 l1 x18_1).f1) x25_2).f4)) else (builtin_all.j2 k2 a0 x5_2 x6_2 t128 l1 (l1.length : Int) x18_1 ((rd_T44 l1 x18_1).f1) (((rd_T44 l1 x18_1).f1).length : Int) x25_2 (decide (t128 < x6_2)) ((rd_T24 ((rd_T44 l1 x18_1).f1) x25_2).f0) ((rd_T24 ((rd_T44 l1 x18_1).f1) x25_2).f1) ((rd_T24 ((rd_T44 l1 x18_1).f1) x25_2).f2) ((rd_T24 ((rd_T44 l1 x18_1).f1) x25_2).f3) ((rd_T24 ((rd_T44 l1 x18_1).f1) x25_2).f4))) else (builtin_all.j2 k2 a0 x5_2 x6_2 t128 l1 (l1.length : Int) x18_1 ((rd_T44 l1 x18_1).f1) (((rd_T44 l1 x18_1).f1).length : Int) x25_2 false ((rd_T24 ((rd_T44 l1 x18_1).f1) x25_2).f0) ((rd_T24 ((rd_T44 l1 x18_1).f1) x25_2).f1) ((rd_T24 ((rd_T44 l1 x18_1).f1) x25_2).f2) ((rd_T24 ((rd_T44 l1 x18_1).f1) x25_2).f3) ((rd_T24 ((rd_T44 l1 x18_1).f1) x25_2).f4))) = some (r1, r2, r3, r4, r5) := H
           have A13 := Aside0.mk A130
           clear A130
           have HC14 := Aside0.mk H
           clear H
           have p123 : 0 ≤ (x25_2 : Int) := of_decide_eq_true (by first | (with_reducible assumption) | assumption)
           have q123 : x25_2 < (((rd_T44 l1 x18_1).f1).length : Int) := of_decide_eq_true (by first | (with_reducible assumption) | assumption)
           obtain ⟨ad123, e123, hx123_0, hx123_1, hx123_2, hx123_3, hx123_4⟩ := at_T24 HR121_1.out x25_2 p123 q123
           cases e123
           replace hx123_0 := (HB.out.cell (World.block_lt_of_cell? w _ hx123_0)).trans hx123_0
           replace hx123_1 := (HB.out.cell (World.block_lt_of_cell? w _ hx123_1)).trans hx123_1
           replace hx123_2 := (HB.out.cell (World.block_lt_of_cell? w _ hx123_2)).trans hx123_2
           replace hx123_3 := (HB.out.cell (World.block_lt_of_cell? w _ hx123_3)).trans hx123_3
           replace hx123_4 := (HB.out.cell (World.block_lt_of_cell? w _ hx123_4)).trans hx123_4
           replace p123 := eq_true p123
           replace q123 := eq_true q123
           try (have q123z := q123; simp only [ByteArray.size_extract, Nat.min_self] at q123z)
           go_upto_region 10 with (first | ((with_reducible refine gate_dst (N := 10) rfl ?_); (try (refine gate_guard (by rfl) ?_; dsimp only)); refine box_event ?hg (N := 10) ?hd (cs := #[.int .i64 0, .int .i64 0, .string (⟨#[]⟩ : ByteArray), .bool false, .int .i64 0]) (t := 24) ?hr ?_; (case hd => rfl); (case hg => rfl); (case hr => first | (go_simp; done) | (go_simp; rfl)); intro gb124 hg w15 hbox hb; have n0_ := Aside0.mk (Kd.R_below (by (with_reducible repeat (first | apply Kd.R_alloc | apply Kd.R_drewN | apply Kd.R_drew)); exact HO_5.out) hb); have n1_ := Aside0.mk (blk_below (g := gb120) (o := .cells #[.int .i64 0, .int .i64 0, .string (⟨#[]⟩ : ByteArray), .bool false, .int .i64 0] 24 (0, 0)) (by (with_reducible repeat (first | refine blk_drewN ?_ _ | refine blk_drew ?_ | refine blk_alloc ?_ _)); exact BK120.out) hb); have n2_ := Aside0.mk (blk_below (g := gb122) (o := .cells #[.bool ((rd_T44 l1 x18_1).f0), .slice (some ad123) ((rd_T44 l1 x18_1).f1).length c121_1] 44 (0, 0)) (by (with_reducible repeat (first | refine blk_drewN ?_ _ | refine blk_drew ?_ | refine blk_alloc ?_ _)); exact BK122.out) hb); have n3_ := Aside0.mk (below_step (by repeat (first | (with_reducible first | exact HB.out | apply bA | apply bN | apply bD | refine below_set ?_ GE120.out | refine below_set ?_ GE122.out) | exact HB.out)) hb); have n4_ := Aside0.mk (hbox); have n5_ := Aside0.mk ((by rw [hg]; exact (below_size (by repeat (first | (with_reducible first | exact HB.out | apply bA | apply bN | apply bD | refine below_set ?_ GE120.out | refine below_set ?_ GE122.out) | exact HB.out))) : w.heap.size ≤ gb124)); have n6_ := Aside0.mk ((by rw [hg]; exact (below_size (by repeat (first | (with_reducible first | exact HB.out | apply bA | apply bN | apply bD | refine below_set ?_ GE120.out | refine below_set ?_ GE122.out) | exact HB.out))) : w.heap.size ≤ gb124)); have n7_ := Aside0.mk ((by rw [hg]; exact Nat.ne_of_lt (blk_lt (g := gb120) (o := .cells #[.int .i64 0, .int .i64 0, .string (⟨#[]⟩ : ByteArray), .bool false, .int .i64 0] 24 (0, 0)) (by (with_reducible repeat (first | refine blk_drewN ?_ _ | refine blk_drew ?_ | refine blk_alloc ?_ _)); exact BK120.out)) : gb120 ≠ gb124)); have n8_ := Aside0.mk ((by rw [hg]; exact Nat.ne_of_gt (blk_lt (g := gb120) (o := .cells #[.int .i64 0, .int .i64 0, .string (⟨#[]⟩ : ByteArray), .bool false, .int .i64 0] 24 (0, 0)) (by (with_reducible repeat (first | refine blk_drewN ?_ _ | refine blk_drew ?_ | refine blk_alloc ?_ _)); exact BK120.out)) : gb124 ≠ gb120)); have n9_ := Aside0.mk ((by rw [hg]; exact Nat.ne_of_lt (blk_lt (g := gb122) (o := .cells #[.bool ((rd_T44 l1 x18_1).f0), .slice (some ad123) ((rd_T44 l1 x18_1).f1).length c121_1] 44 (0, 0)) (by (with_reducible repeat (first | refine blk_drewN ?_ _ | refine blk_drew ?_ | refine blk_alloc ?_ _)); exact BK122.out)) : gb122 ≠ gb124)); have n10_ := Aside0.mk ((by rw [hg]; exact Nat.ne_of_gt (blk_lt (g := gb122) (o := .cells #[.bool ((rd_T44 l1 x18_1).f0), .slice (some ad123) ((rd_T44 l1 x18_1).f1).length c121_1] 44 (0, 0)) (by (with_reducible repeat (first | refine blk_drewN ?_ _ | refine blk_drew ?_ | refine blk_alloc ?_ _)); exact BK122.out)) : gb124 ≠ gb122)); clear HO_5; clear BK120; clear BK122; clear HB; have HO_5 := n0_; have BK120 := n1_; have BK122 := n2_; have HB := n3_; have BK124 := n4_; have GW124 := n5_; have GE124 := n6_; have NB120_124 := n7_; have NB124_120 := n8_; have NB122_124 := n9_; have NB124_122 := n10_; clear n0_ n1_ n2_ n3_ n4_ n5_ n6_ n7_ n8_ n9_ n10_; clear hb hbox hg; have hnb16 := NB124_120.out; have hnc16 := NB120_124.out; have hnb17 := NB124_122.out; have hnc17 := NB122_124.out; obtain ⟨hcz18_0, hcz18_1, hcz18_2, hcz18_3, hcz18_4, hfz18_0, hfz18_1, hfz18_2, hfz18_3, hfz18_4⟩ := five BK124.out) | ((with_reducible refine gate_dst (N := 30) rfl ?_); (try (refine gate_guard (by rfl) ?_; dsimp only)); refine Kd.R_lit k24 _ 24 ?hg (N := 30) ?hd (xs := ([(⟨(rd_T24 ((rd_T44 l1 x18_1).f1) x25_2).f0, (rd_T24 ((rd_T44 l1 x18_1).f1) x25_2).f1, (rd_T24 ((rd_T44 l1 x18_1).f1) x25_2).f2, (rd_T24 ((rd_T44 l1 x18_1).f1) x25_2).f3, (rd_T24 ((rd_T44 l1 x18_1).f1) x25_2).f4⟩ : S24)] : List (S24))) (inner := [.int .i64 ((rd_T24 ((rd_T44 l1 x18_1).f1) x25_2).f0), .int .i64 ((rd_T24 ((rd_T44 l1 x18_1).f1) x25_2).f1), .string ((rd_T24 ((rd_T44 l1 x18_1).f1) x25_2).f2), .bool ((rd_T24 ((rd_T44 l1 x18_1).f1) x25_2).f3), .int .i64 ((rd_T24 ((rd_T44 l1 x18_1).f1) x25_2).f4)]) (ok := fun _ => True) (okp := fun _ => True) ?hr ?hp (fun _ hk => hk) trivial (Below.refl _ _) (Nat.le_refl _) (by simp) ?_; (case hd => rfl); (case hg => rfl); (case hr => first | (go_simp; done) | (go_simp; rfl)); (case hp => exact (Reps.c5 (show Kd.M k24 _ _ _ (⟨(rd_T24 ((rd_T44 l1 x18_1).f1) x25_2).f0, (rd_T24 ((rd_T44 l1 x18_1).f1) x25_2).f1, (rd_T24 ((rd_T44 l1 x18_1).f1) x25_2).f2, (rd_T24 ((rd_T44 l1 x18_1).f1) x25_2).f3, (rd_T24 ((rd_T44 l1 x18_1).f1) x25_2).f4⟩ : S24) [.int .i64 ((rd_T24 ((rd_T44 l1 x18_1).f1) x25_2).f0), .int .i64 ((rd_T24 ((rd_T44 l1 x18_1).f1) x25_2).f1), .string ((rd_T24 ((rd_T44 l1 x18_1).f1) x25_2).f2), .bool ((rd_T24 ((rd_T44 l1 x18_1).f1) x25_2).f3), .int .i64 ((rd_T24 ((rd_T44 l1 x18_1).f1) x25_2).f4)] from (k24_mkM _ _ _ (⟨(rd_T24 ((rd_T44 l1 x18_1).f1) x25_2).f0, (rd_T24 ((rd_T44 l1 x18_1).f1) x25_2).f1, (rd_T24 ((rd_T44 l1 x18_1).f1) x25_2).f2, (rd_T24 ((rd_T44 l1 x18_1).f1) x25_2).f3, (rd_T24 ((rd_T44 l1 x18_1).f1) x25_2).f4⟩ : S24) )) (Reps.none _ _))); intro v126 w19 ho20 hb hg_ hnew_; clear hg_ hnew_; (first | rw [← Ny125.out] at ho20 | (simp only [Int.reduceToNat] at ho20; rw [← Ny125.out] at ho20)); have n0_ := Aside0.mk (Kd.R_below (by (with_reducible repeat (first | apply Kd.R_alloc | apply Kd.R_drewN | apply Kd.R_drew)); exact (Kd.R_mono (Kd.R_far (p := ⟨gb124, 4, none⟩) (Kd.R_far (p := ⟨gb124, 3, none⟩) (Kd.R_far (p := ⟨gb124, 2, none⟩) (Kd.R_far (p := ⟨gb124, 1, none⟩) (Kd.R_far (p := ⟨gb124, 0, none⟩) (Kd.R_types HO_5.out BK124.out (by decide)) (fun _ hk => hk.2) (.int .i64 ((rd_T24 ((rd_T44 l1 x18_1).f1) x25_2).f0))) (fun _ hk => hk.2) (.int .i64 ((rd_T24 ((rd_T44 l1 x18_1).f1) x25_2).f1))) (fun _ hk => hk.2) (.string ((rd_T24 ((rd_T44 l1 x18_1).f1) x25_2).f2))) (fun _ hk => hk.2) (.bool ((rd_T24 ((rd_T44 l1 x18_1).f1) x25_2).f3))) (fun _ hk => hk.2) (.int .i64 ((rd_T24 ((rd_T44 l1 x18_1).f1) x25_2).f4))) (fun _ h_ => h_.1))) hb); have n1_ := Aside0.mk (Kd.R_lower (Kd.R_newB (Kd.R_newB ho20 (g := gb120) (o := .cells #[.int .i64 0, .int .i64 0, .string (⟨#[]⟩ : ByteArray), .bool false, .int .i64 0] 24 (0, 0)) (by (with_reducible repeat (first | refine blk_drewN ?_ _ | refine blk_drew ?_ | refine blk_alloc ?_ _)); refine blk_far ?_ NB120_124.out _; (with_reducible repeat (first | refine blk_drewN ?_ _ | refine blk_drew ?_ | refine blk_alloc ?_ _)); refine blk_far ?_ NB120_124.out _; (with_reducible repeat (first | refine blk_drewN ?_ _ | refine blk_drew ?_ | refine blk_alloc ?_ _)); refine blk_far ?_ NB120_124.out _; (with_reducible repeat (first | refine blk_drewN ?_ _ | refine blk_drew ?_ | refine blk_alloc ?_ _)); refine blk_far ?_ NB120_124.out _; (with_reducible repeat (first | refine blk_drewN ?_ _ | refine blk_drew ?_ | refine blk_alloc ?_ _)); refine blk_far ?_ NB120_124.out _; (with_reducible repeat (first | refine blk_drewN ?_ _ | refine blk_drew ?_ | refine blk_alloc ?_ _)); exact BK120.out)) (g := gb124) (o := .cells #[.int .i64 ((rd_T24 ((rd_T44 l1 x18_1).f1) x25_2).f0), .int .i64 ((rd_T24 ((rd_T44 l1 x18_1).f1) x25_2).f1), .string ((rd_T24 ((rd_T44 l1 x18_1).f1) x25_2).f2), .bool ((rd_T24 ((rd_T44 l1 x18_1).f1) x25_2).f3), .int .i64 ((rd_T24 ((rd_T44 l1 x18_1).f1) x25_2).f4)] 24 (0, 0)) (by (with_reducible repeat (first | refine blk_drewN ?_ _ | refine blk_drew ?_ | refine blk_alloc ?_ _)); refine blk_put (cs := #[.int .i64 ((rd_T24 ((rd_T44 l1 x18_1).f1) x25_2).f0), .int .i64 ((rd_T24 ((rd_T44 l1 x18_1).f1) x25_2).f1), .string ((rd_T24 ((rd_T44 l1 x18_1).f1) x25_2).f2), .bool ((rd_T24 ((rd_T44 l1 x18_1).f1) x25_2).f3), .int .i64 0]) ?_ 4 _ rfl; (with_reducible repeat (first | refine blk_drewN ?_ _ | refine blk_drew ?_ | refine blk_alloc ?_ _)); refine blk_put (cs := #[.int .i64 ((rd_T24 ((rd_T44 l1 x18_1).f1) x25_2).f0), .int .i64 ((rd_T24 ((rd_T44 l1 x18_1).f1) x25_2).f1), .string ((rd_T24 ((rd_T44 l1 x18_1).f1) x25_2).f2), .bool false, .int .i64 0]) ?_ 3 _ rfl; (with_reducible repeat (first | refine blk_drewN ?_ _ | refine blk_drew ?_ | refine blk_alloc ?_ _)); refine blk_put (cs := #[.int .i64 ((rd_T24 ((rd_T44 l1 x18_1).f1) x25_2).f0), .int .i64 ((rd_T24 ((rd_T44 l1 x18_1).f1) x25_2).f1), .string (⟨#[]⟩ : ByteArray), .bool false, .int .i64 0]) ?_ 2 _ rfl; (with_reducible repeat (first | refine blk_drewN ?_ _ | refine blk_drew ?_ | refine blk_alloc ?_ _)); refine blk_put (cs := #[.int .i64 ((rd_T24 ((rd_T44 l1 x18_1).f1) x25_2).f0), .int .i64 0, .string (⟨#[]⟩ : ByteArray), .bool false, .int .i64 0]) ?_ 1 _ rfl; (with_reducible repeat (first | refine blk_drewN ?_ _ | refine blk_drew ?_ | refine blk_alloc ?_ _)); refine blk_put (cs := #[.int .i64 0, .int .i64 0, .string (⟨#[]⟩ : ByteArray), .bool false, .int .i64 0]) ?_ 0 _ rfl; (with_reducible repeat (first | refine blk_drewN ?_ _ | refine blk_drew ?_ | refine blk_alloc ?_ _)); exact BK124.out)) (below_size (by repeat (first | (with_reducible first | exact HB.out | apply bA | apply bN | apply bD | refine below_set ?_ GE120.out | refine below_set ?_ GE122.out | refine below_set ?_ GE124.out) | exact HB.out)))); have n2_ := Aside0.mk (blk_below (g := gb120) (o := .cells #[.int .i64 0, .int .i64 0, .string (⟨#[]⟩ : ByteArray), .bool false, .int .i64 0] 24 (0, 0)) (by (with_reducible repeat (first | refine blk_drewN ?_ _ | refine blk_drew ?_ | refine blk_alloc ?_ _)); refine blk_far ?_ NB120_124.out _; (with_reducible repeat (first | refine blk_drewN ?_ _ | refine blk_drew ?_ | refine blk_alloc ?_ _)); refine blk_far ?_ NB120_124.out _; (with_reducible repeat (first | refine blk_drewN ?_ _ | refine blk_drew ?_ | refine blk_alloc ?_ _)); refine blk_far ?_ NB120_124.out _; (with_reducible repeat (first | refine blk_drewN ?_ _ | refine blk_drew ?_ | refine blk_alloc ?_ _)); refine blk_far ?_ NB120_124.out _; (with_reducible repeat (first | refine blk_drewN ?_ _ | refine blk_drew ?_ | refine blk_alloc ?_ _)); refine blk_far ?_ NB120_124.out _; (with_reducible repeat (first | refine blk_drewN ?_ _ | refine blk_drew ?_ | refine blk_alloc ?_ _)); exact BK120.out) hb); have n3_ := Aside0.mk (blk_below (g := gb122) (o := .cells #[.bool ((rd_T44 l1 x18_1).f0), .slice (some ad123) ((rd_T44 l1 x18_1).f1).length c121_1] 44 (0, 0)) (by (with_reducible repeat (first | refine blk_drewN ?_ _ | refine blk_drew ?_ | refine blk_alloc ?_ _)); refine blk_far ?_ NB122_124.out _; (with_reducible repeat (first | refine blk_drewN ?_ _ | refine blk_drew ?_ | refine blk_alloc ?_ _)); refine blk_far ?_ NB122_124.out _; (with_reducible repeat (first | refine blk_drewN ?_ _ | refine blk_drew ?_ | refine blk_alloc ?_ _)); refine blk_far ?_ NB122_124.out _; (with_reducible repeat (first | refine blk_drewN ?_ _ | refine blk_drew ?_ | refine blk_alloc ?_ _)); refine blk_far ?_ NB122_124.out _; (with_reducible repeat (first | refine blk_drewN ?_ _ | refine blk_drew ?_ | refine blk_alloc ?_ _)); refine blk_far ?_ NB122_124.out _; (with_reducible repeat (first | refine blk_drewN ?_ _ | refine blk_drew ?_ | refine blk_alloc ?_ _)); exact BK122.out) hb); have n4_ := Aside0.mk (blk_below (g := gb124) (o := .cells #[.int .i64 ((rd_T24 ((rd_T44 l1 x18_1).f1) x25_2).f0), .int .i64 ((rd_T24 ((rd_T44 l1 x18_1).f1) x25_2).f1), .string ((rd_T24 ((rd_T44 l1 x18_1).f1) x25_2).f2), .bool ((rd_T24 ((rd_T44 l1 x18_1).f1) x25_2).f3), .int .i64 ((rd_T24 ((rd_T44 l1 x18_1).f1) x25_2).f4)] 24 (0, 0)) (by (with_reducible repeat (first | refine blk_drewN ?_ _ | refine blk_drew ?_ | refine blk_alloc ?_ _)); refine blk_put (cs := #[.int .i64 ((rd_T24 ((rd_T44 l1 x18_1).f1) x25_2).f0), .int .i64 ((rd_T24 ((rd_T44 l1 x18_1).f1) x25_2).f1), .string ((rd_T24 ((rd_T44 l1 x18_1).f1) x25_2).f2), .bool ((rd_T24 ((rd_T44 l1 x18_1).f1) x25_2).f3), .int .i64 0]) ?_ 4 _ rfl; (with_reducible repeat (first | refine blk_drewN ?_ _ | refine blk_drew ?_ | refine blk_alloc ?_ _)); refine blk_put (cs := #[.int .i64 ((rd_T24 ((rd_T44 l1 x18_1).f1) x25_2).f0), .int .i64 ((rd_T24 ((rd_T44 l1 x18_1).f1) x25_2).f1), .string ((rd_T24 ((rd_T44 l1 x18_1).f1) x25_2).f2), .bool false, .int .i64 0]) ?_ 3 _ rfl; (with_reducible repeat (first | refine blk_drewN ?_ _ | refine blk_drew ?_ | refine blk_alloc ?_ _)); refine blk_put (cs := #[.int .i64 ((rd_T24 ((rd_T44 l1 x18_1).f1) x25_2).f0), .int .i64 ((rd_T24 ((rd_T44 l1 x18_1).f1) x25_2).f1), .string (⟨#[]⟩ : ByteArray), .bool false, .int .i64 0]) ?_ 2 _ rfl; (with_reducible repeat (first | refine blk_drewN ?_ _ | refine blk_drew ?_ | refine blk_alloc ?_ _)); refine blk_put (cs := #[.int .i64 ((rd_T24 ((rd_T44 l1 x18_1).f1) x25_2).f0), .int .i64 0, .string (⟨#[]⟩ : ByteArray), .bool false, .int .i64 0]) ?_ 1 _ rfl; (with_reducible repeat (first | refine blk_drewN ?_ _ | refine blk_drew ?_ | refine blk_alloc ?_ _)); refine blk_put (cs := #[.int .i64 0, .int .i64 0, .string (⟨#[]⟩ : ByteArray), .bool false, .int .i64 0]) ?_ 0 _ rfl; (with_reducible repeat (first | refine blk_drewN ?_ _ | refine blk_drew ?_ | refine blk_alloc ?_ _)); exact BK124.out) hb); have n5_ := Aside0.mk (below_step (by repeat (first | (with_reducible first | exact HB.out | apply bA | apply bN | apply bD | refine below_set ?_ GE120.out | refine below_set ?_ GE122.out | refine below_set ?_ GE124.out) | exact HB.out)) hb); clear HO_5; clear BK120; clear BK122; clear BK124; clear HB; have HO_5 := n0_; have HO127 := n1_; have BK120 := n2_; have BK122 := n3_; have BK124 := n4_; have HB := n5_; clear n0_ n1_ n2_ n3_ n4_ n5_; clear hb ho20; obtain ⟨Ao21, co21, eo21⟩ := Kd.R_slice HO127.out; subst eo21) | ((with_reducible refine gate_callee (f := 35) rfl ?_); refine goesL_ (some 31) rfl rfl Tryz.func35 (by kernel_rfl) rfl #[.slice Ao21 y125.length co21] rfl (by (try simp only [List.map_toArray, List.map_cons, List.map_nil]); first | done | rfl) ?_; (with_reducible refine (value_Worst.calls (hL := ⟨by first | exact hL.out | (refine hL.out.drawn ?_; (repeat (first | exact Drawn0.refl _ | apply Drawn0.step)); done) | (refine hL.out.below ?_; (repeat (first | (with_reducible first | exact HB.out | apply bA | apply bN | apply bD | refine below_set ?_ GE120.out | refine below_set ?_ GE122.out | refine below_set ?_ GE124.out) | exact HB.out)); done)⟩) k2 _ _ y125 t128 _ ?side1 ?side2 A13.out).mono ?_); (case side1 => repeat (first | exact (Kd.R_reads' HO127.out).2.2 | (with_reducible refine Kd.C_alloc ?_ _) | (with_reducible refine Kd.C_drewN ?_ _) | (with_reducible refine Kd.C_drew ?_))); (case side2 => exact (Kd.R_reads' HO127.out).2.1); rintro e w22 ⟨rfl, hb⟩; refine ⟨_, rfl, ?_⟩; have n0_ := Aside0.mk (Kd.R_below (by (with_reducible repeat (first | apply Kd.R_alloc | apply Kd.R_drewN | apply Kd.R_drew)); exact HO_5.out) hb); have n1_ := Aside0.mk (Kd.R_below (by (with_reducible repeat (first | apply Kd.R_alloc | apply Kd.R_drewN | apply Kd.R_drew)); exact HO127.out) hb); have n2_ := Aside0.mk (blk_below (g := gb120) (o := .cells #[.int .i64 0, .int .i64 0, .string (⟨#[]⟩ : ByteArray), .bool false, .int .i64 0] 24 (0, 0)) (by (with_reducible repeat (first | refine blk_drewN ?_ _ | refine blk_drew ?_ | refine blk_alloc ?_ _)); exact BK120.out) hb); have n3_ := Aside0.mk (blk_below (g := gb122) (o := .cells #[.bool ((rd_T44 l1 x18_1).f0), .slice (some ad123) ((rd_T44 l1 x18_1).f1).length c121_1] 44 (0, 0)) (by (with_reducible repeat (first | refine blk_drewN ?_ _ | refine blk_drew ?_ | refine blk_alloc ?_ _)); exact BK122.out) hb); have n4_ := Aside0.mk (blk_below (g := gb124) (o := .cells #[.int .i64 ((rd_T24 ((rd_T44 l1 x18_1).f1) x25_2).f0), .int .i64 ((rd_T24 ((rd_T44 l1 x18_1).f1) x25_2).f1), .string ((rd_T24 ((rd_T44 l1 x18_1).f1) x25_2).f2), .bool ((rd_T24 ((rd_T44 l1 x18_1).f1) x25_2).f3), .int .i64 ((rd_T24 ((rd_T44 l1 x18_1).f1) x25_2).f4)] 24 (0, 0)) (by (with_reducible repeat (first | refine blk_drewN ?_ _ | refine blk_drew ?_ | refine blk_alloc ?_ _)); exact BK124.out) hb); have n5_ := Aside0.mk (below_step (by repeat (first | (with_reducible first | exact HB.out | apply bA | apply bN | apply bD | refine below_set ?_ GE120.out | refine below_set ?_ GE122.out | refine below_set ?_ GE124.out) | exact HB.out)) hb); clear HO_5; clear HO127; clear BK120; clear BK122; clear BK124; clear HB; have HO_5 := n0_; have HO127 := n1_; have BK120 := n2_; have BK122 := n3_; have BK124 := n4_; have HB := n5_; clear n0_ n1_ n2_ n3_ n4_ n5_; (try clear hb); (try clear hb2); (try clear hk); (try clear hi)))
           (try simp only [Act.put, List.setIfInBounds_toArray, List.set_cons_zero, List.set_cons_succ])
           go_cut [42] (fun v42 wc => ∃ (kq : Nat) (x42_13 : Bool), v42 = .bool x42_13 ∧ Aside0 (builtin_all.j2 kq a0 x5_2 x6_2 t128 l1 (l1.length : Int) x18_1 ((rd_T44 l1 x18_1).f1) (((rd_T44 l1 x18_1).f1).length : Int) x25_2 x42_13 ((rd_T24 ((rd_T44 l1 x18_1).f1) x25_2).f0) ((rd_T24 ((rd_T44 l1 x18_1).f1) x25_2).f1) ((rd_T24 ((rd_T44 l1 x18_1).f1) x25_2).f2) ((rd_T24 ((rd_T44 l1 x18_1).f1) x25_2).f3) ((rd_T24 ((rd_T44 l1 x18_1).f1) x25_2).f4) = some (r1, r2, r3, r4, r5)) ∧ Aside0 (kq ≤ k2) ∧ Aside0 (Kd.R (Kd.int .i64) 22 wc w.heap.size (fun _ => True) u5 x5_2) ∧ Aside0 (wc.heap[gb120]? = some (.cells #[.int .i64 0, .int .i64 0, .string (⟨#[]⟩ : ByteArray), .bool false, .int .i64 0] 24 (0, 0))) ∧ Aside0 (wc.heap[gb122]? = some (.cells #[.bool ((rd_T44 l1 x18_1).f0), (.slice (some ad123) ((rd_T44 l1 x18_1).f1).length c121_1)] 44 (0, 0))) ∧ Aside0 (wc.heap[gb124]? = some (.cells #[.int .i64 ((rd_T24 ((rd_T44 l1 x18_1).f1) x25_2).f0), .int .i64 ((rd_T24 ((rd_T44 l1 x18_1).f1) x25_2).f1), .string ((rd_T24 ((rd_T44 l1 x18_1).f1) x25_2).f2), .bool ((rd_T24 ((rd_T44 l1 x18_1).f1) x25_2).f3), .int .i64 ((rd_T24 ((rd_T44 l1 x18_1).f1) x25_2).f4)] 24 (0, 0))) ∧ Aside0 (Below w.heap.size w wc))
           case first =>
            have H := HC14.out
            clear HC14
            by_cases c23 : t128 > 0
            ·rw [if_pos c23] at H
             have c23b0 : decide (0 < t128) = true := decide_eq_true c23
             clear c23
             (first | rw [c23b0] | (simp only [i64_w, i32_w]; rw [c23b0]) | skip)
             by_cases c24 : x6_2 = 0
             ·rw [if_pos c24] at H
              have c24b0 : (x6_2 == 0) = true := beq_iff_eq.mpr c24
              have c24b1 : (x6_2 != 0) = false := bne_eq_false_iff_eq.mpr c24
              clear c24
              have H' := Aside0.mk H
              clear H
              go_wp2
              go_meet
              case rel => exact ⟨_, (true), (by first | rfl | (simp; done) | (simp [*]; done)), H', ⟨by have := HK1.out; have := HK2.out; first | omega | exact Nat.le_refl _⟩, ⟨by (with_reducible repeat (first | apply Kd.R_alloc | apply Kd.R_drewN | apply Kd.R_drew)); exact HO_5.out⟩, ⟨by (with_reducible repeat (first | refine blk_drewN ?_ _ | refine blk_drew ?_ | refine blk_alloc ?_ _)); exact BK120.out⟩, ⟨by (with_reducible repeat (first | refine blk_drewN ?_ _ | refine blk_drew ?_ | refine blk_alloc ?_ _)); exact BK122.out⟩, ⟨by (with_reducible repeat (first | refine blk_drewN ?_ _ | refine blk_drew ?_ | refine blk_alloc ?_ _)); exact BK124.out⟩, ⟨by repeat (first | (with_reducible first | exact HB.out | apply bA | apply bN | apply bD | refine below_set ?_ GE120.out | refine below_set ?_ GE122.out | refine below_set ?_ GE124.out) | exact HB.out)⟩⟩
             ·rw [if_neg c24] at H
              have c24b0 : (x6_2 == 0) = false := beq_eq_false_iff_ne.mpr c24
              have c24b1 : (x6_2 != 0) = true := bne_iff_ne.mpr c24
              have H' := Aside0.mk H
              clear H
              go_wp2
              go_meet
              case rel => exact ⟨_, (decide (t128 < x6_2)), (by first | rfl | (simp; done) | (simp [*]; done)), H', ⟨by have := HK1.out; have := HK2.out; first | omega | exact Nat.le_refl _⟩, ⟨by (with_reducible repeat (first | apply Kd.R_alloc | apply Kd.R_drewN | apply Kd.R_drew)); exact HO_5.out⟩, ⟨by (with_reducible repeat (first | refine blk_drewN ?_ _ | refine blk_drew ?_ | refine blk_alloc ?_ _)); exact BK120.out⟩, ⟨by (with_reducible repeat (first | refine blk_drewN ?_ _ | refine blk_drew ?_ | refine blk_alloc ?_ _)); exact BK122.out⟩, ⟨by (with_reducible repeat (first | refine blk_drewN ?_ _ | refine blk_drew ?_ | refine blk_alloc ?_ _)); exact BK124.out⟩, ⟨by repeat (first | (with_reducible first | exact HB.out | apply bA | apply bN | apply bD | refine below_set ?_ GE120.out | refine below_set ?_ GE122.out | refine below_set ?_ GE124.out) | exact HB.out)⟩⟩
            ·rw [if_neg c23] at H
             have c23b0 : decide (0 < t128) = false := decide_eq_false c23
             clear c23
             (first | rw [c23b0] | (simp only [i64_w, i32_w]; rw [c23b0]) | skip)
             have H' := Aside0.mk H
             clear H
             go_wp2
             go_meet
             case rel => exact ⟨_, (false), (by first | rfl | (simp; done) | (simp [*]; done)), H', ⟨by have := HK1.out; have := HK2.out; first | omega | exact Nat.le_refl _⟩, ⟨by (with_reducible repeat (first | apply Kd.R_alloc | apply Kd.R_drewN | apply Kd.R_drew)); exact HO_5.out⟩, ⟨by (with_reducible repeat (first | refine blk_drewN ?_ _ | refine blk_drew ?_ | refine blk_alloc ?_ _)); exact BK120.out⟩, ⟨by (with_reducible repeat (first | refine blk_drewN ?_ _ | refine blk_drew ?_ | refine blk_alloc ?_ _)); exact BK122.out⟩, ⟨by (with_reducible repeat (first | refine blk_drewN ?_ _ | refine blk_drew ?_ | refine blk_alloc ?_ _)); exact BK124.out⟩, ⟨by repeat (first | (with_reducible first | exact HB.out | apply bA | apply bN | apply bD | refine below_set ?_ GE120.out | refine below_set ?_ GE122.out | refine below_set ?_ GE124.out) | exact HB.out)⟩⟩
           case rest =>
            clear HC14
            try clear c1
            try clear p1
            try clear q1
            try clear hx1
            try clear c2
            try clear p2
            try clear c3
            try clear c4
            try clear c4b0
            try clear c5
            try clear c5b0
            try clear c6
            try clear c6b0
            try clear c8
            try clear c10
            try clear c10b0
            try clear c11
            try clear c11b0
            try clear c12
            try clear c12b0
            try clear p12
            try clear q12
            try clear hx12
            try clear c16
            try clear c17
            try clear c23
            try clear c23b0
            try clear c24
            try clear c24b0
            try clear c24b1
            try clear hcz18_0
            try clear hcz18_1
            try clear hcz18_2
            try clear hcz18_3
            try clear hcz18_4
            try clear hcz9_0
            try clear hcz9_1
            try clear hfz18_0
            try clear hfz18_1
            try clear hfz18_2
            try clear hfz18_3
            try clear hfz18_4
            try clear hfz9_0
            try clear hfz9_1
            try clear hx121_0
            try clear hx121_1
            try clear hx123_0
            try clear hx123_1
            try clear hx123_2
            try clear hx123_3
            try clear hx123_4
            try clear p1
            try clear p121
            try clear p123
            try clear p2
            try clear q1
            try clear q121
            try clear q123
            obtain ⟨kq, x42_13, rfl, HA, HJ13, HO_5, BK120, BK122, BK124, HB⟩ := hcut
            cases kq with
            | zero => exact absurd HA.out (by simp [builtin_all.j2])
            | succ kj13 =>
             have H := HA.out
             clear HA
             simp only [builtin_all.j2] at H
             by_cases c25 : x42_13 = true
             ·subst c25
              have H1 : (if ((rd_T24 ((rd_T44 l1 x18_1).f1) x25_2).f0) = 1 then ((value_May.f ((rd_T24 ((rd_T44 l1 x18_1).f1) x25_2).f0) ((rd_T24 ((rd_T44 l1 x18_1).f1) x25_2).f1) ((rd_T24 ((rd_T44 l1 x18_1).f1) x25_2).f2) ((rd_T24 ((rd_T44 l1 x18_1).f1) x25_2).f3) ((rd_T24 ((rd_T44 l1 x18_1).f1) x25_2).f4)).bind fun t129 => (if t129 = true then (if x5_2.length < 17592186044416 then (builtin_all.l1 kj13 a0 (x5_2 ++ [((rd_T24 ((rd_T44 l1 x18_1).f1) x25_2).f1)]) t128 l1 (l1.length : Int) x18_1 ((rd_T44 l1 x18_1).f1) (((rd_T44 l1 x18_1).f1).length : Int) (wrap64 (x25_2 + 1))) else (none)) else (builtin_all.l1 kj13 a0 x5_2 t128 l1 (l1.length : Int) x18_1 ((rd_T44 l1 x18_1).f1) (((rd_T44 l1 x18_1).f1).length : Int) (wrap64 (x25_2 + 1))))) else (builtin_all.l1 kj13 a0 x5_2 t128 l1 (l1.length : Int) x18_1 ((rd_T44 l1 x18_1).f1) (((rd_T44 l1 x18_1).f1).length : Int) (wrap64 (x25_2 + 1)))) = some (r1, r2, r3, r4, r5) := by rw [if_pos rfl] at H; exact H
              clear H
              have H := H1
              clear H1
              by_cases c26 : ((rd_T24 ((rd_T44 l1 x18_1).f1) x25_2).f0) = 1
              ·rw [if_pos c26] at H
               have c26b0 : (((rd_T24 ((rd_T44 l1 x18_1).f1) x25_2).f0) == 1) = true := beq_iff_eq.mpr c26
               have c26b1 : (((rd_T24 ((rd_T44 l1 x18_1).f1) x25_2).f0) != 1) = false := bne_eq_false_iff_eq.mpr c26
               clear c26
               replace H := Option.bind_eq_some_iff.mp H
               obtain ⟨t129, A270, H⟩ := H
               replace H : (if t129 = true then (if x5_2.length < 17592186044416 then (builtin_all.l1 kj13 a0 (x5_2 ++ [((rd_T24 ((rd_T44 l1 x18_1).f1) x25_2).f1)]) t128 l1 (l1.length : Int) x18_1 ((rd_T44 l1 x18_1).f1) (((rd_T44 l1 x18_1).f1).length : Int) (wrap64 (x25_2 + 1))) else (none)) else (builtin_all.l1 kj13 a0 x5_2 t128 l1 (l1.length : Int) x18_1 ((rd_T44 l1 x18_1).f1) (((rd_T44 l1 x18_1).f1).length : Int) (wrap64 (x25_2 + 1)))) = some (r1, r2, r3, r4, r5) := H
               have A27 := Aside0.mk A270
               clear A270
               by_cases c28 : t129 = true
               ·subst c28
                have H1 : (if x5_2.length < 17592186044416 then (builtin_all.l1 kj13 a0 (x5_2 ++ [((rd_T24 ((rd_T44 l1 x18_1).f1) x25_2).f1)]) t128 l1 (l1.length : Int) x18_1 ((rd_T44 l1 x18_1).f1) (((rd_T44 l1 x18_1).f1).length : Int) (wrap64 (x25_2 + 1))) else (none)) = some (r1, r2, r3, r4, r5) := by rw [if_pos rfl] at H; exact H
                clear H
                have H := H1
                clear H1
                by_cases c29 : x5_2.length < 17592186044416
                ·rw [if_pos c29] at H
                 have LMc29 := Aside0.mk c29
                 clear c29
                 obtain ⟨y130, hy130⟩ : ∃ y_ : List Int, y_ = (x5_2 ++ [((rd_T24 ((rd_T44 l1 x18_1).f1) x25_2).f1)]) := ⟨_, rfl⟩
                 replace H : (builtin_all.l1 kj13 a0 y130 t128 l1 (l1.length : Int) x18_1 ((rd_T44 l1 x18_1).f1) (((rd_T44 l1 x18_1).f1).length : Int) (wrap64 (x25_2 + 1))) = some (r1, r2, r3, r4, r5) := by first | (rw [hy130]; with_reducible exact H) | (have H2_ := (Option.bind_some _ _).symm.trans H; rw [hy130]; with_reducible exact H2_) | (have H2_ := (Option.bind_some _ _).symm.trans H; with_reducible exact H2_) | with_reducible exact H | (rw [hy130]; exact H) | exact H
                 have Ny130 := Aside0.mk hy130
                 clear hy130
                 have H' := Aside0.mk H
                 clear H
                 have hnb30 := NB124_120.out
                 have hnc30 := NB120_124.out
                 have hnb31 := NB124_122.out
                 have hnc31 := NB122_124.out
                 obtain ⟨hcz32_0, hcz32_1, hcz32_2, hcz32_3, hcz32_4, hfz32_0, hfz32_1, hfz32_2, hfz32_3, hfz32_4⟩ := five BK124.out
                 go_wp2_with (first | (go_at_call 23; (with_reducible refine (value_May.calls (hL := ⟨by first | exact hL.out | (refine hL.out.drawn ?_; (repeat (first | exact Drawn0.refl _ | apply Drawn0.step)); done) | (refine hL.out.below ?_; (repeat (first | (with_reducible first | exact HB.out | apply bA | apply bN | apply bD | refine below_set ?_ GE120.out | refine below_set ?_ GE122.out | refine below_set ?_ GE124.out) | exact HB.out)); done)⟩) ((rd_T24 ((rd_T44 l1 x18_1).f1) x25_2).f0) ((rd_T24 ((rd_T44 l1 x18_1).f1) x25_2).f1) ((rd_T24 ((rd_T44 l1 x18_1).f1) x25_2).f2) ((rd_T24 ((rd_T44 l1 x18_1).f1) x25_2).f3) ((rd_T24 ((rd_T44 l1 x18_1).f1) x25_2).f4) true _ A27.out).mono ?_); rintro e w33 ⟨rfl, hb⟩; have n0_ := Aside0.mk (Kd.R_below (by (with_reducible repeat (first | apply Kd.R_alloc | apply Kd.R_drewN | apply Kd.R_drew)); exact HO_5.out) hb); have n1_ := Aside0.mk (blk_below (g := gb120) (o := .cells #[.int .i64 0, .int .i64 0, .string (⟨#[]⟩ : ByteArray), .bool false, .int .i64 0] 24 (0, 0)) (by (with_reducible repeat (first | refine blk_drewN ?_ _ | refine blk_drew ?_ | refine blk_alloc ?_ _)); exact BK120.out) hb); have n2_ := Aside0.mk (blk_below (g := gb122) (o := .cells #[.bool ((rd_T44 l1 x18_1).f0), .slice (some ad123) ((rd_T44 l1 x18_1).f1).length c121_1] 44 (0, 0)) (by (with_reducible repeat (first | refine blk_drewN ?_ _ | refine blk_drew ?_ | refine blk_alloc ?_ _)); exact BK122.out) hb); have n3_ := Aside0.mk (blk_below (g := gb124) (o := .cells #[.int .i64 ((rd_T24 ((rd_T44 l1 x18_1).f1) x25_2).f0), .int .i64 ((rd_T24 ((rd_T44 l1 x18_1).f1) x25_2).f1), .string ((rd_T24 ((rd_T44 l1 x18_1).f1) x25_2).f2), .bool ((rd_T24 ((rd_T44 l1 x18_1).f1) x25_2).f3), .int .i64 ((rd_T24 ((rd_T44 l1 x18_1).f1) x25_2).f4)] 24 (0, 0)) (by (with_reducible repeat (first | refine blk_drewN ?_ _ | refine blk_drew ?_ | refine blk_alloc ?_ _)); exact BK124.out) hb); have n4_ := Aside0.mk (below_step (by repeat (first | (with_reducible first | exact HB.out | apply bA | apply bN | apply bD | refine below_set ?_ GE120.out | refine below_set ?_ GE122.out | refine below_set ?_ GE124.out) | exact HB.out)) hb); clear HO_5; clear BK120; clear BK122; clear BK124; clear HB; have HO_5 := n0_; have BK120 := n1_; have BK122 := n2_; have BK124 := n3_; have HB := n4_; clear n0_ n1_ n2_ n3_ n4_; (try clear hb); (try clear hb2); (try clear hk); (try clear hi); obtain ⟨hcz34_0, hcz34_1, hcz34_2, hcz34_3, hcz34_4, hfz34_0, hfz34_1, hfz34_2, hfz34_3, hfz34_4⟩ := five BK124.out) | ((with_reducible refine gate_builtin (b := .append) (xs := #[.tmp 51, .tmp 54]) rfl ?_); (try (refine gate_guard (by rfl) ?_; dsimp only)); at_builtin; refine Kd.R_append (Kd.int .i64) (w0 := w) w.heap.size rfl (.tmp 51) (.tmp 54) 108 22 (.int .i64 0) 8 rfl Tryz.underlying108 info22 rfl (by decide) (by omega) u5 x5_2 ((rd_T24 ((rd_T44 l1 x18_1).f1) x25_2).f1) [.int .i64 ((rd_T24 ((rd_T44 l1 x18_1).f1) x25_2).f1)] (fun _ => True) (fun _ => False) rfl rfl ?aP (fun _ hk => hk.elim) ?aF ?aO ?aB ?aS ?aL ?_; (case aP => exact rfl); (case aB => exact (by repeat (first | (with_reducible first | exact HB.out | apply bA | apply bN | apply bD | refine below_set ?_ GE120.out | refine below_set ?_ GE122.out | refine below_set ?_ GE124.out) | exact HB.out))); (case aF => exact (fun _ _ => trivial)); (case aO => exact (by (with_reducible repeat (first | apply Kd.R_alloc | apply Kd.R_drewN | apply Kd.R_drew)); exact HO_5.out)); (case aS => exact (below_size (by repeat (first | (with_reducible first | exact HB.out | apply bA | apply bN | apply bD | refine below_set ?_ GE120.out | refine below_set ?_ GE122.out | refine below_set ?_ GE124.out) | exact HB.out)))); (case aL => have := LMc29.out; omega); intro v131 w35 ho hb hg hat; rw [← Ny130.out] at ho; have n0_ := Aside0.mk (blk_grown (g := gb120) (o := .cells #[.int .i64 0, .int .i64 0, .string (⟨#[]⟩ : ByteArray), .bool false, .int .i64 0] 24 (0, 0)) (by (with_reducible repeat (first | refine blk_drewN ?_ _ | refine blk_drew ?_ | refine blk_alloc ?_ _)); exact BK120.out) hg (Kd.R_ne HO_5.out BK120.out (by decide))); have n1_ := Aside0.mk (blk_grown (g := gb122) (o := .cells #[.bool ((rd_T44 l1 x18_1).f0), .slice (some ad123) ((rd_T44 l1 x18_1).f1).length c121_1] 44 (0, 0)) (by (with_reducible repeat (first | refine blk_drewN ?_ _ | refine blk_drew ?_ | refine blk_alloc ?_ _)); exact BK122.out) hg (Kd.R_ne HO_5.out BK122.out (by decide))); have n2_ := Aside0.mk (blk_grown (g := gb124) (o := .cells #[.int .i64 ((rd_T24 ((rd_T44 l1 x18_1).f1) x25_2).f0), .int .i64 ((rd_T24 ((rd_T44 l1 x18_1).f1) x25_2).f1), .string ((rd_T24 ((rd_T44 l1 x18_1).f1) x25_2).f2), .bool ((rd_T24 ((rd_T44 l1 x18_1).f1) x25_2).f3), .int .i64 ((rd_T24 ((rd_T44 l1 x18_1).f1) x25_2).f4)] 24 (0, 0)) (by (with_reducible repeat (first | refine blk_drewN ?_ _ | refine blk_drew ?_ | refine blk_alloc ?_ _)); exact BK124.out) hg (Kd.R_ne HO_5.out BK124.out (by decide))); have n3_ := Aside0.mk (hb); have n4_ := Aside0.mk (ho); clear BK120; clear BK122; clear BK124; clear HB; clear HO_5; have BK120 := n0_; have BK122 := n1_; have BK124 := n2_; have HB := n3_; have HO132 := n4_; clear n0_ n1_ n2_ n3_ n4_; clear ho hb hg hat))
                 go_roundg kj13
                 case measure => have := HK1.out; have := HK2.out; have := HJ13.out; omega
                 case rel => exact ⟨(y130), (t128), (wrap64 (x25_2 + 1)), (by first | rfl | (simp; done) | (simp [*]; done)), (by first | rfl | (simp; done) | (simp [*]; done)), H', ⟨by have := HK1.out; have := HK2.out; have := HJ13.out; omega⟩, ⟨by (with_reducible repeat (first | apply Kd.R_alloc | apply Kd.R_drewN | apply Kd.R_drew)); exact HO132.out⟩, ⟨by (with_reducible repeat (first | refine blk_drewN ?_ _ | refine blk_drew ?_ | refine blk_alloc ?_ _)); exact BK120.out⟩, ⟨by (with_reducible repeat (first | refine blk_drewN ?_ _ | refine blk_drew ?_ | refine blk_alloc ?_ _)); exact BK122.out⟩, ⟨by repeat (first | (with_reducible first | exact HB.out | apply bA | apply bN | apply bD | refine below_set ?_ GE120.out | refine below_set ?_ GE122.out | refine below_set ?_ GE124.out) | exact HB.out)⟩⟩
                ·rw [if_neg c29] at H
                 exact absurd H (by simp)
               ·replace c28 := Bool.eq_false_iff.mpr c28
                subst c28
                have H1 : (builtin_all.l1 kj13 a0 x5_2 t128 l1 (l1.length : Int) x18_1 ((rd_T44 l1 x18_1).f1) (((rd_T44 l1 x18_1).f1).length : Int) (wrap64 (x25_2 + 1))) = some (r1, r2, r3, r4, r5) := by rw [if_neg (show ¬ (false = true) by decide)] at H; exact H
                clear H
                have H := H1
                clear H1
                have H' := Aside0.mk H
                clear H
                have hnb36 := NB124_120.out
                have hnc36 := NB120_124.out
                have hnb37 := NB124_122.out
                have hnc37 := NB122_124.out
                obtain ⟨hcz38_0, hcz38_1, hcz38_2, hcz38_3, hcz38_4, hfz38_0, hfz38_1, hfz38_2, hfz38_3, hfz38_4⟩ := five BK124.out
                go_wp2_with (first | (go_at_call 23; (with_reducible refine (value_May.calls (hL := ⟨by first | exact hL.out | (refine hL.out.drawn ?_; (repeat (first | exact Drawn0.refl _ | apply Drawn0.step)); done) | (refine hL.out.below ?_; (repeat (first | (with_reducible first | exact HB.out | apply bA | apply bN | apply bD | refine below_set ?_ GE120.out | refine below_set ?_ GE122.out | refine below_set ?_ GE124.out) | exact HB.out)); done)⟩) ((rd_T24 ((rd_T44 l1 x18_1).f1) x25_2).f0) ((rd_T24 ((rd_T44 l1 x18_1).f1) x25_2).f1) ((rd_T24 ((rd_T44 l1 x18_1).f1) x25_2).f2) ((rd_T24 ((rd_T44 l1 x18_1).f1) x25_2).f3) ((rd_T24 ((rd_T44 l1 x18_1).f1) x25_2).f4) false _ A27.out).mono ?_); rintro e w39 ⟨rfl, hb⟩; have n0_ := Aside0.mk (Kd.R_below (by (with_reducible repeat (first | apply Kd.R_alloc | apply Kd.R_drewN | apply Kd.R_drew)); exact HO_5.out) hb); have n1_ := Aside0.mk (blk_below (g := gb120) (o := .cells #[.int .i64 0, .int .i64 0, .string (⟨#[]⟩ : ByteArray), .bool false, .int .i64 0] 24 (0, 0)) (by (with_reducible repeat (first | refine blk_drewN ?_ _ | refine blk_drew ?_ | refine blk_alloc ?_ _)); exact BK120.out) hb); have n2_ := Aside0.mk (blk_below (g := gb122) (o := .cells #[.bool ((rd_T44 l1 x18_1).f0), .slice (some ad123) ((rd_T44 l1 x18_1).f1).length c121_1] 44 (0, 0)) (by (with_reducible repeat (first | refine blk_drewN ?_ _ | refine blk_drew ?_ | refine blk_alloc ?_ _)); exact BK122.out) hb); have n3_ := Aside0.mk (blk_below (g := gb124) (o := .cells #[.int .i64 ((rd_T24 ((rd_T44 l1 x18_1).f1) x25_2).f0), .int .i64 ((rd_T24 ((rd_T44 l1 x18_1).f1) x25_2).f1), .string ((rd_T24 ((rd_T44 l1 x18_1).f1) x25_2).f2), .bool ((rd_T24 ((rd_T44 l1 x18_1).f1) x25_2).f3), .int .i64 ((rd_T24 ((rd_T44 l1 x18_1).f1) x25_2).f4)] 24 (0, 0)) (by (with_reducible repeat (first | refine blk_drewN ?_ _ | refine blk_drew ?_ | refine blk_alloc ?_ _)); exact BK124.out) hb); have n4_ := Aside0.mk (below_step (by repeat (first | (with_reducible first | exact HB.out | apply bA | apply bN | apply bD | refine below_set ?_ GE120.out | refine below_set ?_ GE122.out | refine below_set ?_ GE124.out) | exact HB.out)) hb); clear HO_5; clear BK120; clear BK122; clear BK124; clear HB; have HO_5 := n0_; have BK120 := n1_; have BK122 := n2_; have BK124 := n3_; have HB := n4_; clear n0_ n1_ n2_ n3_ n4_; (try clear hb); (try clear hb2); (try clear hk); (try clear hi)))
                go_roundg kj13
                case measure => have := HK1.out; have := HK2.out; have := HJ13.out; omega
                case rel => exact ⟨(x5_2), (t128), (wrap64 (x25_2 + 1)), (by first | rfl | (simp; done) | (simp [*]; done)), (by first | rfl | (simp; done) | (simp [*]; done)), H', ⟨by have := HK1.out; have := HK2.out; have := HJ13.out; omega⟩, ⟨by (with_reducible repeat (first | apply Kd.R_alloc | apply Kd.R_drewN | apply Kd.R_drew)); exact HO_5.out⟩, ⟨by (with_reducible repeat (first | refine blk_drewN ?_ _ | refine blk_drew ?_ | refine blk_alloc ?_ _)); exact BK120.out⟩, ⟨by (with_reducible repeat (first | refine blk_drewN ?_ _ | refine blk_drew ?_ | refine blk_alloc ?_ _)); exact BK122.out⟩, ⟨by repeat (first | (with_reducible first | exact HB.out | apply bA | apply bN | apply bD | refine below_set ?_ GE120.out | refine below_set ?_ GE122.out | refine below_set ?_ GE124.out) | exact HB.out)⟩⟩
              ·rw [if_neg c26] at H
               have c26b0 : (((rd_T24 ((rd_T44 l1 x18_1).f1) x25_2).f0) == 1) = false := beq_eq_false_iff_ne.mpr c26
               have c26b1 : (((rd_T24 ((rd_T44 l1 x18_1).f1) x25_2).f0) != 1) = true := bne_iff_ne.mpr c26
               have H' := Aside0.mk H
               clear H
               have hnb40 := NB124_120.out
               have hnc40 := NB120_124.out
               have hnb41 := NB124_122.out
               have hnc41 := NB122_124.out
               obtain ⟨hcz42_0, hcz42_1, hcz42_2, hcz42_3, hcz42_4, hfz42_0, hfz42_1, hfz42_2, hfz42_3, hfz42_4⟩ := five BK124.out
               go_wp2
               go_roundg kj13
               case measure => have := HK1.out; have := HK2.out; have := HJ13.out; omega
               case rel => exact ⟨(x5_2), (t128), (wrap64 (x25_2 + 1)), (by first | rfl | (simp; done) | (simp [*]; done)), (by first | rfl | (simp; done) | (simp [*]; done)), H', ⟨by have := HK1.out; have := HK2.out; have := HJ13.out; omega⟩, ⟨by (with_reducible repeat (first | apply Kd.R_alloc | apply Kd.R_drewN | apply Kd.R_drew)); exact HO_5.out⟩, ⟨by (with_reducible repeat (first | refine blk_drewN ?_ _ | refine blk_drew ?_ | refine blk_alloc ?_ _)); exact BK120.out⟩, ⟨by (with_reducible repeat (first | refine blk_drewN ?_ _ | refine blk_drew ?_ | refine blk_alloc ?_ _)); exact BK122.out⟩, ⟨by repeat (first | (with_reducible first | exact HB.out | apply bA | apply bN | apply bD | refine below_set ?_ GE120.out | refine below_set ?_ GE122.out | refine below_set ?_ GE124.out) | exact HB.out)⟩⟩
             ·replace c25 := Bool.eq_false_iff.mpr c25
              subst c25
              have H1 : (if ((rd_T24 ((rd_T44 l1 x18_1).f1) x25_2).f0) = 1 then ((value_May.f ((rd_T24 ((rd_T44 l1 x18_1).f1) x25_2).f0) ((rd_T24 ((rd_T44 l1 x18_1).f1) x25_2).f1) ((rd_T24 ((rd_T44 l1 x18_1).f1) x25_2).f2) ((rd_T24 ((rd_T44 l1 x18_1).f1) x25_2).f3) ((rd_T24 ((rd_T44 l1 x18_1).f1) x25_2).f4)).bind fun t133 => (if t133 = true then (if x5_2.length < 17592186044416 then (builtin_all.l1 kj13 a0 (x5_2 ++ [((rd_T24 ((rd_T44 l1 x18_1).f1) x25_2).f1)]) x6_2 l1 (l1.length : Int) x18_1 ((rd_T44 l1 x18_1).f1) (((rd_T44 l1 x18_1).f1).length : Int) (wrap64 (x25_2 + 1))) else (none)) else (builtin_all.l1 kj13 a0 x5_2 x6_2 l1 (l1.length : Int) x18_1 ((rd_T44 l1 x18_1).f1) (((rd_T44 l1 x18_1).f1).length : Int) (wrap64 (x25_2 + 1))))) else (builtin_all.l1 kj13 a0 x5_2 x6_2 l1 (l1.length : Int) x18_1 ((rd_T44 l1 x18_1).f1) (((rd_T44 l1 x18_1).f1).length : Int) (wrap64 (x25_2 + 1)))) = some (r1, r2, r3, r4, r5) := by rw [if_neg (show ¬ (false = true) by decide)] at H; exact H
              clear H
              have H := H1
              clear H1
              by_cases c43 : ((rd_T24 ((rd_T44 l1 x18_1).f1) x25_2).f0) = 1
              ·rw [if_pos c43] at H
               have c43b0 : (((rd_T24 ((rd_T44 l1 x18_1).f1) x25_2).f0) == 1) = true := beq_iff_eq.mpr c43
               have c43b1 : (((rd_T24 ((rd_T44 l1 x18_1).f1) x25_2).f0) != 1) = false := bne_eq_false_iff_eq.mpr c43
               clear c43
               replace H := Option.bind_eq_some_iff.mp H
               obtain ⟨t133, A440, H⟩ := H
               replace H : (if t133 = true then (if x5_2.length < 17592186044416 then (builtin_all.l1 kj13 a0 (x5_2 ++ [((rd_T24 ((rd_T44 l1 x18_1).f1) x25_2).f1)]) x6_2 l1 (l1.length : Int) x18_1 ((rd_T44 l1 x18_1).f1) (((rd_T44 l1 x18_1).f1).length : Int) (wrap64 (x25_2 + 1))) else (none)) else (builtin_all.l1 kj13 a0 x5_2 x6_2 l1 (l1.length : Int) x18_1 ((rd_T44 l1 x18_1).f1) (((rd_T44 l1 x18_1).f1).length : Int) (wrap64 (x25_2 + 1)))) = some (r1, r2, r3, r4, r5) := H
               have A44 := Aside0.mk A440
               clear A440
               by_cases c45 : t133 = true
               ·subst c45
                have H1 : (if x5_2.length < 17592186044416 then (builtin_all.l1 kj13 a0 (x5_2 ++ [((rd_T24 ((rd_T44 l1 x18_1).f1) x25_2).f1)]) x6_2 l1 (l1.length : Int) x18_1 ((rd_T44 l1 x18_1).f1) (((rd_T44 l1 x18_1).f1).length : Int) (wrap64 (x25_2 + 1))) else (none)) = some (r1, r2, r3, r4, r5) := by rw [if_pos rfl] at H; exact H
                clear H
                have H := H1
                clear H1
                by_cases c46 : x5_2.length < 17592186044416
                ·rw [if_pos c46] at H
                 have LMc46 := Aside0.mk c46
                 clear c46
                 obtain ⟨y134, hy134⟩ : ∃ y_ : List Int, y_ = (x5_2 ++ [((rd_T24 ((rd_T44 l1 x18_1).f1) x25_2).f1)]) := ⟨_, rfl⟩
                 replace H : (builtin_all.l1 kj13 a0 y134 x6_2 l1 (l1.length : Int) x18_1 ((rd_T44 l1 x18_1).f1) (((rd_T44 l1 x18_1).f1).length : Int) (wrap64 (x25_2 + 1))) = some (r1, r2, r3, r4, r5) := by first | (rw [hy134]; with_reducible exact H) | (have H2_ := (Option.bind_some _ _).symm.trans H; rw [hy134]; with_reducible exact H2_) | (have H2_ := (Option.bind_some _ _).symm.trans H; with_reducible exact H2_) | with_reducible exact H | (rw [hy134]; exact H) | exact H
                 have Ny134 := Aside0.mk hy134
                 clear hy134
                 have H' := Aside0.mk H
                 clear H
                 have hnb47 := NB124_120.out
                 have hnc47 := NB120_124.out
                 have hnb48 := NB124_122.out
                 have hnc48 := NB122_124.out
                 obtain ⟨hcz49_0, hcz49_1, hcz49_2, hcz49_3, hcz49_4, hfz49_0, hfz49_1, hfz49_2, hfz49_3, hfz49_4⟩ := five BK124.out
                 go_wp2_with (first | (go_at_call 23; (with_reducible refine (value_May.calls (hL := ⟨by first | exact hL.out | (refine hL.out.drawn ?_; (repeat (first | exact Drawn0.refl _ | apply Drawn0.step)); done) | (refine hL.out.below ?_; (repeat (first | (with_reducible first | exact HB.out | apply bA | apply bN | apply bD | refine below_set ?_ GE120.out | refine below_set ?_ GE122.out | refine below_set ?_ GE124.out) | exact HB.out)); done)⟩) ((rd_T24 ((rd_T44 l1 x18_1).f1) x25_2).f0) ((rd_T24 ((rd_T44 l1 x18_1).f1) x25_2).f1) ((rd_T24 ((rd_T44 l1 x18_1).f1) x25_2).f2) ((rd_T24 ((rd_T44 l1 x18_1).f1) x25_2).f3) ((rd_T24 ((rd_T44 l1 x18_1).f1) x25_2).f4) true _ A44.out).mono ?_); rintro e w50 ⟨rfl, hb⟩; have n0_ := Aside0.mk (Kd.R_below (by (with_reducible repeat (first | apply Kd.R_alloc | apply Kd.R_drewN | apply Kd.R_drew)); exact HO_5.out) hb); have n1_ := Aside0.mk (blk_below (g := gb120) (o := .cells #[.int .i64 0, .int .i64 0, .string (⟨#[]⟩ : ByteArray), .bool false, .int .i64 0] 24 (0, 0)) (by (with_reducible repeat (first | refine blk_drewN ?_ _ | refine blk_drew ?_ | refine blk_alloc ?_ _)); exact BK120.out) hb); have n2_ := Aside0.mk (blk_below (g := gb122) (o := .cells #[.bool ((rd_T44 l1 x18_1).f0), .slice (some ad123) ((rd_T44 l1 x18_1).f1).length c121_1] 44 (0, 0)) (by (with_reducible repeat (first | refine blk_drewN ?_ _ | refine blk_drew ?_ | refine blk_alloc ?_ _)); exact BK122.out) hb); have n3_ := Aside0.mk (blk_below (g := gb124) (o := .cells #[.int .i64 ((rd_T24 ((rd_T44 l1 x18_1).f1) x25_2).f0), .int .i64 ((rd_T24 ((rd_T44 l1 x18_1).f1) x25_2).f1), .string ((rd_T24 ((rd_T44 l1 x18_1).f1) x25_2).f2), .bool ((rd_T24 ((rd_T44 l1 x18_1).f1) x25_2).f3), .int .i64 ((rd_T24 ((rd_T44 l1 x18_1).f1) x25_2).f4)] 24 (0, 0)) (by (with_reducible repeat (first | refine blk_drewN ?_ _ | refine blk_drew ?_ | refine blk_alloc ?_ _)); exact BK124.out) hb); have n4_ := Aside0.mk (below_step (by repeat (first | (with_reducible first | exact HB.out | apply bA | apply bN | apply bD | refine below_set ?_ GE120.out | refine below_set ?_ GE122.out | refine below_set ?_ GE124.out) | exact HB.out)) hb); clear HO_5; clear BK120; clear BK122; clear BK124; clear HB; have HO_5 := n0_; have BK120 := n1_; have BK122 := n2_; have BK124 := n3_; have HB := n4_; clear n0_ n1_ n2_ n3_ n4_; (try clear hb); (try clear hb2); (try clear hk); (try clear hi); obtain ⟨hcz51_0, hcz51_1, hcz51_2, hcz51_3, hcz51_4, hfz51_0, hfz51_1, hfz51_2, hfz51_3, hfz51_4⟩ := five BK124.out) | ((with_reducible refine gate_builtin (b := .append) (xs := #[.tmp 51, .tmp 54]) rfl ?_); (try (refine gate_guard (by rfl) ?_; dsimp only)); at_builtin; refine Kd.R_append (Kd.int .i64) (w0 := w) w.heap.size rfl (.tmp 51) (.tmp 54) 108 22 (.int .i64 0) 8 rfl Tryz.underlying108 info22 rfl (by decide) (by omega) u5 x5_2 ((rd_T24 ((rd_T44 l1 x18_1).f1) x25_2).f1) [.int .i64 ((rd_T24 ((rd_T44 l1 x18_1).f1) x25_2).f1)] (fun _ => True) (fun _ => False) rfl rfl ?aP (fun _ hk => hk.elim) ?aF ?aO ?aB ?aS ?aL ?_; (case aP => exact rfl); (case aB => exact (by repeat (first | (with_reducible first | exact HB.out | apply bA | apply bN | apply bD | refine below_set ?_ GE120.out | refine below_set ?_ GE122.out | refine below_set ?_ GE124.out) | exact HB.out))); (case aF => exact (fun _ _ => trivial)); (case aO => exact (by (with_reducible repeat (first | apply Kd.R_alloc | apply Kd.R_drewN | apply Kd.R_drew)); exact HO_5.out)); (case aS => exact (below_size (by repeat (first | (with_reducible first | exact HB.out | apply bA | apply bN | apply bD | refine below_set ?_ GE120.out | refine below_set ?_ GE122.out | refine below_set ?_ GE124.out) | exact HB.out)))); (case aL => have := LMc46.out; omega); intro v135 w52 ho hb hg hat; rw [← Ny134.out] at ho; have n0_ := Aside0.mk (blk_grown (g := gb120) (o := .cells #[.int .i64 0, .int .i64 0, .string (⟨#[]⟩ : ByteArray), .bool false, .int .i64 0] 24 (0, 0)) (by (with_reducible repeat (first | refine blk_drewN ?_ _ | refine blk_drew ?_ | refine blk_alloc ?_ _)); exact BK120.out) hg (Kd.R_ne HO_5.out BK120.out (by decide))); have n1_ := Aside0.mk (blk_grown (g := gb122) (o := .cells #[.bool ((rd_T44 l1 x18_1).f0), .slice (some ad123) ((rd_T44 l1 x18_1).f1).length c121_1] 44 (0, 0)) (by (with_reducible repeat (first | refine blk_drewN ?_ _ | refine blk_drew ?_ | refine blk_alloc ?_ _)); exact BK122.out) hg (Kd.R_ne HO_5.out BK122.out (by decide))); have n2_ := Aside0.mk (blk_grown (g := gb124) (o := .cells #[.int .i64 ((rd_T24 ((rd_T44 l1 x18_1).f1) x25_2).f0), .int .i64 ((rd_T24 ((rd_T44 l1 x18_1).f1) x25_2).f1), .string ((rd_T24 ((rd_T44 l1 x18_1).f1) x25_2).f2), .bool ((rd_T24 ((rd_T44 l1 x18_1).f1) x25_2).f3), .int .i64 ((rd_T24 ((rd_T44 l1 x18_1).f1) x25_2).f4)] 24 (0, 0)) (by (with_reducible repeat (first | refine blk_drewN ?_ _ | refine blk_drew ?_ | refine blk_alloc ?_ _)); exact BK124.out) hg (Kd.R_ne HO_5.out BK124.out (by decide))); have n3_ := Aside0.mk (hb); have n4_ := Aside0.mk (ho); clear BK120; clear BK122; clear BK124; clear HB; clear HO_5; have BK120 := n0_; have BK122 := n1_; have BK124 := n2_; have HB := n3_; have HO136 := n4_; clear n0_ n1_ n2_ n3_ n4_; clear ho hb hg hat))
                 go_roundg kj13
                 case measure => have := HK1.out; have := HK2.out; have := HJ13.out; omega
                 case rel => exact ⟨(y134), (x6_2), (wrap64 (x25_2 + 1)), (by first | rfl | (simp; done) | (simp [*]; done)), (by first | rfl | (simp; done) | (simp [*]; done)), H', ⟨by have := HK1.out; have := HK2.out; have := HJ13.out; omega⟩, ⟨by (with_reducible repeat (first | apply Kd.R_alloc | apply Kd.R_drewN | apply Kd.R_drew)); exact HO136.out⟩, ⟨by (with_reducible repeat (first | refine blk_drewN ?_ _ | refine blk_drew ?_ | refine blk_alloc ?_ _)); exact BK120.out⟩, ⟨by (with_reducible repeat (first | refine blk_drewN ?_ _ | refine blk_drew ?_ | refine blk_alloc ?_ _)); exact BK122.out⟩, ⟨by repeat (first | (with_reducible first | exact HB.out | apply bA | apply bN | apply bD | refine below_set ?_ GE120.out | refine below_set ?_ GE122.out | refine below_set ?_ GE124.out) | exact HB.out)⟩⟩
                ·rw [if_neg c46] at H
                 exact absurd H (by simp)
               ·replace c45 := Bool.eq_false_iff.mpr c45
                subst c45
                have H1 : (builtin_all.l1 kj13 a0 x5_2 x6_2 l1 (l1.length : Int) x18_1 ((rd_T44 l1 x18_1).f1) (((rd_T44 l1 x18_1).f1).length : Int) (wrap64 (x25_2 + 1))) = some (r1, r2, r3, r4, r5) := by rw [if_neg (show ¬ (false = true) by decide)] at H; exact H
                clear H
                have H := H1
                clear H1
                have H' := Aside0.mk H
                clear H
                have hnb53 := NB124_120.out
                have hnc53 := NB120_124.out
                have hnb54 := NB124_122.out
                have hnc54 := NB122_124.out
                obtain ⟨hcz55_0, hcz55_1, hcz55_2, hcz55_3, hcz55_4, hfz55_0, hfz55_1, hfz55_2, hfz55_3, hfz55_4⟩ := five BK124.out
                go_wp2_with (first | (go_at_call 23; (with_reducible refine (value_May.calls (hL := ⟨by first | exact hL.out | (refine hL.out.drawn ?_; (repeat (first | exact Drawn0.refl _ | apply Drawn0.step)); done) | (refine hL.out.below ?_; (repeat (first | (with_reducible first | exact HB.out | apply bA | apply bN | apply bD | refine below_set ?_ GE120.out | refine below_set ?_ GE122.out | refine below_set ?_ GE124.out) | exact HB.out)); done)⟩) ((rd_T24 ((rd_T44 l1 x18_1).f1) x25_2).f0) ((rd_T24 ((rd_T44 l1 x18_1).f1) x25_2).f1) ((rd_T24 ((rd_T44 l1 x18_1).f1) x25_2).f2) ((rd_T24 ((rd_T44 l1 x18_1).f1) x25_2).f3) ((rd_T24 ((rd_T44 l1 x18_1).f1) x25_2).f4) false _ A44.out).mono ?_); rintro e w56 ⟨rfl, hb⟩; have n0_ := Aside0.mk (Kd.R_below (by (with_reducible repeat (first | apply Kd.R_alloc | apply Kd.R_drewN | apply Kd.R_drew)); exact HO_5.out) hb); have n1_ := Aside0.mk (blk_below (g := gb120) (o := .cells #[.int .i64 0, .int .i64 0, .string (⟨#[]⟩ : ByteArray), .bool false, .int .i64 0] 24 (0, 0)) (by (with_reducible repeat (first | refine blk_drewN ?_ _ | refine blk_drew ?_ | refine blk_alloc ?_ _)); exact BK120.out) hb); have n2_ := Aside0.mk (blk_below (g := gb122) (o := .cells #[.bool ((rd_T44 l1 x18_1).f0), .slice (some ad123) ((rd_T44 l1 x18_1).f1).length c121_1] 44 (0, 0)) (by (with_reducible repeat (first | refine blk_drewN ?_ _ | refine blk_drew ?_ | refine blk_alloc ?_ _)); exact BK122.out) hb); have n3_ := Aside0.mk (blk_below (g := gb124) (o := .cells #[.int .i64 ((rd_T24 ((rd_T44 l1 x18_1).f1) x25_2).f0), .int .i64 ((rd_T24 ((rd_T44 l1 x18_1).f1) x25_2).f1), .string ((rd_T24 ((rd_T44 l1 x18_1).f1) x25_2).f2), .bool ((rd_T24 ((rd_T44 l1 x18_1).f1) x25_2).f3), .int .i64 ((rd_T24 ((rd_T44 l1 x18_1).f1) x25_2).f4)] 24 (0, 0)) (by (with_reducible repeat (first | refine blk_drewN ?_ _ | refine blk_drew ?_ | refine blk_alloc ?_ _)); exact BK124.out) hb); have n4_ := Aside0.mk (below_step (by repeat (first | (with_reducible first | exact HB.out | apply bA | apply bN | apply bD | refine below_set ?_ GE120.out | refine below_set ?_ GE122.out | refine below_set ?_ GE124.out) | exact HB.out)) hb); clear HO_5; clear BK120; clear BK122; clear BK124; clear HB; have HO_5 := n0_; have BK120 := n1_; have BK122 := n2_; have BK124 := n3_; have HB := n4_; clear n0_ n1_ n2_ n3_ n4_; (try clear hb); (try clear hb2); (try clear hk); (try clear hi)))
                go_roundg kj13
                case measure => have := HK1.out; have := HK2.out; have := HJ13.out; omega
                case rel => exact ⟨(x5_2), (x6_2), (wrap64 (x25_2 + 1)), (by first | rfl | (simp; done) | (simp [*]; done)), (by first | rfl | (simp; done) | (simp [*]; done)), H', ⟨by have := HK1.out; have := HK2.out; have := HJ13.out; omega⟩, ⟨by (with_reducible repeat (first | apply Kd.R_alloc | apply Kd.R_drewN | apply Kd.R_drew)); exact HO_5.out⟩, ⟨by (with_reducible repeat (first | refine blk_drewN ?_ _ | refine blk_drew ?_ | refine blk_alloc ?_ _)); exact BK120.out⟩, ⟨by (with_reducible repeat (first | refine blk_drewN ?_ _ | refine blk_drew ?_ | refine blk_alloc ?_ _)); exact BK122.out⟩, ⟨by repeat (first | (with_reducible first | exact HB.out | apply bA | apply bN | apply bD | refine below_set ?_ GE120.out | refine below_set ?_ GE122.out | refine below_set ?_ GE124.out) | exact HB.out)⟩⟩
              ·rw [if_neg c43] at H
               have c43b0 : (((rd_T24 ((rd_T44 l1 x18_1).f1) x25_2).f0) == 1) = false := beq_eq_false_iff_ne.mpr c43
               have c43b1 : (((rd_T24 ((rd_T44 l1 x18_1).f1) x25_2).f0) != 1) = true := bne_iff_ne.mpr c43
               have H' := Aside0.mk H
               clear H
               have hnb57 := NB124_120.out
               have hnc57 := NB120_124.out
               have hnb58 := NB124_122.out
               have hnc58 := NB122_124.out
               obtain ⟨hcz59_0, hcz59_1, hcz59_2, hcz59_3, hcz59_4, hfz59_0, hfz59_1, hfz59_2, hfz59_3, hfz59_4⟩ := five BK124.out
               go_wp2
               go_roundg kj13
               case measure => have := HK1.out; have := HK2.out; have := HJ13.out; omega
               case rel => exact ⟨(x5_2), (x6_2), (wrap64 (x25_2 + 1)), (by first | rfl | (simp; done) | (simp [*]; done)), (by first | rfl | (simp; done) | (simp [*]; done)), H', ⟨by have := HK1.out; have := HK2.out; have := HJ13.out; omega⟩, ⟨by (with_reducible repeat (first | apply Kd.R_alloc | apply Kd.R_drewN | apply Kd.R_drew)); exact HO_5.out⟩, ⟨by (with_reducible repeat (first | refine blk_drewN ?_ _ | refine blk_drew ?_ | refine blk_alloc ?_ _)); exact BK120.out⟩, ⟨by (with_reducible repeat (first | refine blk_drewN ?_ _ | refine blk_drew ?_ | refine blk_alloc ?_ _)); exact BK122.out⟩, ⟨by repeat (first | (with_reducible first | exact HB.out | apply bA | apply bN | apply bD | refine below_set ?_ GE120.out | refine below_set ?_ GE122.out | refine below_set ?_ GE124.out) | exact HB.out)⟩⟩
          ·rw [if_neg c12] at H
           exact absurd H (by simp)
         ·rw [if_neg c11] at H
          exact absurd H (by simp)
        ·rw [if_neg c10] at H
         have c10b0 : decide (x25_2 < (((rd_T44 l1 x18_1).f1).length : Int)) = false := decide_eq_false c10
         clear c10
         have H' := Aside0.mk H
         clear H
         go_wp2
         go_roundg k2
         case measure => have := HK1.out; have := HK2.out; omega
         case rel => exact ⟨(x5_2), (x6_2), (wrap64 (x18_1 + 1)), (by first | rfl | (simp; done) | (simp [*]; done)), (by first | rfl | (simp; done) | (simp [*]; done)), H', ⟨by have := HK1.out; have := HK2.out; omega⟩, ⟨by (with_reducible repeat (first | apply Kd.R_alloc | apply Kd.R_drewN | apply Kd.R_drew)); exact HO_5.out⟩, ⟨by (with_reducible repeat (first | refine blk_drewN ?_ _ | refine blk_drew ?_ | refine blk_alloc ?_ _)); exact BK120.out⟩, ⟨by repeat (first | (with_reducible first | exact HB.out | apply bA | apply bN | apply bD | refine below_set ?_ GE120.out | refine below_set ?_ GE122.out) | exact HB.out)⟩⟩
     ·rw [if_neg c6] at H
      exact absurd H (by simp)
    ·rw [if_neg c5] at H
     exact absurd H (by simp)
   ·rw [if_neg c4] at H
    have c4b0 : decide (x18_1 < (l1.length : Int)) = false := decide_eq_false c4
    clear c4
    by_cases c60 : x6_1 > 0
    ·rw [if_pos c60] at H
     have c60b0 : decide (0 < x6_1) = true := decide_eq_true c60
     clear c60
     replace H := Option.bind_eq_some_iff.mp H
     obtain ⟨⟨t137, t138, t139, t140, t141⟩, A610, H⟩ := H
     replace H : (some (t137, t138, t139, t140, t141)) = some (r1, r2, r3, r4, r5) := H
     have A61 := Aside0.mk A610
     clear A610
     simp only [Option.some.injEq, Prod.mk.injEq] at H
     obtain ⟨rfl, rfl, rfl, rfl, rfl⟩ := H
     go_wp2_with (first | ((with_reducible refine gate_callee (f := 54) rfl ?_); refine goesL_ (some 61) rfl rfl Tryz.func54 (by kernel_rfl) rfl #[.int .i64 x6_1] rfl (by (try simp only [List.map_toArray, List.map_cons, List.map_nil]); first | done | rfl) ?_; (with_reducible refine (builtin_failed.calls x6_1 t137 t138 t139 t140 t141 _ A61.out).mono ?_); rintro e w62 ⟨rfl, hb⟩; refine ⟨_, rfl, ?_⟩; have n0_ := Aside0.mk (Kd.R_below (by (with_reducible repeat (first | apply Kd.R_alloc | apply Kd.R_drewN | apply Kd.R_drew)); exact HO_5.out) hb); have n1_ := Aside0.mk (blk_below (g := gb120) (o := .cells #[.int .i64 0, .int .i64 0, .string (⟨#[]⟩ : ByteArray), .bool false, .int .i64 0] 24 (0, 0)) (by (with_reducible repeat (first | refine blk_drewN ?_ _ | refine blk_drew ?_ | refine blk_alloc ?_ _)); exact BK120.out) hb); have n2_ := Aside0.mk (below_step (by repeat (first | (with_reducible first | exact HB.out | apply bA | apply bN | apply bD | refine below_set ?_ GE120.out) | exact HB.out)) hb); clear HO_5; clear BK120; clear HB; have HO_5 := n0_; have BK120 := n1_; have HB := n2_; clear n0_ n1_ n2_; (try clear hb); (try clear hb2); (try clear hk); (try clear hi); obtain ⟨hcz63_0, hcz63_1, hcz63_2, hcz63_3, hcz63_4, hfz63_0, hfz63_1, hfz63_2, hfz63_3, hfz63_4⟩ := five BK120.out))
     refine bodyPost_ret (results_cell_row rfl _ _ gb120 24 #[.int .i64 t137, .int .i64 t138, .string t139, .bool t140, .int .i64 t141] (0, 0) _ rfl (by (with_reducible repeat (first | refine blk_drewN ?_ _ | refine blk_drew ?_ | refine blk_alloc ?_ _)); refine blk_put (cs := #[.int .i64 t137, .int .i64 t138, .string t139, .bool t140, .int .i64 0]) ?_ 4 _ rfl; (with_reducible repeat (first | refine blk_drewN ?_ _ | refine blk_drew ?_ | refine blk_alloc ?_ _)); refine blk_put (cs := #[.int .i64 t137, .int .i64 t138, .string t139, .bool false, .int .i64 0]) ?_ 3 _ rfl; (with_reducible repeat (first | refine blk_drewN ?_ _ | refine blk_drew ?_ | refine blk_alloc ?_ _)); refine blk_put (cs := #[.int .i64 t137, .int .i64 t138, .string (⟨#[]⟩ : ByteArray), .bool false, .int .i64 0]) ?_ 2 _ rfl; (with_reducible repeat (first | refine blk_drewN ?_ _ | refine blk_drew ?_ | refine blk_alloc ?_ _)); refine blk_put (cs := #[.int .i64 t137, .int .i64 0, .string (⟨#[]⟩ : ByteArray), .bool false, .int .i64 0]) ?_ 1 _ rfl; (with_reducible repeat (first | refine blk_drewN ?_ _ | refine blk_drew ?_ | refine blk_alloc ?_ _)); refine blk_put (cs := #[.int .i64 0, .int .i64 0, .string (⟨#[]⟩ : ByteArray), .bool false, .int .i64 0]) ?_ 0 _ rfl; (with_reducible repeat (first | refine blk_drewN ?_ _ | refine blk_drew ?_ | refine blk_alloc ?_ _)); exact BK120.out) Tryz.underlying24 rfl (by kernel_rfl)) rfl ?_
     exact ⟨by first | rfl | (simp; done) | (simp [*]; done) | (simp <;> rfl) | (simp [*] <;> rfl), by repeat (first | (with_reducible first | exact HB.out | apply bA | apply bN | apply bD | refine below_set ?_ GE120.out) | exact HB.out)⟩
    ·rw [if_neg c60] at H
     have c60b0 : decide (0 < x6_1) = false := decide_eq_false c60
     clear c60
     replace H := Option.bind_eq_some_iff.mp H
     obtain ⟨⟨t142, t143⟩, A640, H⟩ := H
     replace H : (if a0.toList = ([67, 79, 85, 78, 84] : List UInt8) then ((builtin_number.f t142).bind fun bt144 => (some (bt144.1, bt144.2.1, bt144.2.2.1, bt144.2.2.2.1, bt144.2.2.2.2))) else (if a0.toList = ([77, 73, 78] : List UInt8) then (builtin_all.j3 k1 a0 x5_1 t142 t143 (a0.toList == ([77, 73, 78] : List UInt8))) else (builtin_all.j3 k1 a0 x5_1 t142 t143 (a0.toList == ([77, 65, 88] : List UInt8))))) = some (r1, r2, r3, r4, r5) := H
     have A64 := Aside0.mk A640
     clear A640
     by_cases c65 : a0.toList = ([67, 79, 85, 78, 84] : List UInt8)
     ·rw [if_pos c65] at H
      have c65b0 : (a0.toList == ([67, 79, 85, 78, 84] : List UInt8)) = true := beq_iff_eq.mpr c65
      have c65b1 : (a0.toList != ([67, 79, 85, 78, 84] : List UInt8)) = false := bne_eq_false_iff_eq.mpr c65
      clear c65
      replace H := Option.bind_eq_some_iff.mp H
      obtain ⟨⟨t144, t145, t146, t147, t148⟩, A660, H⟩ := H
      replace H : (some (t144, t145, t146, t147, t148)) = some (r1, r2, r3, r4, r5) := H
      have A66 := Aside0.mk A660
      clear A660
      simp only [Option.some.injEq, Prod.mk.injEq] at H
      obtain ⟨rfl, rfl, rfl, rfl, rfl⟩ := H
      obtain ⟨Ao67, co67, eo67⟩ := Kd.R_slice HO_5.out
      subst eo67
      go_wp2_with (first | ((with_reducible refine gate_callee (f := 44) rfl ?_); refine goesL_ (some 65) rfl rfl Tryz.func44 (by kernel_rfl) rfl #[.int .i64 (x5_1.length : Int)] rfl (by (try simp only [List.map_toArray, List.map_cons, List.map_nil]); first | done | rfl) ?_; (with_reducible refine (fixnum_Int.calls (x5_1.length : Int) t142 t143 _ A64.out).mono ?_); rintro e w' ⟨rfl, ⟨nd, rfl⟩⟩; refine ⟨_, rfl, ?_⟩; (try (rw [drewN_self wr]; generalize hq_ : World.drewN wr _ = wr; have n0_ : Aside0 (Kd.R (Kd.int .i64) 22 wr w.heap.size (fun _ => True) (.slice Ao67 x5_1.length co67) x5_1) := ⟨by rw [← hq_]; exact (by (with_reducible repeat (first | apply Kd.R_alloc | apply Kd.R_drewN | apply Kd.R_drew)); exact HO_5.out)⟩; have n1_ : Aside0 (wr.heap[gb120]? = some (.cells #[.int .i64 0, .int .i64 0, .string (⟨#[]⟩ : ByteArray), .bool false, .int .i64 0] 24 (0, 0))) := ⟨by rw [← hq_]; exact (by (with_reducible repeat (first | refine blk_drewN ?_ _ | refine blk_drew ?_ | refine blk_alloc ?_ _)); exact BK120.out)⟩; have n2_ : Aside0 (Below w.heap.size w wr) := ⟨by rw [← hq_]; exact (by repeat (first | (with_reducible first | exact HB.out | apply bA | apply bN | apply bD | refine below_set ?_ GE120.out) | exact HB.out))⟩; clear HO_5 BK120 HB hq_; have HO_5 := n0_; have BK120 := n1_; have HB := n2_; clear n0_ n1_ n2_))) | ((with_reducible refine gate_callee (f := 82) rfl ?_); refine goesL_ (some 72) rfl rfl Tryz.func82 (by kernel_rfl) rfl #[.int .i64 t142] rfl (by (try simp only [List.map_toArray, List.map_cons, List.map_nil]); first | done | rfl) ?_; (with_reducible refine (builtin_number.calls t142 t144 t145 t146 t147 t148 _ A66.out).mono ?_); rintro e w68 ⟨rfl, hb⟩; refine ⟨_, rfl, ?_⟩; have n0_ := Aside0.mk (Kd.R_below (by (with_reducible repeat (first | apply Kd.R_alloc | apply Kd.R_drewN | apply Kd.R_drew)); exact HO_5.out) hb); have n1_ := Aside0.mk (blk_below (g := gb120) (o := .cells #[.int .i64 0, .int .i64 0, .string (⟨#[]⟩ : ByteArray), .bool false, .int .i64 0] 24 (0, 0)) (by (with_reducible repeat (first | refine blk_drewN ?_ _ | refine blk_drew ?_ | refine blk_alloc ?_ _)); exact BK120.out) hb); have n2_ := Aside0.mk (below_step (by repeat (first | (with_reducible first | exact HB.out | apply bA | apply bN | apply bD | refine below_set ?_ GE120.out) | exact HB.out)) hb); clear HO_5; clear BK120; clear HB; have HO_5 := n0_; have BK120 := n1_; have HB := n2_; clear n0_ n1_ n2_; (try clear hb); (try clear hb2); (try clear hk); (try clear hi); obtain ⟨hcz69_0, hcz69_1, hcz69_2, hcz69_3, hcz69_4, hfz69_0, hfz69_1, hfz69_2, hfz69_3, hfz69_4⟩ := five BK120.out))
      refine bodyPost_ret (results_cell_row rfl _ _ gb120 24 #[.int .i64 t144, .int .i64 t145, .string t146, .bool t147, .int .i64 t148] (0, 0) _ rfl (by (with_reducible repeat (first | refine blk_drewN ?_ _ | refine blk_drew ?_ | refine blk_alloc ?_ _)); refine blk_put (cs := #[.int .i64 t144, .int .i64 t145, .string t146, .bool t147, .int .i64 0]) ?_ 4 _ rfl; (with_reducible repeat (first | refine blk_drewN ?_ _ | refine blk_drew ?_ | refine blk_alloc ?_ _)); refine blk_put (cs := #[.int .i64 t144, .int .i64 t145, .string t146, .bool false, .int .i64 0]) ?_ 3 _ rfl; (with_reducible repeat (first | refine blk_drewN ?_ _ | refine blk_drew ?_ | refine blk_alloc ?_ _)); refine blk_put (cs := #[.int .i64 t144, .int .i64 t145, .string (⟨#[]⟩ : ByteArray), .bool false, .int .i64 0]) ?_ 2 _ rfl; (with_reducible repeat (first | refine blk_drewN ?_ _ | refine blk_drew ?_ | refine blk_alloc ?_ _)); refine blk_put (cs := #[.int .i64 t144, .int .i64 0, .string (⟨#[]⟩ : ByteArray), .bool false, .int .i64 0]) ?_ 1 _ rfl; (with_reducible repeat (first | refine blk_drewN ?_ _ | refine blk_drew ?_ | refine blk_alloc ?_ _)); refine blk_put (cs := #[.int .i64 0, .int .i64 0, .string (⟨#[]⟩ : ByteArray), .bool false, .int .i64 0]) ?_ 0 _ rfl; (with_reducible repeat (first | refine blk_drewN ?_ _ | refine blk_drew ?_ | refine blk_alloc ?_ _)); exact BK120.out) Tryz.underlying24 rfl (by kernel_rfl)) rfl ?_
      exact ⟨by first | rfl | (simp; done) | (simp [*]; done) | (simp <;> rfl) | (simp [*] <;> rfl), by repeat (first | (with_reducible first | exact HB.out | apply bA | apply bN | apply bD | refine below_set ?_ GE120.out) | exact HB.out)⟩
     ·rw [if_neg c65] at H
      have c65b0 : (a0.toList == ([67, 79, 85, 78, 84] : List UInt8)) = false := beq_eq_false_iff_ne.mpr c65
      have c65b1 : (a0.toList != ([67, 79, 85, 78, 84] : List UInt8)) = true := bne_iff_ne.mpr c65
      have HC70 := Aside0.mk H
      clear H
      obtain ⟨Ao71, co71, eo71⟩ := Kd.R_slice HO_5.out
      subst eo71
      go_upto_if 73 with (first | ((with_reducible refine gate_callee (f := 44) rfl ?_); refine goesL_ (some 65) rfl rfl Tryz.func44 (by kernel_rfl) rfl #[.int .i64 (x5_1.length : Int)] rfl (by (try simp only [List.map_toArray, List.map_cons, List.map_nil]); first | done | rfl) ?_; (with_reducible refine (fixnum_Int.calls (x5_1.length : Int) t142 t143 _ A64.out).mono ?_); rintro e w' ⟨rfl, ⟨nd, rfl⟩⟩; refine ⟨_, rfl, ?_⟩))
      (try simp only [Act.put, List.setIfInBounds_toArray, List.set_cons_zero, List.set_cons_succ])
      go_cut [73] (fun v73 wc => ∃ (kq : Nat) (x73_69 : Bool), v73 = .bool x73_69 ∧ Aside0 (builtin_all.j3 kq a0 x5_1 t142 t143 x73_69 = some (r1, r2, r3, r4, r5)) ∧ Aside0 (kq ≤ k1) ∧ Aside0 (Kd.R (Kd.int .i64) 22 wc w.heap.size (fun _ => True) (.slice Ao71 x5_1.length co71) x5_1) ∧ Aside0 (wc.heap[gb120]? = some (.cells #[.int .i64 0, .int .i64 0, .string (⟨#[]⟩ : ByteArray), .bool false, .int .i64 0] 24 (0, 0))) ∧ Aside0 (Below w.heap.size w wc))
      case first =>
       have H := HC70.out
       clear HC70
       by_cases c72 : a0.toList = ([77, 73, 78] : List UInt8)
       ·rw [if_pos c72] at H
        have c72b0 : (a0.toList == ([77, 73, 78] : List UInt8)) = true := beq_iff_eq.mpr c72
        have c72b1 : (a0.toList != ([77, 73, 78] : List UInt8)) = false := bne_eq_false_iff_eq.mpr c72
        clear c72
        (first | rw [c72b0] | (simp only [i64_w, i32_w]; rw [c72b0]) | skip)
        have H' := Aside0.mk H
        clear H
        go_wp2
        go_meet
        case rel => exact ⟨_, ((a0.toList == ([77, 73, 78] : List UInt8))), (by first | rfl | (simp; done) | (simp [*]; done)), H', ⟨by have := HK1.out; first | omega | exact Nat.le_refl _⟩, ⟨by (with_reducible repeat (first | apply Kd.R_alloc | apply Kd.R_drewN | apply Kd.R_drew)); exact HO_5.out⟩, ⟨by (with_reducible repeat (first | refine blk_drewN ?_ _ | refine blk_drew ?_ | refine blk_alloc ?_ _)); exact BK120.out⟩, ⟨by repeat (first | (with_reducible first | exact HB.out | apply bA | apply bN | apply bD | refine below_set ?_ GE120.out) | exact HB.out)⟩⟩
       ·rw [if_neg c72] at H
        have c72b0 : (a0.toList == ([77, 73, 78] : List UInt8)) = false := beq_eq_false_iff_ne.mpr c72
        have c72b1 : (a0.toList != ([77, 73, 78] : List UInt8)) = true := bne_iff_ne.mpr c72
        (first | rw [c72b0] | (simp only [i64_w, i32_w]; rw [c72b0]) | skip)
        have H' := Aside0.mk H
        clear H
        go_wp2
        go_meet
        case rel => exact ⟨_, ((a0.toList == ([77, 65, 88] : List UInt8))), (by first | rfl | (simp; done) | (simp [*]; done)), H', ⟨by have := HK1.out; first | omega | exact Nat.le_refl _⟩, ⟨by (with_reducible repeat (first | apply Kd.R_alloc | apply Kd.R_drewN | apply Kd.R_drew)); exact HO_5.out⟩, ⟨by (with_reducible repeat (first | refine blk_drewN ?_ _ | refine blk_drew ?_ | refine blk_alloc ?_ _)); exact BK120.out⟩, ⟨by repeat (first | (with_reducible first | exact HB.out | apply bA | apply bN | apply bD | refine below_set ?_ GE120.out) | exact HB.out)⟩⟩
      case rest =>
       clear HC70
       try clear c1
       try clear p1
       try clear q1
       try clear hx1
       try clear c2
       try clear p2
       try clear c3
       try clear c4
       try clear c4b0
       try clear c5
       try clear c5b0
       try clear c6
       try clear c6b0
       try clear p6
       try clear c7
       try clear c8
       try clear c10
       try clear c10b0
       try clear c11
       try clear c11b0
       try clear c12
       try clear c12b0
       try clear p12
       try clear q12
       try clear hx12
       try clear c16
       try clear c17
       try clear c23
       try clear c23b0
       try clear c24
       try clear c24b0
       try clear c24b1
       try clear c25
       try clear c26
       try clear c26b0
       try clear c26b1
       try clear c28
       try clear c29
       try clear c30
       try clear c31
       try clear c35
       try clear c36
       try clear c37
       try clear c40
       try clear c41
       try clear c43
       try clear c43b0
       try clear c43b1
       try clear c44
       try clear c45
       try clear c46
       try clear c47
       try clear c48
       try clear c53
       try clear c54
       try clear c55
       try clear c57
       try clear c58
       try clear c60
       try clear c60b0
       try clear p64
       try clear c65
       try clear c65b0
       try clear c65b1
       try clear c72
       try clear c72b0
       try clear c72b1
       try clear hcz18_0
       try clear hcz18_1
       try clear hcz18_2
       try clear hcz18_3
       try clear hcz18_4
       try clear hcz32_0
       try clear hcz32_1
       try clear hcz32_2
       try clear hcz32_3
       try clear hcz32_4
       try clear hcz34_0
       try clear hcz34_1
       try clear hcz34_2
       try clear hcz34_3
       try clear hcz34_4
       try clear hcz38_0
       try clear hcz38_1
       try clear hcz38_2
       try clear hcz38_3
       try clear hcz38_4
       try clear hcz42_0
       try clear hcz42_1
       try clear hcz42_2
       try clear hcz42_3
       try clear hcz42_4
       try clear hcz49_0
       try clear hcz49_1
       try clear hcz49_2
       try clear hcz49_3
       try clear hcz49_4
       try clear hcz51_0
       try clear hcz51_1
       try clear hcz51_2
       try clear hcz51_3
       try clear hcz51_4
       try clear hcz55_0
       try clear hcz55_1
       try clear hcz55_2
       try clear hcz55_3
       try clear hcz55_4
       try clear hcz59_0
       try clear hcz59_1
       try clear hcz59_2
       try clear hcz59_3
       try clear hcz59_4
       try clear hcz63_0
       try clear hcz63_1
       try clear hcz63_2
       try clear hcz63_3
       try clear hcz63_4
       try clear hcz69_0
       try clear hcz69_1
       try clear hcz69_2
       try clear hcz69_3
       try clear hcz69_4
       try clear hcz9_0
       try clear hcz9_1
       try clear hfz18_0
       try clear hfz18_1
       try clear hfz18_2
       try clear hfz18_3
       try clear hfz18_4
       try clear hfz32_0
       try clear hfz32_1
       try clear hfz32_2
       try clear hfz32_3
       try clear hfz32_4
       try clear hfz34_0
       try clear hfz34_1
       try clear hfz34_2
       try clear hfz34_3
       try clear hfz34_4
       try clear hfz38_0
       try clear hfz38_1
       try clear hfz38_2
       try clear hfz38_3
       try clear hfz38_4
       try clear hfz42_0
       try clear hfz42_1
       try clear hfz42_2
       try clear hfz42_3
       try clear hfz42_4
       try clear hfz49_0
       try clear hfz49_1
       try clear hfz49_2
       try clear hfz49_3
       try clear hfz49_4
       try clear hfz51_0
       try clear hfz51_1
       try clear hfz51_2
       try clear hfz51_3
       try clear hfz51_4
       try clear hfz55_0
       try clear hfz55_1
       try clear hfz55_2
       try clear hfz55_3
       try clear hfz55_4
       try clear hfz59_0
       try clear hfz59_1
       try clear hfz59_2
       try clear hfz59_3
       try clear hfz59_4
       try clear hfz63_0
       try clear hfz63_1
       try clear hfz63_2
       try clear hfz63_3
       try clear hfz63_4
       try clear hfz69_0
       try clear hfz69_1
       try clear hfz69_2
       try clear hfz69_3
       try clear hfz69_4
       try clear hfz9_0
       try clear hfz9_1
       try clear hx121_0
       try clear hx121_1
       try clear hx123_0
       try clear hx123_1
       try clear hx123_2
       try clear hx123_3
       try clear hx123_4
       try clear p1
       try clear p12
       try clear p121
       try clear p123
       try clear p2
       try clear q1
       try clear q12
       try clear q121
       try clear q123
       obtain ⟨kq, x73_69, rfl, HA, HJ69, HO_5, BK120, HB⟩ := hcut
       cases kq with
       | zero => exact absurd HA.out (by simp [builtin_all.j3])
       | succ kj69 =>
        have H := HA.out
        clear HA
        simp only [builtin_all.j3] at H
        by_cases c73 : x73_69 = true
        ·subst c73
         have H1 : ((builtin_extreme.f kj69 x5_1 (a0.toList == ([77, 65, 88] : List UInt8))).bind fun t149 => ((builtin_number.f t149).bind fun bt150 => (some (bt150.1, bt150.2.1, bt150.2.2.1, bt150.2.2.2.1, bt150.2.2.2.2)))) = some (r1, r2, r3, r4, r5) := by rw [if_pos rfl] at H; exact H
         clear H
         have H := H1
         clear H1
         replace H := Option.bind_eq_some_iff.mp H
         obtain ⟨t149, A740, H⟩ := H
         replace H : ((builtin_number.f t149).bind fun bt150 => (some (bt150.1, bt150.2.1, bt150.2.2.1, bt150.2.2.2.1, bt150.2.2.2.2))) = some (r1, r2, r3, r4, r5) := H
         have A74 := Aside0.mk A740
         clear A740
         replace H := Option.bind_eq_some_iff.mp H
         obtain ⟨⟨t150, t151, t152, t153, t154⟩, A750, H⟩ := H
         replace H : (some (t150, t151, t152, t153, t154)) = some (r1, r2, r3, r4, r5) := H
         have A75 := Aside0.mk A750
         clear A750
         simp only [Option.some.injEq, Prod.mk.injEq] at H
         obtain ⟨rfl, rfl, rfl, rfl, rfl⟩ := H
         go_wp2_with (first | ((with_reducible refine gate_callee (f := 83) rfl ?_); refine goesL_ (some 79) rfl rfl Tryz.func83 (by kernel_rfl) rfl #[.slice Ao71 x5_1.length co71, .bool (a0.toList == ([77, 65, 88] : List UInt8))] rfl (by (try simp only [List.map_toArray, List.map_cons, List.map_nil]); first | done | rfl) ?_; (with_reducible refine (builtin_extreme.calls kj69 _ _ x5_1 (a0.toList == ([77, 65, 88] : List UInt8)) t149 _ ?side1 ?side2 A74.out).mono ?_); (case side1 => repeat (first | exact (Kd.R_reads' HO_5.out).2.2 | (with_reducible refine Kd.C_alloc ?_ _) | (with_reducible refine Kd.C_drewN ?_ _) | (with_reducible refine Kd.C_drew ?_))); (case side2 => exact (Kd.R_reads' HO_5.out).2.1); rintro e w' ⟨rfl, ⟨nd, rfl⟩⟩; refine ⟨_, rfl, ?_⟩; (try (rw [drewN_self wc]; generalize hq_ : World.drewN wc _ = wc; have n0_ : Aside0 (Kd.R (Kd.int .i64) 22 wc w.heap.size (fun _ => True) (.slice Ao71 x5_1.length co71) x5_1) := ⟨by rw [← hq_]; exact (by (with_reducible repeat (first | apply Kd.R_alloc | apply Kd.R_drewN | apply Kd.R_drew)); exact HO_5.out)⟩; have n1_ : Aside0 (wc.heap[gb120]? = some (.cells #[.int .i64 0, .int .i64 0, .string (⟨#[]⟩ : ByteArray), .bool false, .int .i64 0] 24 (0, 0))) := ⟨by rw [← hq_]; exact (by (with_reducible repeat (first | refine blk_drewN ?_ _ | refine blk_drew ?_ | refine blk_alloc ?_ _)); exact BK120.out)⟩; have n2_ : Aside0 (Below w.heap.size w wc) := ⟨by rw [← hq_]; exact (by repeat (first | (with_reducible first | exact HB.out | apply bA | apply bN | apply bD | refine below_set ?_ GE120.out) | exact HB.out))⟩; clear HO_5 BK120 HB hq_; have HO_5 := n0_; have BK120 := n1_; have HB := n2_; clear n0_ n1_ n2_))) | ((with_reducible refine gate_callee (f := 82) rfl ?_); refine goesL_ (some 80) rfl rfl Tryz.func82 (by kernel_rfl) rfl #[.int .i64 t149] rfl (by (try simp only [List.map_toArray, List.map_cons, List.map_nil]); first | done | rfl) ?_; (with_reducible refine (builtin_number.calls t149 t150 t151 t152 t153 t154 _ A75.out).mono ?_); rintro e w76 ⟨rfl, hb⟩; refine ⟨_, rfl, ?_⟩; have n0_ := Aside0.mk (Kd.R_below (by (with_reducible repeat (first | apply Kd.R_alloc | apply Kd.R_drewN | apply Kd.R_drew)); exact HO_5.out) hb); have n1_ := Aside0.mk (blk_below (g := gb120) (o := .cells #[.int .i64 0, .int .i64 0, .string (⟨#[]⟩ : ByteArray), .bool false, .int .i64 0] 24 (0, 0)) (by (with_reducible repeat (first | refine blk_drewN ?_ _ | refine blk_drew ?_ | refine blk_alloc ?_ _)); exact BK120.out) hb); have n2_ := Aside0.mk (below_step (by repeat (first | (with_reducible first | exact HB.out | apply bA | apply bN | apply bD | refine below_set ?_ GE120.out) | exact HB.out)) hb); clear HO_5; clear BK120; clear HB; have HO_5 := n0_; have BK120 := n1_; have HB := n2_; clear n0_ n1_ n2_; (try clear hb); (try clear hb2); (try clear hk); (try clear hi); obtain ⟨hcz77_0, hcz77_1, hcz77_2, hcz77_3, hcz77_4, hfz77_0, hfz77_1, hfz77_2, hfz77_3, hfz77_4⟩ := five BK120.out))
         refine bodyPost_ret (results_cell_row rfl _ _ gb120 24 #[.int .i64 t150, .int .i64 t151, .string t152, .bool t153, .int .i64 t154] (0, 0) _ rfl (by (with_reducible repeat (first | refine blk_drewN ?_ _ | refine blk_drew ?_ | refine blk_alloc ?_ _)); refine blk_put (cs := #[.int .i64 t150, .int .i64 t151, .string t152, .bool t153, .int .i64 0]) ?_ 4 _ rfl; (with_reducible repeat (first | refine blk_drewN ?_ _ | refine blk_drew ?_ | refine blk_alloc ?_ _)); refine blk_put (cs := #[.int .i64 t150, .int .i64 t151, .string t152, .bool false, .int .i64 0]) ?_ 3 _ rfl; (with_reducible repeat (first | refine blk_drewN ?_ _ | refine blk_drew ?_ | refine blk_alloc ?_ _)); refine blk_put (cs := #[.int .i64 t150, .int .i64 t151, .string (⟨#[]⟩ : ByteArray), .bool false, .int .i64 0]) ?_ 2 _ rfl; (with_reducible repeat (first | refine blk_drewN ?_ _ | refine blk_drew ?_ | refine blk_alloc ?_ _)); refine blk_put (cs := #[.int .i64 t150, .int .i64 0, .string (⟨#[]⟩ : ByteArray), .bool false, .int .i64 0]) ?_ 1 _ rfl; (with_reducible repeat (first | refine blk_drewN ?_ _ | refine blk_drew ?_ | refine blk_alloc ?_ _)); refine blk_put (cs := #[.int .i64 0, .int .i64 0, .string (⟨#[]⟩ : ByteArray), .bool false, .int .i64 0]) ?_ 0 _ rfl; (with_reducible repeat (first | refine blk_drewN ?_ _ | refine blk_drew ?_ | refine blk_alloc ?_ _)); exact BK120.out) Tryz.underlying24 rfl (by kernel_rfl)) rfl ?_
         exact ⟨by first | rfl | (simp; done) | (simp [*]; done) | (simp <;> rfl) | (simp [*] <;> rfl), by repeat (first | (with_reducible first | exact HB.out | apply bA | apply bN | apply bD | refine below_set ?_ GE120.out) | exact HB.out)⟩
        ·replace c73 := Bool.eq_false_iff.mpr c73
         subst c73
         have H1 : ((fixnum_Sum.f kj69 x5_1).bind fun bt155 => (if a0.toList = ([65, 86, 69, 82, 65, 71, 69] : List UInt8) then (builtin_all.j4 kj69 a0 t142 t143 bt155.1 bt155.2 ((x5_1.length : Int) == 0)) else (builtin_all.j4 kj69 a0 t142 t143 bt155.1 bt155.2 false))) = some (r1, r2, r3, r4, r5) := by rw [if_neg (show ¬ (false = true) by decide)] at H; exact H
         clear H
         have H := H1
         clear H1
         replace H := Option.bind_eq_some_iff.mp H
         obtain ⟨⟨t155, t156⟩, A780, H⟩ := H
         replace H : (if a0.toList = ([65, 86, 69, 82, 65, 71, 69] : List UInt8) then (builtin_all.j4 kj69 a0 t142 t143 t155 t156 ((x5_1.length : Int) == 0)) else (builtin_all.j4 kj69 a0 t142 t143 t155 t156 false)) = some (r1, r2, r3, r4, r5) := H
         have A78 := Aside0.mk A780
         clear A780
         have HC79 := Aside0.mk H
         clear H
         go_upto_region 26 with (first | ((with_reducible refine gate_callee (f := 84) rfl ?_); refine goesL_ (some 83) rfl rfl Tryz.func84 (by kernel_rfl) rfl #[.slice Ao71 x5_1.length co71] rfl (by (try simp only [List.map_toArray, List.map_cons, List.map_nil]); first | done | rfl) ?_; (with_reducible refine (fixnum_Sum.calls kj69 _ _ x5_1 t155 t156 _ ?side1 ?side2 A78.out).mono ?_); (case side1 => repeat (first | exact (Kd.R_reads' HO_5.out).2.2 | (with_reducible refine Kd.C_alloc ?_ _) | (with_reducible refine Kd.C_drewN ?_ _) | (with_reducible refine Kd.C_drew ?_))); (case side2 => exact (Kd.R_reads' HO_5.out).2.1); rintro e w' ⟨rfl, ⟨nd, rfl⟩⟩; refine ⟨_, rfl, ?_⟩))
         (try simp only [Act.put, List.setIfInBounds_toArray, List.set_cons_zero, List.set_cons_succ])
         go_cut [86] (fun v86 wc => ∃ (kq : Nat) (x86_78 : Bool), v86 = .bool x86_78 ∧ Aside0 (builtin_all.j4 kq a0 t142 t143 t155 t156 x86_78 = some (r1, r2, r3, r4, r5)) ∧ Aside0 (kq ≤ kj69) ∧ Aside0 (wc.heap[gb120]? = some (.cells #[.int .i64 0, .int .i64 0, .string (⟨#[]⟩ : ByteArray), .bool false, .int .i64 0] 24 (0, 0))) ∧ Aside0 (Below w.heap.size w wc))
         case first =>
          have H := HC79.out
          clear HC79
          by_cases c80 : a0.toList = ([65, 86, 69, 82, 65, 71, 69] : List UInt8)
          ·rw [if_pos c80] at H
           have c80b0 : (a0.toList == ([65, 86, 69, 82, 65, 71, 69] : List UInt8)) = true := beq_iff_eq.mpr c80
           have c80b1 : (a0.toList != ([65, 86, 69, 82, 65, 71, 69] : List UInt8)) = false := bne_eq_false_iff_eq.mpr c80
           clear c80
           (first | rw [c80b0] | (simp only [i64_w, i32_w]; rw [c80b0]) | skip)
           have H' := Aside0.mk H
           clear H
           go_wp2
           go_meet
           case rel => exact ⟨_, (((x5_1.length : Int) == 0)), (by first | rfl | (simp; done) | (simp [*]; done)), H', ⟨by have := HK1.out; have := HJ69.out; first | omega | exact Nat.le_refl _⟩, ⟨by (with_reducible repeat (first | refine blk_drewN ?_ _ | refine blk_drew ?_ | refine blk_alloc ?_ _)); exact BK120.out⟩, ⟨by repeat (first | (with_reducible first | exact HB.out | apply bA | apply bN | apply bD | refine below_set ?_ GE120.out) | exact HB.out)⟩⟩
          ·rw [if_neg c80] at H
           have c80b0 : (a0.toList == ([65, 86, 69, 82, 65, 71, 69] : List UInt8)) = false := beq_eq_false_iff_ne.mpr c80
           have c80b1 : (a0.toList != ([65, 86, 69, 82, 65, 71, 69] : List UInt8)) = true := bne_iff_ne.mpr c80
           (first | rw [c80b0] | (simp only [i64_w, i32_w]; rw [c80b0]) | skip)
           have H' := Aside0.mk H
           clear H
           go_wp2
           go_meet
           case rel => exact ⟨_, (false), (by first | rfl | (simp; done) | (simp [*]; done)), H', ⟨by have := HK1.out; have := HJ69.out; first | omega | exact Nat.le_refl _⟩, ⟨by (with_reducible repeat (first | refine blk_drewN ?_ _ | refine blk_drew ?_ | refine blk_alloc ?_ _)); exact BK120.out⟩, ⟨by repeat (first | (with_reducible first | exact HB.out | apply bA | apply bN | apply bD | refine below_set ?_ GE120.out) | exact HB.out)⟩⟩
         case rest =>
          clear HC79
          try clear c1
          try clear p1
          try clear q1
          try clear hx1
          try clear c2
          try clear p2
          try clear c3
          try clear c4
          try clear c4b0
          try clear c5
          try clear c5b0
          try clear c6
          try clear c6b0
          try clear p6
          try clear c7
          try clear c8
          try clear c10
          try clear c10b0
          try clear c11
          try clear c11b0
          try clear c12
          try clear c12b0
          try clear p12
          try clear q12
          try clear hx12
          try clear c16
          try clear c17
          try clear c23
          try clear c23b0
          try clear c24
          try clear c24b0
          try clear c24b1
          try clear c25
          try clear c26
          try clear c26b0
          try clear c26b1
          try clear c28
          try clear c29
          try clear c30
          try clear c31
          try clear c35
          try clear c36
          try clear c37
          try clear c40
          try clear c41
          try clear c43
          try clear c43b0
          try clear c43b1
          try clear c44
          try clear c45
          try clear c46
          try clear c47
          try clear c48
          try clear c53
          try clear c54
          try clear c55
          try clear c57
          try clear c58
          try clear c60
          try clear c60b0
          try clear p64
          try clear c65
          try clear c65b0
          try clear c65b1
          try clear c72
          try clear c72b0
          try clear c72b1
          try clear c73
          try clear c80
          try clear c80b0
          try clear c80b1
          try clear hcz18_0
          try clear hcz18_1
          try clear hcz18_2
          try clear hcz18_3
          try clear hcz18_4
          try clear hcz32_0
          try clear hcz32_1
          try clear hcz32_2
          try clear hcz32_3
          try clear hcz32_4
          try clear hcz34_0
          try clear hcz34_1
          try clear hcz34_2
          try clear hcz34_3
          try clear hcz34_4
          try clear hcz38_0
          try clear hcz38_1
          try clear hcz38_2
          try clear hcz38_3
          try clear hcz38_4
          try clear hcz42_0
          try clear hcz42_1
          try clear hcz42_2
          try clear hcz42_3
          try clear hcz42_4
          try clear hcz49_0
          try clear hcz49_1
          try clear hcz49_2
          try clear hcz49_3
          try clear hcz49_4
          try clear hcz51_0
          try clear hcz51_1
          try clear hcz51_2
          try clear hcz51_3
          try clear hcz51_4
          try clear hcz55_0
          try clear hcz55_1
          try clear hcz55_2
          try clear hcz55_3
          try clear hcz55_4
          try clear hcz59_0
          try clear hcz59_1
          try clear hcz59_2
          try clear hcz59_3
          try clear hcz59_4
          try clear hcz63_0
          try clear hcz63_1
          try clear hcz63_2
          try clear hcz63_3
          try clear hcz63_4
          try clear hcz69_0
          try clear hcz69_1
          try clear hcz69_2
          try clear hcz69_3
          try clear hcz69_4
          try clear hcz77_0
          try clear hcz77_1
          try clear hcz77_2
          try clear hcz77_3
          try clear hcz77_4
          try clear hcz9_0
          try clear hcz9_1
          try clear hfz18_0
          try clear hfz18_1
          try clear hfz18_2
          try clear hfz18_3
          try clear hfz18_4
          try clear hfz32_0
          try clear hfz32_1
          try clear hfz32_2
          try clear hfz32_3
          try clear hfz32_4
          try clear hfz34_0
          try clear hfz34_1
          try clear hfz34_2
          try clear hfz34_3
          try clear hfz34_4
          try clear hfz38_0
          try clear hfz38_1
          try clear hfz38_2
          try clear hfz38_3
          try clear hfz38_4
          try clear hfz42_0
          try clear hfz42_1
          try clear hfz42_2
          try clear hfz42_3
          try clear hfz42_4
          try clear hfz49_0
          try clear hfz49_1
          try clear hfz49_2
          try clear hfz49_3
          try clear hfz49_4
          try clear hfz51_0
          try clear hfz51_1
          try clear hfz51_2
          try clear hfz51_3
          try clear hfz51_4
          try clear hfz55_0
          try clear hfz55_1
          try clear hfz55_2
          try clear hfz55_3
          try clear hfz55_4
          try clear hfz59_0
          try clear hfz59_1
          try clear hfz59_2
          try clear hfz59_3
          try clear hfz59_4
          try clear hfz63_0
          try clear hfz63_1
          try clear hfz63_2
          try clear hfz63_3
          try clear hfz63_4
          try clear hfz69_0
          try clear hfz69_1
          try clear hfz69_2
          try clear hfz69_3
          try clear hfz69_4
          try clear hfz77_0
          try clear hfz77_1
          try clear hfz77_2
          try clear hfz77_3
          try clear hfz77_4
          try clear hfz9_0
          try clear hfz9_1
          try clear hx121_0
          try clear hx121_1
          try clear hx123_0
          try clear hx123_1
          try clear hx123_2
          try clear hx123_3
          try clear hx123_4
          try clear p1
          try clear p12
          try clear p121
          try clear p123
          try clear p2
          try clear p6
          try clear p64
          try clear q1
          try clear q12
          try clear q121
          try clear q123
          obtain ⟨kq, x86_78, rfl, HA, HJ78, BK120, HB⟩ := hcut
          cases kq with
          | zero => exact absurd HA.out (by simp [builtin_all.j4])
          | succ kj78 =>
           have H := HA.out
           clear HA
           simp only [builtin_all.j4] at H
           by_cases c81 : x86_78 = true
           ·subst c81
            have H1 : ((builtin_failed.f 3).bind fun bt157 => (some (bt157.1, bt157.2.1, bt157.2.2.1, bt157.2.2.2.1, bt157.2.2.2.2))) = some (r1, r2, r3, r4, r5) := by rw [if_pos rfl] at H; exact H
            clear H
            have H := H1
            clear H1
            replace H := Option.bind_eq_some_iff.mp H
            obtain ⟨⟨t157, t158, t159, t160, t161⟩, A820, H⟩ := H
            replace H : (some (t157, t158, t159, t160, t161)) = some (r1, r2, r3, r4, r5) := H
            have A82 := Aside0.mk A820
            clear A820
            simp only [Option.some.injEq, Prod.mk.injEq] at H
            obtain ⟨rfl, rfl, rfl, rfl, rfl⟩ := H
            go_wp2_with (first | ((with_reducible refine gate_callee (f := 54) rfl ?_); refine goesL_ (some 94) rfl rfl Tryz.func54 (by kernel_rfl) rfl #[.int .i64 3] rfl (by (try simp only [List.map_toArray, List.map_cons, List.map_nil]); first | done | rfl) ?_; (with_reducible refine (builtin_failed.calls 3 t157 t158 t159 t160 t161 _ A82.out).mono ?_); rintro e w83 ⟨rfl, hb⟩; refine ⟨_, rfl, ?_⟩; have n0_ := Aside0.mk (blk_below (g := gb120) (o := .cells #[.int .i64 0, .int .i64 0, .string (⟨#[]⟩ : ByteArray), .bool false, .int .i64 0] 24 (0, 0)) (by (with_reducible repeat (first | refine blk_drewN ?_ _ | refine blk_drew ?_ | refine blk_alloc ?_ _)); exact BK120.out) hb); have n1_ := Aside0.mk (below_step (by repeat (first | (with_reducible first | exact HB.out | apply bA | apply bN | apply bD | refine below_set ?_ GE120.out) | exact HB.out)) hb); clear BK120; clear HB; have BK120 := n0_; have HB := n1_; clear n0_ n1_; (try clear hb); (try clear hb2); (try clear hk); (try clear hi); obtain ⟨hcz84_0, hcz84_1, hcz84_2, hcz84_3, hcz84_4, hfz84_0, hfz84_1, hfz84_2, hfz84_3, hfz84_4⟩ := five BK120.out))
            refine bodyPost_ret (results_cell_row rfl _ _ gb120 24 #[.int .i64 t157, .int .i64 t158, .string t159, .bool t160, .int .i64 t161] (0, 0) _ rfl (by (with_reducible repeat (first | refine blk_drewN ?_ _ | refine blk_drew ?_ | refine blk_alloc ?_ _)); refine blk_put (cs := #[.int .i64 t157, .int .i64 t158, .string t159, .bool t160, .int .i64 0]) ?_ 4 _ rfl; (with_reducible repeat (first | refine blk_drewN ?_ _ | refine blk_drew ?_ | refine blk_alloc ?_ _)); refine blk_put (cs := #[.int .i64 t157, .int .i64 t158, .string t159, .bool false, .int .i64 0]) ?_ 3 _ rfl; (with_reducible repeat (first | refine blk_drewN ?_ _ | refine blk_drew ?_ | refine blk_alloc ?_ _)); refine blk_put (cs := #[.int .i64 t157, .int .i64 t158, .string (⟨#[]⟩ : ByteArray), .bool false, .int .i64 0]) ?_ 2 _ rfl; (with_reducible repeat (first | refine blk_drewN ?_ _ | refine blk_drew ?_ | refine blk_alloc ?_ _)); refine blk_put (cs := #[.int .i64 t157, .int .i64 0, .string (⟨#[]⟩ : ByteArray), .bool false, .int .i64 0]) ?_ 1 _ rfl; (with_reducible repeat (first | refine blk_drewN ?_ _ | refine blk_drew ?_ | refine blk_alloc ?_ _)); refine blk_put (cs := #[.int .i64 0, .int .i64 0, .string (⟨#[]⟩ : ByteArray), .bool false, .int .i64 0]) ?_ 0 _ rfl; (with_reducible repeat (first | refine blk_drewN ?_ _ | refine blk_drew ?_ | refine blk_alloc ?_ _)); exact BK120.out) Tryz.underlying24 rfl (by kernel_rfl)) rfl ?_
            exact ⟨by first | rfl | (simp; done) | (simp [*]; done) | (simp <;> rfl) | (simp [*] <;> rfl), by repeat (first | (with_reducible first | exact HB.out | apply bA | apply bN | apply bD | refine below_set ?_ GE120.out) | exact HB.out)⟩
           ·replace c81 := Bool.eq_false_iff.mpr c81
            subst c81
            have H1 : (if t156 = true then (builtin_all.j5 kj78 a0 t142 t155 (!t143)) else (builtin_all.j5 kj78 a0 t142 t155 true)) = some (r1, r2, r3, r4, r5) := by rw [if_neg (show ¬ (false = true) by decide)] at H; exact H
            clear H
            have H := H1
            clear H1
            have HC85 := Aside0.mk H
            clear H
            go_upto_region 28 with (fail)
            go_cut [95] (fun v95 wc => ∃ (kq : Nat) (x95_84 : Bool), v95 = .bool x95_84 ∧ Aside0 (builtin_all.j5 kq a0 t142 t155 x95_84 = some (r1, r2, r3, r4, r5)) ∧ Aside0 (kq ≤ kj78) ∧ Aside0 (wc.heap[gb120]? = some (.cells #[.int .i64 0, .int .i64 0, .string (⟨#[]⟩ : ByteArray), .bool false, .int .i64 0] 24 (0, 0))) ∧ Aside0 (Below w.heap.size w wc))
            case first =>
             have H := HC85.out
             clear HC85
             by_cases c86 : t156 = true
             ·subst c86
              have H1 : (builtin_all.j5 kj78 a0 t142 t155 (!t143)) = some (r1, r2, r3, r4, r5) := by rw [if_pos rfl] at H; exact H
              clear H
              have H := H1
              clear H1
              have H' := Aside0.mk H
              clear H
              go_wp2
              go_meet
              case rel => exact ⟨_, (!t143), (by first | rfl | (simp; done) | (simp [*]; done)), H', ⟨by have := HK1.out; have := HJ69.out; have := HJ78.out; first | omega | exact Nat.le_refl _⟩, ⟨by (with_reducible repeat (first | refine blk_drewN ?_ _ | refine blk_drew ?_ | refine blk_alloc ?_ _)); exact BK120.out⟩, ⟨by repeat (first | (with_reducible first | exact HB.out | apply bA | apply bN | apply bD | refine below_set ?_ GE120.out) | exact HB.out)⟩⟩
             ·replace c86 := Bool.eq_false_iff.mpr c86
              subst c86
              have H1 : (builtin_all.j5 kj78 a0 t142 t155 true) = some (r1, r2, r3, r4, r5) := by rw [if_neg (show ¬ (false = true) by decide)] at H; exact H
              clear H
              have H := H1
              clear H1
              have H' := Aside0.mk H
              clear H
              go_wp2
              go_meet
              case rel => exact ⟨_, (true), (by first | rfl | (simp; done) | (simp [*]; done)), H', ⟨by have := HK1.out; have := HJ69.out; have := HJ78.out; first | omega | exact Nat.le_refl _⟩, ⟨by (with_reducible repeat (first | refine blk_drewN ?_ _ | refine blk_drew ?_ | refine blk_alloc ?_ _)); exact BK120.out⟩, ⟨by repeat (first | (with_reducible first | exact HB.out | apply bA | apply bN | apply bD | refine below_set ?_ GE120.out) | exact HB.out)⟩⟩
            case rest =>
             clear HC85
             try clear c1
             try clear p1
             try clear q1
             try clear hx1
             try clear c2
             try clear p2
             try clear c3
             try clear c4
             try clear c4b0
             try clear c5
             try clear c5b0
             try clear c6
             try clear c6b0
             try clear p6
             try clear c7
             try clear c8
             try clear c10
             try clear c10b0
             try clear c11
             try clear c11b0
             try clear c12
             try clear c12b0
             try clear p12
             try clear q12
             try clear hx12
             try clear c16
             try clear c17
             try clear c23
             try clear c23b0
             try clear c24
             try clear c24b0
             try clear c24b1
             try clear c25
             try clear c26
             try clear c26b0
             try clear c26b1
             try clear c28
             try clear c29
             try clear c30
             try clear c31
             try clear c35
             try clear c36
             try clear c37
             try clear c40
             try clear c41
             try clear c43
             try clear c43b0
             try clear c43b1
             try clear c44
             try clear c45
             try clear c46
             try clear c47
             try clear c48
             try clear c53
             try clear c54
             try clear c55
             try clear c57
             try clear c58
             try clear c60
             try clear c60b0
             try clear p64
             try clear c65
             try clear c65b0
             try clear c65b1
             try clear c72
             try clear c72b0
             try clear c72b1
             try clear c73
             try clear c80
             try clear c80b0
             try clear c80b1
             try clear c81
             try clear c82
             try clear c83
             try clear c84
             try clear c86
             try clear hcz18_0
             try clear hcz18_1
             try clear hcz18_2
             try clear hcz18_3
             try clear hcz18_4
             try clear hcz32_0
             try clear hcz32_1
             try clear hcz32_2
             try clear hcz32_3
             try clear hcz32_4
             try clear hcz34_0
             try clear hcz34_1
             try clear hcz34_2
             try clear hcz34_3
             try clear hcz34_4
             try clear hcz38_0
             try clear hcz38_1
             try clear hcz38_2
             try clear hcz38_3
             try clear hcz38_4
             try clear hcz42_0
             try clear hcz42_1
             try clear hcz42_2
             try clear hcz42_3
             try clear hcz42_4
             try clear hcz49_0
             try clear hcz49_1
             try clear hcz49_2
             try clear hcz49_3
             try clear hcz49_4
             try clear hcz51_0
             try clear hcz51_1
             try clear hcz51_2
             try clear hcz51_3
             try clear hcz51_4
             try clear hcz55_0
             try clear hcz55_1
             try clear hcz55_2
             try clear hcz55_3
             try clear hcz55_4
             try clear hcz59_0
             try clear hcz59_1
             try clear hcz59_2
             try clear hcz59_3
             try clear hcz59_4
             try clear hcz63_0
             try clear hcz63_1
             try clear hcz63_2
             try clear hcz63_3
             try clear hcz63_4
             try clear hcz69_0
             try clear hcz69_1
             try clear hcz69_2
             try clear hcz69_3
             try clear hcz69_4
             try clear hcz77_0
             try clear hcz77_1
             try clear hcz77_2
             try clear hcz77_3
             try clear hcz77_4
             try clear hcz84_0
             try clear hcz84_1
             try clear hcz84_2
             try clear hcz84_3
             try clear hcz84_4
             try clear hcz9_0
             try clear hcz9_1
             try clear hfz18_0
             try clear hfz18_1
             try clear hfz18_2
             try clear hfz18_3
             try clear hfz18_4
             try clear hfz32_0
             try clear hfz32_1
             try clear hfz32_2
             try clear hfz32_3
             try clear hfz32_4
             try clear hfz34_0
             try clear hfz34_1
             try clear hfz34_2
             try clear hfz34_3
             try clear hfz34_4
             try clear hfz38_0
             try clear hfz38_1
             try clear hfz38_2
             try clear hfz38_3
             try clear hfz38_4
             try clear hfz42_0
             try clear hfz42_1
             try clear hfz42_2
             try clear hfz42_3
             try clear hfz42_4
             try clear hfz49_0
             try clear hfz49_1
             try clear hfz49_2
             try clear hfz49_3
             try clear hfz49_4
             try clear hfz51_0
             try clear hfz51_1
             try clear hfz51_2
             try clear hfz51_3
             try clear hfz51_4
             try clear hfz55_0
             try clear hfz55_1
             try clear hfz55_2
             try clear hfz55_3
             try clear hfz55_4
             try clear hfz59_0
             try clear hfz59_1
             try clear hfz59_2
             try clear hfz59_3
             try clear hfz59_4
             try clear hfz63_0
             try clear hfz63_1
             try clear hfz63_2
             try clear hfz63_3
             try clear hfz63_4
             try clear hfz69_0
             try clear hfz69_1
             try clear hfz69_2
             try clear hfz69_3
             try clear hfz69_4
             try clear hfz77_0
             try clear hfz77_1
             try clear hfz77_2
             try clear hfz77_3
             try clear hfz77_4
             try clear hfz84_0
             try clear hfz84_1
             try clear hfz84_2
             try clear hfz84_3
             try clear hfz84_4
             try clear hfz9_0
             try clear hfz9_1
             try clear hx121_0
             try clear hx121_1
             try clear hx123_0
             try clear hx123_1
             try clear hx123_2
             try clear hx123_3
             try clear hx123_4
             try clear p1
             try clear p12
             try clear p121
             try clear p123
             try clear p2
             try clear p6
             try clear p64
             try clear q1
             try clear q12
             try clear q121
             try clear q123
             obtain ⟨kq, x95_84, rfl, HA, HJ84, BK120, HB⟩ := hcut
             cases kq with
             | zero => exact absurd HA.out (by simp [builtin_all.j5])
             | succ kj84 =>
              have H := HA.out
              clear HA
              simp only [builtin_all.j5] at H
              by_cases c87 : x95_84 = true
              ·subst c87
               have H1 : ((builtin_failed.f 4).bind fun bt162 => (some (bt162.1, bt162.2.1, bt162.2.2.1, bt162.2.2.2.1, bt162.2.2.2.2))) = some (r1, r2, r3, r4, r5) := by rw [if_pos rfl] at H; exact H
               clear H
               have H := H1
               clear H1
               replace H := Option.bind_eq_some_iff.mp H
               obtain ⟨⟨t162, t163, t164, t165, t166⟩, A880, H⟩ := H
               replace H : (some (t162, t163, t164, t165, t166)) = some (r1, r2, r3, r4, r5) := H
               have A88 := Aside0.mk A880
               clear A880
               simp only [Option.some.injEq, Prod.mk.injEq] at H
               obtain ⟨rfl, rfl, rfl, rfl, rfl⟩ := H
               go_wp2_with (first | ((with_reducible refine gate_callee (f := 54) rfl ?_); refine goesL_ (some 102) rfl rfl Tryz.func54 (by kernel_rfl) rfl #[.int .i64 4] rfl (by (try simp only [List.map_toArray, List.map_cons, List.map_nil]); first | done | rfl) ?_; (with_reducible refine (builtin_failed.calls 4 t162 t163 t164 t165 t166 _ A88.out).mono ?_); rintro e w89 ⟨rfl, hb⟩; refine ⟨_, rfl, ?_⟩; have n0_ := Aside0.mk (blk_below (g := gb120) (o := .cells #[.int .i64 0, .int .i64 0, .string (⟨#[]⟩ : ByteArray), .bool false, .int .i64 0] 24 (0, 0)) (by (with_reducible repeat (first | refine blk_drewN ?_ _ | refine blk_drew ?_ | refine blk_alloc ?_ _)); exact BK120.out) hb); have n1_ := Aside0.mk (below_step (by repeat (first | (with_reducible first | exact HB.out | apply bA | apply bN | apply bD | refine below_set ?_ GE120.out) | exact HB.out)) hb); clear BK120; clear HB; have BK120 := n0_; have HB := n1_; clear n0_ n1_; (try clear hb); (try clear hb2); (try clear hk); (try clear hi); obtain ⟨hcz90_0, hcz90_1, hcz90_2, hcz90_3, hcz90_4, hfz90_0, hfz90_1, hfz90_2, hfz90_3, hfz90_4⟩ := five BK120.out))
               refine bodyPost_ret (results_cell_row rfl _ _ gb120 24 #[.int .i64 t162, .int .i64 t163, .string t164, .bool t165, .int .i64 t166] (0, 0) _ rfl (by (with_reducible repeat (first | refine blk_drewN ?_ _ | refine blk_drew ?_ | refine blk_alloc ?_ _)); refine blk_put (cs := #[.int .i64 t162, .int .i64 t163, .string t164, .bool t165, .int .i64 0]) ?_ 4 _ rfl; (with_reducible repeat (first | refine blk_drewN ?_ _ | refine blk_drew ?_ | refine blk_alloc ?_ _)); refine blk_put (cs := #[.int .i64 t162, .int .i64 t163, .string t164, .bool false, .int .i64 0]) ?_ 3 _ rfl; (with_reducible repeat (first | refine blk_drewN ?_ _ | refine blk_drew ?_ | refine blk_alloc ?_ _)); refine blk_put (cs := #[.int .i64 t162, .int .i64 t163, .string (⟨#[]⟩ : ByteArray), .bool false, .int .i64 0]) ?_ 2 _ rfl; (with_reducible repeat (first | refine blk_drewN ?_ _ | refine blk_drew ?_ | refine blk_alloc ?_ _)); refine blk_put (cs := #[.int .i64 t162, .int .i64 0, .string (⟨#[]⟩ : ByteArray), .bool false, .int .i64 0]) ?_ 1 _ rfl; (with_reducible repeat (first | refine blk_drewN ?_ _ | refine blk_drew ?_ | refine blk_alloc ?_ _)); refine blk_put (cs := #[.int .i64 0, .int .i64 0, .string (⟨#[]⟩ : ByteArray), .bool false, .int .i64 0]) ?_ 0 _ rfl; (with_reducible repeat (first | refine blk_drewN ?_ _ | refine blk_drew ?_ | refine blk_alloc ?_ _)); exact BK120.out) Tryz.underlying24 rfl (by kernel_rfl)) rfl ?_
               exact ⟨by first | rfl | (simp; done) | (simp [*]; done) | (simp <;> rfl) | (simp [*] <;> rfl), by repeat (first | (with_reducible first | exact HB.out | apply bA | apply bN | apply bD | refine below_set ?_ GE120.out) | exact HB.out)⟩
              ·replace c87 := Bool.eq_false_iff.mpr c87
               subst c87
               have H1 : (if a0.toList = ([65, 86, 69, 82, 65, 71, 69] : List UInt8) then ((div_.f t155 t142).bind fun bt167 => ((builtin_number.f bt167.1).bind fun bt169 => (some (bt169.1, bt169.2.1, bt169.2.2.1, bt169.2.2.2.1, bt169.2.2.2.2)))) else ((builtin_number.f t155).bind fun bt174 => (some (bt174.1, bt174.2.1, bt174.2.2.1, bt174.2.2.2.1, bt174.2.2.2.2)))) = some (r1, r2, r3, r4, r5) := by rw [if_neg (show ¬ (false = true) by decide)] at H; exact H
               clear H
               have H := H1
               clear H1
               by_cases c91 : a0.toList = ([65, 86, 69, 82, 65, 71, 69] : List UInt8)
               ·rw [if_pos c91] at H
                have c91b0 : (a0.toList == ([65, 86, 69, 82, 65, 71, 69] : List UInt8)) = true := beq_iff_eq.mpr c91
                have c91b1 : (a0.toList != ([65, 86, 69, 82, 65, 71, 69] : List UInt8)) = false := bne_eq_false_iff_eq.mpr c91
                clear c91
                replace H := Option.bind_eq_some_iff.mp H
                obtain ⟨⟨t167, t168⟩, A920, H⟩ := H
                replace H : ((builtin_number.f t167).bind fun bt169 => (some (bt169.1, bt169.2.1, bt169.2.2.1, bt169.2.2.2.1, bt169.2.2.2.2))) = some (r1, r2, r3, r4, r5) := H
                have A92 := Aside0.mk A920
                clear A920
                replace H := Option.bind_eq_some_iff.mp H
                obtain ⟨⟨t169, t170, t171, t172, t173⟩, A930, H⟩ := H
                replace H : (some (t169, t170, t171, t172, t173)) = some (r1, r2, r3, r4, r5) := H
                have A93 := Aside0.mk A930
                clear A930
                simp only [Option.some.injEq, Prod.mk.injEq] at H
                obtain ⟨rfl, rfl, rfl, rfl, rfl⟩ := H
                go_wp2_with (first | ((with_reducible refine gate_callee (f := 85) rfl ?_); refine goesL_ (some 109) rfl rfl Tryz.func85 (by kernel_rfl) rfl #[.int .i64 t155, .int .i64 t142] rfl (by (try simp only [List.map_toArray, List.map_cons, List.map_nil]); first | done | rfl) ?_; (with_reducible refine (div_.calls t155 t142 t167 t168 _ A92.out).mono ?_); rintro e w' ⟨rfl, ⟨nd, rfl⟩⟩; refine ⟨_, rfl, ?_⟩; (try (rw [drewN_self wc]; generalize hq_ : World.drewN wc _ = wc; have n0_ : Aside0 (wc.heap[gb120]? = some (.cells #[.int .i64 0, .int .i64 0, .string (⟨#[]⟩ : ByteArray), .bool false, .int .i64 0] 24 (0, 0))) := ⟨by rw [← hq_]; exact (by (with_reducible repeat (first | refine blk_drewN ?_ _ | refine blk_drew ?_ | refine blk_alloc ?_ _)); exact BK120.out)⟩; have n1_ : Aside0 (Below w.heap.size w wc) := ⟨by rw [← hq_]; exact (by repeat (first | (with_reducible first | exact HB.out | apply bA | apply bN | apply bD | refine below_set ?_ GE120.out) | exact HB.out))⟩; clear BK120 HB hq_; have BK120 := n0_; have HB := n1_; clear n0_ n1_))) | ((with_reducible refine gate_callee (f := 82) rfl ?_); refine goesL_ (some 113) rfl rfl Tryz.func82 (by kernel_rfl) rfl #[.int .i64 t167] rfl (by (try simp only [List.map_toArray, List.map_cons, List.map_nil]); first | done | rfl) ?_; (with_reducible refine (builtin_number.calls t167 t169 t170 t171 t172 t173 _ A93.out).mono ?_); rintro e w94 ⟨rfl, hb⟩; refine ⟨_, rfl, ?_⟩; have n0_ := Aside0.mk (blk_below (g := gb120) (o := .cells #[.int .i64 0, .int .i64 0, .string (⟨#[]⟩ : ByteArray), .bool false, .int .i64 0] 24 (0, 0)) (by (with_reducible repeat (first | refine blk_drewN ?_ _ | refine blk_drew ?_ | refine blk_alloc ?_ _)); exact BK120.out) hb); have n1_ := Aside0.mk (below_step (by repeat (first | (with_reducible first | exact HB.out | apply bA | apply bN | apply bD | refine below_set ?_ GE120.out) | exact HB.out)) hb); clear BK120; clear HB; have BK120 := n0_; have HB := n1_; clear n0_ n1_; (try clear hb); (try clear hb2); (try clear hk); (try clear hi); obtain ⟨hcz95_0, hcz95_1, hcz95_2, hcz95_3, hcz95_4, hfz95_0, hfz95_1, hfz95_2, hfz95_3, hfz95_4⟩ := five BK120.out))
                refine bodyPost_ret (results_cell_row rfl _ _ gb120 24 #[.int .i64 t169, .int .i64 t170, .string t171, .bool t172, .int .i64 t173] (0, 0) _ rfl (by (with_reducible repeat (first | refine blk_drewN ?_ _ | refine blk_drew ?_ | refine blk_alloc ?_ _)); refine blk_put (cs := #[.int .i64 t169, .int .i64 t170, .string t171, .bool t172, .int .i64 0]) ?_ 4 _ rfl; (with_reducible repeat (first | refine blk_drewN ?_ _ | refine blk_drew ?_ | refine blk_alloc ?_ _)); refine blk_put (cs := #[.int .i64 t169, .int .i64 t170, .string t171, .bool false, .int .i64 0]) ?_ 3 _ rfl; (with_reducible repeat (first | refine blk_drewN ?_ _ | refine blk_drew ?_ | refine blk_alloc ?_ _)); refine blk_put (cs := #[.int .i64 t169, .int .i64 t170, .string (⟨#[]⟩ : ByteArray), .bool false, .int .i64 0]) ?_ 2 _ rfl; (with_reducible repeat (first | refine blk_drewN ?_ _ | refine blk_drew ?_ | refine blk_alloc ?_ _)); refine blk_put (cs := #[.int .i64 t169, .int .i64 0, .string (⟨#[]⟩ : ByteArray), .bool false, .int .i64 0]) ?_ 1 _ rfl; (with_reducible repeat (first | refine blk_drewN ?_ _ | refine blk_drew ?_ | refine blk_alloc ?_ _)); refine blk_put (cs := #[.int .i64 0, .int .i64 0, .string (⟨#[]⟩ : ByteArray), .bool false, .int .i64 0]) ?_ 0 _ rfl; (with_reducible repeat (first | refine blk_drewN ?_ _ | refine blk_drew ?_ | refine blk_alloc ?_ _)); exact BK120.out) Tryz.underlying24 rfl (by kernel_rfl)) rfl ?_
                exact ⟨by first | rfl | (simp; done) | (simp [*]; done) | (simp <;> rfl) | (simp [*] <;> rfl), by repeat (first | (with_reducible first | exact HB.out | apply bA | apply bN | apply bD | refine below_set ?_ GE120.out) | exact HB.out)⟩
               ·rw [if_neg c91] at H
                have c91b0 : (a0.toList == ([65, 86, 69, 82, 65, 71, 69] : List UInt8)) = false := beq_eq_false_iff_ne.mpr c91
                have c91b1 : (a0.toList != ([65, 86, 69, 82, 65, 71, 69] : List UInt8)) = true := bne_iff_ne.mpr c91
                replace H := Option.bind_eq_some_iff.mp H
                obtain ⟨⟨t174, t175, t176, t177, t178⟩, A960, H⟩ := H
                replace H : (some (t174, t175, t176, t177, t178)) = some (r1, r2, r3, r4, r5) := H
                have A96 := Aside0.mk A960
                clear A960
                simp only [Option.some.injEq, Prod.mk.injEq] at H
                obtain ⟨rfl, rfl, rfl, rfl, rfl⟩ := H
                go_wp2_with (first | ((with_reducible refine gate_callee (f := 82) rfl ?_); refine goesL_ (some 113) rfl rfl Tryz.func82 (by kernel_rfl) rfl #[.int .i64 t155] rfl (by (try simp only [List.map_toArray, List.map_cons, List.map_nil]); first | done | rfl) ?_; (with_reducible refine (builtin_number.calls t155 t174 t175 t176 t177 t178 _ A96.out).mono ?_); rintro e w97 ⟨rfl, hb⟩; refine ⟨_, rfl, ?_⟩; have n0_ := Aside0.mk (blk_below (g := gb120) (o := .cells #[.int .i64 0, .int .i64 0, .string (⟨#[]⟩ : ByteArray), .bool false, .int .i64 0] 24 (0, 0)) (by (with_reducible repeat (first | refine blk_drewN ?_ _ | refine blk_drew ?_ | refine blk_alloc ?_ _)); exact BK120.out) hb); have n1_ := Aside0.mk (below_step (by repeat (first | (with_reducible first | exact HB.out | apply bA | apply bN | apply bD | refine below_set ?_ GE120.out) | exact HB.out)) hb); clear BK120; clear HB; have BK120 := n0_; have HB := n1_; clear n0_ n1_; (try clear hb); (try clear hb2); (try clear hk); (try clear hi); obtain ⟨hcz98_0, hcz98_1, hcz98_2, hcz98_3, hcz98_4, hfz98_0, hfz98_1, hfz98_2, hfz98_3, hfz98_4⟩ := five BK120.out))
                refine bodyPost_ret (results_cell_row rfl _ _ gb120 24 #[.int .i64 t174, .int .i64 t175, .string t176, .bool t177, .int .i64 t178] (0, 0) _ rfl (by (with_reducible repeat (first | refine blk_drewN ?_ _ | refine blk_drew ?_ | refine blk_alloc ?_ _)); refine blk_put (cs := #[.int .i64 t174, .int .i64 t175, .string t176, .bool t177, .int .i64 0]) ?_ 4 _ rfl; (with_reducible repeat (first | refine blk_drewN ?_ _ | refine blk_drew ?_ | refine blk_alloc ?_ _)); refine blk_put (cs := #[.int .i64 t174, .int .i64 t175, .string t176, .bool false, .int .i64 0]) ?_ 3 _ rfl; (with_reducible repeat (first | refine blk_drewN ?_ _ | refine blk_drew ?_ | refine blk_alloc ?_ _)); refine blk_put (cs := #[.int .i64 t174, .int .i64 t175, .string (⟨#[]⟩ : ByteArray), .bool false, .int .i64 0]) ?_ 2 _ rfl; (with_reducible repeat (first | refine blk_drewN ?_ _ | refine blk_drew ?_ | refine blk_alloc ?_ _)); refine blk_put (cs := #[.int .i64 t174, .int .i64 0, .string (⟨#[]⟩ : ByteArray), .bool false, .int .i64 0]) ?_ 1 _ rfl; (with_reducible repeat (first | refine blk_drewN ?_ _ | refine blk_drew ?_ | refine blk_alloc ?_ _)); refine blk_put (cs := #[.int .i64 0, .int .i64 0, .string (⟨#[]⟩ : ByteArray), .bool false, .int .i64 0]) ?_ 0 _ rfl; (with_reducible repeat (first | refine blk_drewN ?_ _ | refine blk_drew ?_ | refine blk_alloc ?_ _)); exact BK120.out) Tryz.underlying24 rfl (by kernel_rfl)) rfl ?_
                exact ⟨by first | rfl | (simp; done) | (simp [*]; done) | (simp <;> rfl) | (simp [*] <;> rfl), by repeat (first | (with_reducible first | exact HB.out | apply bA | apply bN | apply bD | refine below_set ?_ GE120.out) | exact HB.out)⟩
end Go.Proofs.YtfnbflhoaemmeaaGreatDoor.EBui
end
section
namespace Go.Proofs.YtfnbflhoaemmeaaGreatDoor.EBui
open Go.RowKit Go.Proofs.YtfnbflhoaemmeaaGreatDoor.Ext Go.Proofs.YtfnbflhoaemmeaaGreatDoor.EFxA Go.Proofs.YtfnbflhoaemmeaaGreatDoor.EFix Go.Proofs.YtfnbflhoaemmeaaGreatDoor.EVal Go.Proofs.YtfnbflhoaemmeaaGreatDoorW.PrintWords Go.Proofs.YtfnbflhoaemmeaaGreatDoorW.PrintLast Go.Proofs.YtfnbflhoaemmeaaGreatDoorW.PrintMore
attribute [local go_sem] max2_int min2_int max_two min_two max_three min_three max_four min_four   
set_option linter.unusedVariables false
set_option linter.unusedSimpArgs false
def builtin_truth.f (a0 : Bool) : Option (Int × Int × ByteArray × Bool × Int) := some (3, 0, (⟨#[]⟩ : ByteArray), a0, 0)
set_option maxHeartbeats 8000000 in
set_option maxRecDepth 100000 in
theorem builtin_truth.calls (a0 : Bool) (r1 : Int) (r2 : Int) (r3 : ByteArray) (r4 : Bool) (r5 : Int) (w : World) (h : builtin_truth.f a0 = some (r1, r2, r3, r4, r5)) :
  Calls Tryz.prog 62 #[.bool a0] w fun e w' => e = .returned (.agg #[.int .i64 r1, .int .i64 r2, .string r3, .bool r4, .int .i64 r5]) ∧ Below w.heap.size w w' := by
 have hu24 := Tryz.underlying24
 have HB := Aside0.mk (Below.refl w.heap.size w)
 have H : (some (3, 0, (⟨#[]⟩ : ByteArray), a0, 0)) = some (r1, r2, r3, r4, r5) := h
 clear h
 simp only [Option.some.injEq, Prod.mk.injEq] at H
 obtain ⟨rfl, rfl, rfl, rfl, rfl⟩ := H
 go_enter Tryz.func62, Tryz.ntmps62
 go_wp2_with (first | ((with_reducible refine gate_dst (N := 2) rfl ?_); refine box_event ?hg (N := 2) ?hd (cs := #[.int .i64 0, .int .i64 0, .string (⟨#[]⟩ : ByteArray), .bool false, .int .i64 0]) (t := 24) ?hr ?_; (case hd => rfl); (case hg => rfl); (case hr => first | (go_simp; done) | (go_simp; rfl)); intro gb191 hg w2 hbox hb; have n0_ := Aside0.mk (below_step (by repeat (first | (with_reducible first | exact HB.out | apply bA | apply bN | apply bD) | exact HB.out)) hb); have n1_ := Aside0.mk (hbox); have n2_ := Aside0.mk ((by rw [hg]; exact (below_size (by repeat (first | (with_reducible first | exact HB.out | apply bA | apply bN | apply bD) | exact HB.out))) : w.heap.size ≤ gb191)); have n3_ := Aside0.mk ((by rw [hg]; exact (below_size (by repeat (first | (with_reducible first | exact HB.out | apply bA | apply bN | apply bD) | exact HB.out))) : w.heap.size ≤ gb191)); clear HB; have HB := n0_; have BK191 := n1_; have GW191 := n2_; have GE191 := n3_; clear n0_ n1_ n2_ n3_; clear hb hbox hg; obtain ⟨hcz3_0, hcz3_1, hcz3_2, hcz3_3, hcz3_4, hfz3_0, hfz3_1, hfz3_2, hfz3_3, hfz3_4⟩ := five BK191.out))
 refine bodyPost_ret (results_cell_row rfl _ _ gb191 24 #[.int .i64 3, .int .i64 0, .string (⟨#[]⟩ : ByteArray), .bool a0, .int .i64 0] (0, 0) _ rfl (by (with_reducible repeat (first | refine blk_drewN ?_ _ | refine blk_drew ?_ | refine blk_alloc ?_ _)); refine blk_put (cs := #[.int .i64 3, .int .i64 0, .string (⟨#[]⟩ : ByteArray), .bool a0, .int .i64 0]) ?_ 4 _ rfl; (with_reducible repeat (first | refine blk_drewN ?_ _ | refine blk_drew ?_ | refine blk_alloc ?_ _)); refine blk_put (cs := #[.int .i64 3, .int .i64 0, .string (⟨#[]⟩ : ByteArray), .bool false, .int .i64 0]) ?_ 3 _ rfl; (with_reducible repeat (first | refine blk_drewN ?_ _ | refine blk_drew ?_ | refine blk_alloc ?_ _)); refine blk_put (cs := #[.int .i64 3, .int .i64 0, .string (⟨#[]⟩ : ByteArray), .bool false, .int .i64 0]) ?_ 2 _ rfl; (with_reducible repeat (first | refine blk_drewN ?_ _ | refine blk_drew ?_ | refine blk_alloc ?_ _)); refine blk_put (cs := #[.int .i64 3, .int .i64 0, .string (⟨#[]⟩ : ByteArray), .bool false, .int .i64 0]) ?_ 1 _ rfl; (with_reducible repeat (first | refine blk_drewN ?_ _ | refine blk_drew ?_ | refine blk_alloc ?_ _)); refine blk_put (cs := #[.int .i64 0, .int .i64 0, .string (⟨#[]⟩ : ByteArray), .bool false, .int .i64 0]) ?_ 0 _ rfl; (with_reducible repeat (first | refine blk_drewN ?_ _ | refine blk_drew ?_ | refine blk_alloc ?_ _)); exact BK191.out) Tryz.underlying24 rfl (by kernel_rfl)) rfl ?_
 exact ⟨by first | rfl | (simp; done) | (simp [*]; done) | (simp <;> rfl) | (simp [*] <;> rfl), by repeat (first | (with_reducible first | exact HB.out | apply bA | apply bN | apply bD | refine below_set ?_ GE191.out) | exact HB.out)⟩
end Go.Proofs.YtfnbflhoaemmeaaGreatDoor.EBui
end
