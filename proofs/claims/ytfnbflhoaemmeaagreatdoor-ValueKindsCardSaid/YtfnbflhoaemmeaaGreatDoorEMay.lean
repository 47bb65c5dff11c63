-- Written by extprint.py (wip/tools) out of the translation; Lean checks it.
import Derived.Test.YtfnbflhoaemmeaaGreatDoorEVal0
import Derived.Test.YtfnbflhoaemmeaaGreatDoorEVal1
namespace Go.Proofs.YtfnbflhoaemmeaaGreatDoor.EVal
open Go.RowKit Go.Proofs.YtfnbflhoaemmeaaGreatDoor.Ext Go.Proofs.YtfnbflhoaemmeaaGreatDoor.EFxA Go.Proofs.YtfnbflhoaemmeaaGreatDoor.EFix Go.Proofs.YtfnbflhoaemmeaaGreatDoorW.PrintWords Go.Proofs.YtfnbflhoaemmeaaGreatDoorW.PrintLast Go.Proofs.YtfnbflhoaemmeaaGreatDoorW.PrintMore
attribute [local go_sem] max2_int min2_int max_two min_two max_three min_three max_four min_four   -- for this text's walks alone
set_option linter.unusedVariables false
set_option linter.unusedSimpArgs false

/-! ### value_Name: function 15 -/
def value_Name.f (a0 : Int) : Option (ByteArray) := if a0 = 1 then (some (⟨#[35, 82, 69, 70, 33]⟩ : ByteArray)) else (if a0 = 2 then (some (⟨#[35, 67, 89, 67, 76, 69, 33]⟩ : ByteArray)) else (if a0 = 3 then (some (⟨#[35, 68, 73, 86, 47, 48, 33]⟩ : ByteArray)) else (if a0 = 4 then (some (⟨#[35, 78, 85, 77, 33]⟩ : ByteArray)) else (if a0 = 5 then (some (⟨#[35, 86, 65, 76, 85, 69, 33]⟩ : ByteArray)) else (if a0 = 6 then (some (⟨#[35, 78, 65, 77, 69, 63]⟩ : ByteArray)) else (if a0 = 7 then (some (⟨#[35, 78, 47, 65]⟩ : ByteArray)) else (some (⟨#[]⟩ : ByteArray))))))))
set_option maxHeartbeats 8000000 in
set_option maxRecDepth 100000 in
theorem value_Name.calls (a0 : Int) (r : ByteArray) (w : World) (h : value_Name.f a0 = some r) :
  Calls Tryz.prog 15 #[.int .i64 a0] w fun e w' => e = .returned (.string r) ∧ Drawn0 w w' := by
 have H : (if a0 = 1 then (some (⟨#[35, 82, 69, 70, 33]⟩ : ByteArray)) else (if a0 = 2 then (some (⟨#[35, 67, 89, 67, 76, 69, 33]⟩ : ByteArray)) else (if a0 = 3 then (some (⟨#[35, 68, 73, 86, 47, 48, 33]⟩ : ByteArray)) else (if a0 = 4 then (some (⟨#[35, 78, 85, 77, 33]⟩ : ByteArray)) else (if a0 = 5 then (some (⟨#[35, 86, 65, 76, 85, 69, 33]⟩ : ByteArray)) else (if a0 = 6 then (some (⟨#[35, 78, 65, 77, 69, 63]⟩ : ByteArray)) else (if a0 = 7 then (some (⟨#[35, 78, 47, 65]⟩ : ByteArray)) else (some (⟨#[]⟩ : ByteArray))))))))) = some r := h
 clear h
 by_cases c2 : a0 = 1
 ·rw [if_pos c2] at H
  have c2b0 : (a0 == 1) = true := beq_iff_eq.mpr c2
  have c2b1 : (a0 != 1) = false := bne_eq_false_iff_eq.mpr c2
  clear c2
  obtain rfl := Option.some.inj H
  go_enter Tryz.func15, Tryz.ntmps15
  go_wp2
  go_ret
  exact ⟨by first | rfl | (simp; done) | (simp [*]; done) | (simp; generalize ByteArray.toList _ = l_; cases l_ <;> rfl), by repeat (first | exact Drawn0.refl _ | apply Drawn0.step)⟩
 ·rw [if_neg c2] at H
  have c2b0 : (a0 == 1) = false := beq_eq_false_iff_ne.mpr c2
  have c2b1 : (a0 != 1) = true := bne_iff_ne.mpr c2
  by_cases c3 : a0 = 2
  ·rw [if_pos c3] at H
   have c3b0 : (a0 == 2) = true := beq_iff_eq.mpr c3
   have c3b1 : (a0 != 2) = false := bne_eq_false_iff_eq.mpr c3
   clear c3
   obtain rfl := Option.some.inj H
   go_enter Tryz.func15, Tryz.ntmps15
   go_wp2
   go_ret
   exact ⟨by first | rfl | (simp; done) | (simp [*]; done) | (simp; generalize ByteArray.toList _ = l_; cases l_ <;> rfl), by repeat (first | exact Drawn0.refl _ | apply Drawn0.step)⟩
  ·rw [if_neg c3] at H
   have c3b0 : (a0 == 2) = false := beq_eq_false_iff_ne.mpr c3
   have c3b1 : (a0 != 2) = true := bne_iff_ne.mpr c3
   by_cases c4 : a0 = 3
   ·rw [if_pos c4] at H
    have c4b0 : (a0 == 3) = true := beq_iff_eq.mpr c4
    have c4b1 : (a0 != 3) = false := bne_eq_false_iff_eq.mpr c4
    clear c4
    obtain rfl := Option.some.inj H
    go_enter Tryz.func15, Tryz.ntmps15
    go_wp2
    go_ret
    exact ⟨by first | rfl | (simp; done) | (simp [*]; done) | (simp; generalize ByteArray.toList _ = l_; cases l_ <;> rfl), by repeat (first | exact Drawn0.refl _ | apply Drawn0.step)⟩
   ·rw [if_neg c4] at H
    have c4b0 : (a0 == 3) = false := beq_eq_false_iff_ne.mpr c4
    have c4b1 : (a0 != 3) = true := bne_iff_ne.mpr c4
    by_cases c5 : a0 = 4
    ·rw [if_pos c5] at H
     have c5b0 : (a0 == 4) = true := beq_iff_eq.mpr c5
     have c5b1 : (a0 != 4) = false := bne_eq_false_iff_eq.mpr c5
     clear c5
     obtain rfl := Option.some.inj H
     go_enter Tryz.func15, Tryz.ntmps15
     go_wp2
     go_ret
     exact ⟨by first | rfl | (simp; done) | (simp [*]; done) | (simp; generalize ByteArray.toList _ = l_; cases l_ <;> rfl), by repeat (first | exact Drawn0.refl _ | apply Drawn0.step)⟩
    ·rw [if_neg c5] at H
     have c5b0 : (a0 == 4) = false := beq_eq_false_iff_ne.mpr c5
     have c5b1 : (a0 != 4) = true := bne_iff_ne.mpr c5
     by_cases c6 : a0 = 5
     ·rw [if_pos c6] at H
      have c6b0 : (a0 == 5) = true := beq_iff_eq.mpr c6
      have c6b1 : (a0 != 5) = false := bne_eq_false_iff_eq.mpr c6
      clear c6
      obtain rfl := Option.some.inj H
      go_enter Tryz.func15, Tryz.ntmps15
      go_wp2
      go_ret
      exact ⟨by first | rfl | (simp; done) | (simp [*]; done) | (simp; generalize ByteArray.toList _ = l_; cases l_ <;> rfl), by repeat (first | exact Drawn0.refl _ | apply Drawn0.step)⟩
     ·rw [if_neg c6] at H
      have c6b0 : (a0 == 5) = false := beq_eq_false_iff_ne.mpr c6
      have c6b1 : (a0 != 5) = true := bne_iff_ne.mpr c6
      by_cases c7 : a0 = 6
      ·rw [if_pos c7] at H
       have c7b0 : (a0 == 6) = true := beq_iff_eq.mpr c7
       have c7b1 : (a0 != 6) = false := bne_eq_false_iff_eq.mpr c7
       clear c7
       obtain rfl := Option.some.inj H
       go_enter Tryz.func15, Tryz.ntmps15
       go_wp2
       go_ret
       exact ⟨by first | rfl | (simp; done) | (simp [*]; done) | (simp; generalize ByteArray.toList _ = l_; cases l_ <;> rfl), by repeat (first | exact Drawn0.refl _ | apply Drawn0.step)⟩
      ·rw [if_neg c7] at H
       have c7b0 : (a0 == 6) = false := beq_eq_false_iff_ne.mpr c7
       have c7b1 : (a0 != 6) = true := bne_iff_ne.mpr c7
       by_cases c8 : a0 = 7
       ·rw [if_pos c8] at H
        have c8b0 : (a0 == 7) = true := beq_iff_eq.mpr c8
        have c8b1 : (a0 != 7) = false := bne_eq_false_iff_eq.mpr c8
        clear c8
        obtain rfl := Option.some.inj H
        go_enter Tryz.func15, Tryz.ntmps15
        go_wp2
        go_ret
        exact ⟨by first | rfl | (simp; done) | (simp [*]; done) | (simp; generalize ByteArray.toList _ = l_; cases l_ <;> rfl), by repeat (first | exact Drawn0.refl _ | apply Drawn0.step)⟩
       ·rw [if_neg c8] at H
        have c8b0 : (a0 == 7) = false := beq_eq_false_iff_ne.mpr c8
        have c8b1 : (a0 != 7) = true := bne_iff_ne.mpr c8
        obtain rfl := Option.some.inj H
        go_enter Tryz.func15, Tryz.ntmps15
        go_wp2
        go_ret
        exact ⟨by first | rfl | (simp; done) | (simp [*]; done) | (simp; generalize ByteArray.toList _ = l_; cases l_ <;> rfl), by repeat (first | exact Drawn0.refl _ | apply Drawn0.step)⟩

/-! ### value_May: function 23 -/
def value_May.f (a0_0 : Int) (a0_1 : Int) (a0_2 : ByteArray) (a0_3 : Bool) (a0_4 : Int) : Option (Bool) := if a0_0 = 0 then (if (a0_1 == 0 && (a0_2.toList == ([] : List UInt8) && (!a0_3 && (a0_4 == 0)))) = true then (if (a0_2.size : Int) ≤ 200 then ((utf8_ValidString.f a0_2).bind fun t103 => (some t103)) else (some false)) else (some false)) else (if a0_0 = 1 then (if (a0_2.toList == ([] : List UInt8) && (!a0_3 && (a0_4 == 0))) = true then (if (a0_2.size : Int) ≤ 200 then ((utf8_ValidString.f a0_2).bind fun t104 => (some t104)) else (some false)) else (some false)) else (if a0_0 = 2 then (if (a0_1 == 0 && (!a0_3 && (a0_4 == 0))) = true then (if (a0_2.size : Int) ≤ 200 then ((utf8_ValidString.f a0_2).bind fun t105 => (some t105)) else (some false)) else (some false)) else (if a0_0 = 3 then (if (a0_1 == 0 && (a0_2.toList == ([] : List UInt8) && (a0_4 == 0))) = true then (if (a0_2.size : Int) ≤ 200 then ((utf8_ValidString.f a0_2).bind fun t106 => (some t106)) else (some false)) else (some false)) else (if a0_0 = 4 then ((value_Name.f a0_4).bind fun t107 => (if t107.toList = ([] : List UInt8) then (some false) else (if (a0_1 == 0 && (a0_2.toList == ([] : List UInt8) && (!a0_3))) = true then (if (a0_2.size : Int) ≤ 200 then ((utf8_ValidString.f a0_2).bind fun t108 => (some t108)) else (some false)) else (some false)))) else (some false)))))
def cs5 (k n : Int) (t : ByteArray) (b : Bool) (e : Int) : Array Value := #[.int .i64 k, .int .i64 n, .string t, .bool b, .int .i64 e]
theorem vput {w : World} {g : Nat} {k n : Int} {t : ByteArray} {b : Bool} {e : Int} (h : w.heap[g]? = some (.cells (cs5 k n t b e) 24 (0, 0))) (k' n' : Int) (t' : ByteArray) (b' : Bool) (e' : Int) :
  (((((w.setCell ⟨g, 0, none⟩ (.int .i64 k')).setCell ⟨g, 1, none⟩ (.int .i64 n')).setCell ⟨g, 2, none⟩ (.string t')).setCell ⟨g, 3, none⟩ (.bool b')).setCell ⟨g, 4, none⟩ (.int .i64 e')).heap[g]? = some (.cells (cs5 k' n' t' b' e') 24 (0, 0)) :=
 blk_put (blk_put (blk_put (blk_put (blk_put h 0 _ rfl) 1 _ rfl) 2 _ rfl) 3 _ rfl) 4 _ rfl
theorem vfar {w : World} {g b : Nat} {cs : Array Value} (h : w.heap[b]? = some (.cells cs 24 (0, 0))) (ne : b ≠ g) (v0 v1 v2 v3 v4 : Value) :
  (((((w.setCell ⟨g, 0, none⟩ v0).setCell ⟨g, 1, none⟩ v1).setCell ⟨g, 2, none⟩ v2).setCell ⟨g, 3, none⟩ v3).setCell ⟨g, 4, none⟩ v4).heap[b]? = some (.cells cs 24 (0, 0)) :=
 blk_far (blk_far (blk_far (blk_far (blk_far h ne _) ne _) ne _) ne _) ne _
theorem vbel {w W : World} {g : Nat} (h : Below w.heap.size w W) (ge : w.heap.size ≤ g) (v0 v1 v2 v3 v4 : Value) :
  Below w.heap.size w (((((W.setCell ⟨g, 0, none⟩ v0).setCell ⟨g, 1, none⟩ v1).setCell ⟨g, 2, none⟩ v2).setCell ⟨g, 3, none⟩ v3).setCell ⟨g, 4, none⟩ v4) :=
 below_set (below_set (below_set (below_set (below_set h ge) ge) ge) ge) ge
theorem name_some (e : Int) : ∃ r, value_Name.f e = some r := by
 unfold value_Name.f
 repeat' split
 all_goals exact ⟨_, rfl⟩
set_option maxHeartbeats 8000000 in
set_option maxRecDepth 100000 in
theorem value_May.calls (a0_0 : Int) (a0_1 : Int) (a0_2 : ByteArray) (a0_3 : Bool) (a0_4 : Int) (r : Bool) (w : World) (hL : Aside0 (Lq w)) (h : value_May.f a0_0 a0_1 a0_2 a0_3 a0_4 = some r) :
  Calls Tryz.prog 23 #[.agg #[.int .i64 a0_0, .int .i64 a0_1, .string a0_2, .bool a0_3, .int .i64 a0_4]] w fun e w' => e = .returned (.bool r) ∧ Below w.heap.size w w' := by
 have hu24 := Tryz.underlying24
 have HB := Aside0.mk (Below.refl w.heap.size w)
 obtain ⟨nm, hn⟩ := name_some a0_4
 unfold value_May.f at h
 rw [hn] at h
 have HN := Aside0.mk hn
 have HH := Aside0.mk h
 clear hn h
 go_enter Tryz.func23, Tryz.ntmps23
 go_upto_region 2 with (first | ((with_reducible refine gate_dst (N := 1) rfl ?_); (try (refine gate_guard (by rfl) ?_; dsimp only)); refine box_event ?hg (N := 1) ?hd (cs := cs5 a0_0 a0_1 a0_2 a0_3 a0_4) (t := 24) ?hr ?_; (case hd => rfl); (case hg => rfl); (case hr => first | (go_simp; done) | (go_simp; rfl)); intro gV hg wV hbox hb; have n0_ := Aside0.mk (below_step (by repeat (first | (with_reducible first | exact HB.out | apply bA | apply below_drew | apply bN | apply bD | refine below_set ?_ GES.out) | exact HB.out)) hb); have n1_ := Aside0.mk hbox; clear HB; have HB := n0_; have BKV := n1_; clear n0_ n1_; clear hb hbox hg; have hcz0 : wV.cell? ⟨gV, 0, none⟩ = some (.int .i64 a0_0) := (blk_cell BKV.out 0).trans rfl; have hcz1 : wV.cell? ⟨gV, 1, none⟩ = some (.int .i64 a0_1) := (blk_cell BKV.out 1).trans rfl; have hcz2 : wV.cell? ⟨gV, 2, none⟩ = some (.string a0_2) := (blk_cell BKV.out 2).trans rfl; have hcz3 : wV.cell? ⟨gV, 3, none⟩ = some (.bool a0_3) := (blk_cell BKV.out 3).trans rfl; have hcz4 : wV.cell? ⟨gV, 4, none⟩ = some (.int .i64 a0_4) := (blk_cell BKV.out 4).trans rfl; have hfz0 := blk_frozen BKV.out 0; have hfz1 := blk_frozen BKV.out 1; have hfz2 := blk_frozen BKV.out 2; have hfz3 := blk_frozen BKV.out 3; have hfz4 := blk_frozen BKV.out 4) | ((with_reducible refine gate_dst (N := 3) rfl ?_); (try (refine gate_guard (by rfl) ?_; dsimp only)); refine box_event ?hg (N := 3) ?hd (cs := cs5 0 0 (⟨#[]⟩ : ByteArray) false 0) (t := 24) ?hr ?_; (case hd => rfl); (case hg => rfl); (case hr => first | (go_simp; done) | (go_simp; rfl)); intro gS hg wB hbox hb; have n0_ := Aside0.mk (below_step (by repeat (first | (with_reducible first | exact HB.out | apply bA | apply below_drew | apply bN | apply bD | refine below_set ?_ GES.out) | exact HB.out)) hb); have n1_ := Aside0.mk hbox; have n2_ := Aside0.mk (blk_below (by (with_reducible repeat (first | refine blk_drewN ?_ _ | refine blk_drew ?_ | refine blk_alloc ?_ _)); exact BKV.out) hb); have n3_ := Aside0.mk ((by rw [hg]; exact (below_size (by repeat (first | (with_reducible first | exact HB.out | apply bA | apply below_drew | apply bN | apply bD | refine below_set ?_ GES.out) | exact HB.out))) : w.heap.size ≤ gS)); have n4_ := Aside0.mk ((by rw [hg]; exact Nat.ne_of_lt (blk_lt (by (with_reducible repeat (first | refine blk_drewN ?_ _ | refine blk_drew ?_ | refine blk_alloc ?_ _)); exact BKV.out))) : gV ≠ gS); clear HB BKV; have HB := n0_; have BKS := n1_; have BKV := n2_; have GES := n3_; have NE := n4_; clear n0_ n1_ n2_ n3_ n4_; clear hb hbox hg; have hsz0 : wB.cell? ⟨gS, 0, none⟩ = some (.int .i64 0) := (blk_cell BKS.out 0).trans rfl; have hsz1 : wB.cell? ⟨gS, 1, none⟩ = some (.int .i64 0) := (blk_cell BKS.out 1).trans rfl; have hsz2 : wB.cell? ⟨gS, 2, none⟩ = some (.string (⟨#[]⟩ : ByteArray)) := (blk_cell BKS.out 2).trans rfl; have hsz3 : wB.cell? ⟨gS, 3, none⟩ = some (.bool false) := (blk_cell BKS.out 3).trans rfl; have hsz4 : wB.cell? ⟨gS, 4, none⟩ = some (.int .i64 0) := (blk_cell BKS.out 4).trans rfl; have hgz0 := blk_frozen BKS.out 0; have hgz1 := blk_frozen BKS.out 1; have hgz2 := blk_frozen BKS.out 2; have hgz3 := blk_frozen BKS.out 3; have hgz4 := blk_frozen BKS.out 4))
 (try simp only [Act.put, List.setIfInBounds_toArray, List.set_cons_zero, List.set_cons_succ])
 generalize hW : World.setCell _ ⟨gS, 4, none⟩ _ = wS
 have nV_ : Aside0 (wS.heap[gV]? = some (.cells (cs5 a0_0 a0_1 a0_2 a0_3 a0_4) 24 (0, 0))) := ⟨by rw [← hW]; exact vfar BKV.out NE.out _ _ _ _ _⟩
 have nS_ : Aside0 (wS.heap[gS]? = some (.cells (cs5 a0_0 0 (⟨#[]⟩ : ByteArray) false 0) 24 (0, 0))) := ⟨by rw [← hW]; exact vput BKS.out _ _ _ _ _⟩
 have nB_ : Aside0 (Below w.heap.size w wS) := ⟨by rw [← hW]; exact vbel HB.out GES.out _ _ _ _ _⟩
 clear BKV BKS HB hW hcz0 hfz0 hsz0 hgz0 hcz1 hfz1 hsz1 hgz1 hcz2 hfz2 hsz2 hgz2 hcz3 hfz3 hsz3 hgz3 hcz4 hfz4 hsz4 hgz4
 have BKV := nV_
 have BKS := nS_
 have HB := nB_
 clear nV_ nS_ nB_
 have cv0 : wS.cell? ⟨gV, 0, none⟩ = some (.int .i64 a0_0) := (blk_cell BKV.out 0).trans rfl
 have cvf0 := blk_frozen BKV.out 0
 have cv1 : wS.cell? ⟨gV, 1, none⟩ = some (.int .i64 a0_1) := (blk_cell BKV.out 1).trans rfl
 have cvf1 := blk_frozen BKV.out 1
 have cv2 : wS.cell? ⟨gV, 2, none⟩ = some (.string a0_2) := (blk_cell BKV.out 2).trans rfl
 have cvf2 := blk_frozen BKV.out 2
 have cv3 : wS.cell? ⟨gV, 3, none⟩ = some (.bool a0_3) := (blk_cell BKV.out 3).trans rfl
 have cvf3 := blk_frozen BKV.out 3
 have cv4 : wS.cell? ⟨gV, 4, none⟩ = some (.int .i64 a0_4) := (blk_cell BKV.out 4).trans rfl
 have cvf4 := blk_frozen BKV.out 4
 have cs0 : wS.cell? ⟨gS, 0, none⟩ = some (.int .i64 a0_0) := (blk_cell BKS.out 0).trans rfl
 have csf0 := blk_frozen BKS.out 0
 have cs1 : wS.cell? ⟨gS, 1, none⟩ = some (.int .i64 0) := (blk_cell BKS.out 1).trans rfl
 have csf1 := blk_frozen BKS.out 1
 have cs2 : wS.cell? ⟨gS, 2, none⟩ = some (.string (⟨#[]⟩ : ByteArray)) := (blk_cell BKS.out 2).trans rfl
 have csf2 := blk_frozen BKS.out 2
 have cs3 : wS.cell? ⟨gS, 3, none⟩ = some (.bool false) := (blk_cell BKS.out 3).trans rfl
 have csf3 := blk_frozen BKS.out 3
 have cs4 : wS.cell? ⟨gS, 4, none⟩ = some (.int .i64 0) := (blk_cell BKS.out 4).trans rfl
 have csf4 := blk_frozen BKS.out 4
 have ne1 := NE.out
 have ne2 := Ne.symm ne1
 have h := HH.out
 clear HH
 by_cases k0 : a0_0 = 0
 ·rw [if_pos k0] at h
  have kb0 : (a0_0 == 0) = true := beq_iff_eq.mpr k0
  clear k0
  obtain ⟨q, hq0⟩ : ∃ q, (a0_1 == 0 && (a0_2.toList == ([] : List UInt8) && (!a0_3 && (a0_4 == 0)))) = q := ⟨_, rfl⟩
  rw [hq0] at h
  have hq : ∀ d W, (Op.equalIn (d + 2) 24 (.agg #[.int .i64 a0_0, .int .i64 a0_1, .string a0_2, .bool a0_3, .int .i64 a0_4]) (.agg #[.int .i64 a0_0, .int .i64 0, .string (⟨#[]⟩ : ByteArray), .bool false, .int .i64 0])).run Tryz.prog W = .ok q W := fun d W => by rw [eqA24]; rw [show (a0_0 == a0_0 && (a0_1 == 0 && (a0_2.toList == ((⟨#[]⟩ : ByteArray)).toList && (a0_3 == false && (a0_4 == 0))))) = q from by rw [← hq0]; cases a0_3 <;> simp]
  clear hq0
  cases q with
  | false =>
   rw [if_neg (by decide)] at h
   obtain rfl := Option.some.inj h
   go_wp2
   go_ret
   exact ⟨by first | rfl | (simp; done) | (simp [*]; done), (by repeat (first | (with_reducible first | exact HB.out | apply bA | apply below_drew | apply bN | apply bD | refine below_set ?_ GES.out) | exact HB.out))⟩
  | true =>
   rw [if_pos rfl] at h
   by_cases c4 : (a0_2.size : Int) ≤ 200
   ·rw [if_pos c4] at h
    have c4b0 : decide ((a0_2.size : Int) ≤ 200) = true := decide_eq_true c4
    have c4b1 : decide (a0_2.size ≤ 200) = true := decide_eq_true (by omega)
    clear c4
    obtain ⟨t, ht, h⟩ := Option.bind_eq_some_iff.mp h
    obtain rfl := Option.some.inj h
    have HT := Aside0.mk ht
    clear ht
    go_wp2_with (first | (go_at_call 49; refine (utf8_ValidString.calls a0_2 t _ ⟨hL.out.below (by repeat (first | (with_reducible first | exact HB.out | apply bA | apply below_drew | apply bN | apply bD | refine below_set ?_ GES.out) | exact HB.out))⟩ HT.out).mono ?_; rintro e w' ⟨rfl, hb⟩; have n1_ := Aside0.mk (below_step (by repeat (first | (with_reducible first | exact HB.out | apply bA | apply below_drew | apply bN | apply bD | refine below_set ?_ GES.out) | exact HB.out)) hb); clear HB; have HB := n1_; clear n1_; clear hb))
    go_ret
    exact ⟨by first | rfl | (simp; done) | (simp [*]; done), (by repeat (first | (with_reducible first | exact HB.out | apply bA | apply below_drew | apply bN | apply bD | refine below_set ?_ GES.out) | exact HB.out))⟩
   ·rw [if_neg c4] at h
    have c4b0 : decide ((a0_2.size : Int) ≤ 200) = false := decide_eq_false c4
    have c4b1 : decide (a0_2.size ≤ 200) = false := decide_eq_false (by omega)
    clear c4
    obtain rfl := Option.some.inj h
    go_wp2
    go_ret
    exact ⟨by first | rfl | (simp; done) | (simp [*]; done), (by repeat (first | (with_reducible first | exact HB.out | apply bA | apply below_drew | apply bN | apply bD | refine below_set ?_ GES.out) | exact HB.out))⟩
 rw [if_neg k0] at h
 have kb0 : (a0_0 == 0) = false := beq_eq_false_iff_ne.mpr k0
 by_cases k1 : a0_0 = 1
 ·rw [if_pos k1] at h
  have kb1 : (a0_0 == 1) = true := beq_iff_eq.mpr k1
  clear k1
  obtain ⟨q, hq0⟩ : ∃ q, (a0_2.toList == ([] : List UInt8) && (!a0_3 && (a0_4 == 0))) = q := ⟨_, rfl⟩
  rw [hq0] at h
  have hq : ∀ d W, (Op.equalIn (d + 2) 24 (.agg #[.int .i64 a0_0, .int .i64 a0_1, .string a0_2, .bool a0_3, .int .i64 a0_4]) (.agg #[.int .i64 a0_0, .int .i64 a0_1, .string (⟨#[]⟩ : ByteArray), .bool false, .int .i64 0])).run Tryz.prog W = .ok q W := fun d W => by rw [eqA24]; rw [show (a0_0 == a0_0 && (a0_1 == a0_1 && (a0_2.toList == ((⟨#[]⟩ : ByteArray)).toList && (a0_3 == false && (a0_4 == 0))))) = q from by rw [← hq0]; cases a0_3 <;> simp]
  clear hq0
  cases q with
  | false =>
   rw [if_neg (by decide)] at h
   obtain rfl := Option.some.inj h
   go_wp2
   go_ret
   exact ⟨by first | rfl | (simp; done) | (simp [*]; done), (by repeat (first | (with_reducible first | exact HB.out | apply bA | apply below_drew | apply bN | apply bD | refine below_set ?_ GES.out) | exact HB.out))⟩
  | true =>
   rw [if_pos rfl] at h
   by_cases c4 : (a0_2.size : Int) ≤ 200
   ·rw [if_pos c4] at h
    have c4b0 : decide ((a0_2.size : Int) ≤ 200) = true := decide_eq_true c4
    have c4b1 : decide (a0_2.size ≤ 200) = true := decide_eq_true (by omega)
    clear c4
    obtain ⟨t, ht, h⟩ := Option.bind_eq_some_iff.mp h
    obtain rfl := Option.some.inj h
    have HT := Aside0.mk ht
    clear ht
    go_wp2_with (first | (go_at_call 49; refine (utf8_ValidString.calls a0_2 t _ ⟨hL.out.below (by repeat (first | (with_reducible first | exact HB.out | apply bA | apply below_drew | apply bN | apply bD | refine below_set ?_ GES.out) | exact HB.out))⟩ HT.out).mono ?_; rintro e w' ⟨rfl, hb⟩; have n1_ := Aside0.mk (below_step (by repeat (first | (with_reducible first | exact HB.out | apply bA | apply below_drew | apply bN | apply bD | refine below_set ?_ GES.out) | exact HB.out)) hb); clear HB; have HB := n1_; clear n1_; clear hb))
    go_ret
    exact ⟨by first | rfl | (simp; done) | (simp [*]; done), (by repeat (first | (with_reducible first | exact HB.out | apply bA | apply below_drew | apply bN | apply bD | refine below_set ?_ GES.out) | exact HB.out))⟩
   ·rw [if_neg c4] at h
    have c4b0 : decide ((a0_2.size : Int) ≤ 200) = false := decide_eq_false c4
    have c4b1 : decide (a0_2.size ≤ 200) = false := decide_eq_false (by omega)
    clear c4
    obtain rfl := Option.some.inj h
    go_wp2
    go_ret
    exact ⟨by first | rfl | (simp; done) | (simp [*]; done), (by repeat (first | (with_reducible first | exact HB.out | apply bA | apply below_drew | apply bN | apply bD | refine below_set ?_ GES.out) | exact HB.out))⟩
 rw [if_neg k1] at h
 have kb1 : (a0_0 == 1) = false := beq_eq_false_iff_ne.mpr k1
 by_cases k2 : a0_0 = 2
 ·rw [if_pos k2] at h
  have kb2 : (a0_0 == 2) = true := beq_iff_eq.mpr k2
  clear k2
  obtain ⟨q, hq0⟩ : ∃ q, (a0_1 == 0 && (!a0_3 && (a0_4 == 0))) = q := ⟨_, rfl⟩
  rw [hq0] at h
  have hq : ∀ d W, (Op.equalIn (d + 2) 24 (.agg #[.int .i64 a0_0, .int .i64 a0_1, .string a0_2, .bool a0_3, .int .i64 a0_4]) (.agg #[.int .i64 a0_0, .int .i64 0, .string a0_2, .bool false, .int .i64 0])).run Tryz.prog W = .ok q W := fun d W => by rw [eqA24]; rw [show (a0_0 == a0_0 && (a0_1 == 0 && (a0_2.toList == (a0_2).toList && (a0_3 == false && (a0_4 == 0))))) = q from by rw [← hq0]; cases a0_3 <;> simp]
  clear hq0
  cases q with
  | false =>
   rw [if_neg (by decide)] at h
   obtain rfl := Option.some.inj h
   go_wp2
   go_ret
   exact ⟨by first | rfl | (simp; done) | (simp [*]; done), (by repeat (first | (with_reducible first | exact HB.out | apply bA | apply below_drew | apply bN | apply bD | refine below_set ?_ GES.out) | exact HB.out))⟩
  | true =>
   rw [if_pos rfl] at h
   by_cases c4 : (a0_2.size : Int) ≤ 200
   ·rw [if_pos c4] at h
    have c4b0 : decide ((a0_2.size : Int) ≤ 200) = true := decide_eq_true c4
    have c4b1 : decide (a0_2.size ≤ 200) = true := decide_eq_true (by omega)
    clear c4
    obtain ⟨t, ht, h⟩ := Option.bind_eq_some_iff.mp h
    obtain rfl := Option.some.inj h
    have HT := Aside0.mk ht
    clear ht
    go_wp2_with (first | (go_at_call 49; refine (utf8_ValidString.calls a0_2 t _ ⟨hL.out.below (by repeat (first | (with_reducible first | exact HB.out | apply bA | apply below_drew | apply bN | apply bD | refine below_set ?_ GES.out) | exact HB.out))⟩ HT.out).mono ?_; rintro e w' ⟨rfl, hb⟩; have n1_ := Aside0.mk (below_step (by repeat (first | (with_reducible first | exact HB.out | apply bA | apply below_drew | apply bN | apply bD | refine below_set ?_ GES.out) | exact HB.out)) hb); clear HB; have HB := n1_; clear n1_; clear hb))
    go_ret
    exact ⟨by first | rfl | (simp; done) | (simp [*]; done), (by repeat (first | (with_reducible first | exact HB.out | apply bA | apply below_drew | apply bN | apply bD | refine below_set ?_ GES.out) | exact HB.out))⟩
   ·rw [if_neg c4] at h
    have c4b0 : decide ((a0_2.size : Int) ≤ 200) = false := decide_eq_false c4
    have c4b1 : decide (a0_2.size ≤ 200) = false := decide_eq_false (by omega)
    clear c4
    obtain rfl := Option.some.inj h
    go_wp2
    go_ret
    exact ⟨by first | rfl | (simp; done) | (simp [*]; done), (by repeat (first | (with_reducible first | exact HB.out | apply bA | apply below_drew | apply bN | apply bD | refine below_set ?_ GES.out) | exact HB.out))⟩
 rw [if_neg k2] at h
 have kb2 : (a0_0 == 2) = false := beq_eq_false_iff_ne.mpr k2
 by_cases k3 : a0_0 = 3
 ·rw [if_pos k3] at h
  have kb3 : (a0_0 == 3) = true := beq_iff_eq.mpr k3
  clear k3
  obtain ⟨q, hq0⟩ : ∃ q, (a0_1 == 0 && (a0_2.toList == ([] : List UInt8) && (a0_4 == 0))) = q := ⟨_, rfl⟩
  rw [hq0] at h
  have hq : ∀ d W, (Op.equalIn (d + 2) 24 (.agg #[.int .i64 a0_0, .int .i64 a0_1, .string a0_2, .bool a0_3, .int .i64 a0_4]) (.agg #[.int .i64 a0_0, .int .i64 0, .string (⟨#[]⟩ : ByteArray), .bool a0_3, .int .i64 0])).run Tryz.prog W = .ok q W := fun d W => by rw [eqA24]; rw [show (a0_0 == a0_0 && (a0_1 == 0 && (a0_2.toList == ((⟨#[]⟩ : ByteArray)).toList && (a0_3 == a0_3 && (a0_4 == 0))))) = q from by rw [← hq0]; cases a0_3 <;> simp]
  clear hq0
  cases q with
  | false =>
   rw [if_neg (by decide)] at h
   obtain rfl := Option.some.inj h
   go_wp2
   go_ret
   exact ⟨by first | rfl | (simp; done) | (simp [*]; done), (by repeat (first | (with_reducible first | exact HB.out | apply bA | apply below_drew | apply bN | apply bD | refine below_set ?_ GES.out) | exact HB.out))⟩
  | true =>
   rw [if_pos rfl] at h
   by_cases c4 : (a0_2.size : Int) ≤ 200
   ·rw [if_pos c4] at h
    have c4b0 : decide ((a0_2.size : Int) ≤ 200) = true := decide_eq_true c4
    have c4b1 : decide (a0_2.size ≤ 200) = true := decide_eq_true (by omega)
    clear c4
    obtain ⟨t, ht, h⟩ := Option.bind_eq_some_iff.mp h
    obtain rfl := Option.some.inj h
    have HT := Aside0.mk ht
    clear ht
    go_wp2_with (first | (go_at_call 49; refine (utf8_ValidString.calls a0_2 t _ ⟨hL.out.below (by repeat (first | (with_reducible first | exact HB.out | apply bA | apply below_drew | apply bN | apply bD | refine below_set ?_ GES.out) | exact HB.out))⟩ HT.out).mono ?_; rintro e w' ⟨rfl, hb⟩; have n1_ := Aside0.mk (below_step (by repeat (first | (with_reducible first | exact HB.out | apply bA | apply below_drew | apply bN | apply bD | refine below_set ?_ GES.out) | exact HB.out)) hb); clear HB; have HB := n1_; clear n1_; clear hb))
    go_ret
    exact ⟨by first | rfl | (simp; done) | (simp [*]; done), (by repeat (first | (with_reducible first | exact HB.out | apply bA | apply below_drew | apply bN | apply bD | refine below_set ?_ GES.out) | exact HB.out))⟩
   ·rw [if_neg c4] at h
    have c4b0 : decide ((a0_2.size : Int) ≤ 200) = false := decide_eq_false c4
    have c4b1 : decide (a0_2.size ≤ 200) = false := decide_eq_false (by omega)
    clear c4
    obtain rfl := Option.some.inj h
    go_wp2
    go_ret
    exact ⟨by first | rfl | (simp; done) | (simp [*]; done), (by repeat (first | (with_reducible first | exact HB.out | apply bA | apply below_drew | apply bN | apply bD | refine below_set ?_ GES.out) | exact HB.out))⟩
 rw [if_neg k3] at h
 have kb3 : (a0_0 == 3) = false := beq_eq_false_iff_ne.mpr k3
 by_cases k4 : a0_0 = 4
 ·rw [if_pos k4] at h
  have kb4 : (a0_0 == 4) = true := beq_iff_eq.mpr k4
  clear k4
  rw [Option.bind_some] at h
  by_cases cn : nm.toList = ([] : List UInt8)
  ·rw [if_pos cn] at h
   have cn0 : (nm.toList == ([] : List UInt8)) = true := beq_iff_eq.mpr cn
   have cn1 : nm.toList.isEmpty = true := by rw [cn]; rfl
   clear cn
   obtain rfl := Option.some.inj h
   go_wp2_with (first | ((with_reducible refine gate_callee (f := 15) rfl ?_); refine goesL_ (some 33) rfl rfl Tryz.func15 (by kernel_rfl) rfl #[.int .i64 a0_4] rfl (by (try simp only [List.map_toArray, List.map_cons, List.map_nil]); first | done | rfl) ?_; (refine (value_Name.calls a0_4 nm _ HN.out).mono ?_); rintro e w' ⟨rfl, ⟨nd, rfl⟩⟩; refine ⟨_, rfl, ?_⟩))
   go_ret
   exact ⟨by first | rfl | (simp; done) | (simp [*]; done), (by repeat (first | (with_reducible first | exact HB.out | apply bA | apply below_drew | apply bN | apply bD | refine below_set ?_ GES.out) | exact HB.out))⟩
  ·rw [if_neg cn] at h
   have cn0 : (nm.toList == ([] : List UInt8)) = false := beq_eq_false_iff_ne.mpr cn
   have cn1 : nm.toList.isEmpty = false := by cases hnm : nm.toList with | nil => exact absurd hnm cn | cons _ _ => rfl
   clear cn
   obtain ⟨q, hq0⟩ : ∃ q, (a0_1 == 0 && (a0_2.toList == ([] : List UInt8) && (!a0_3))) = q := ⟨_, rfl⟩
   rw [hq0] at h
   have hq : ∀ d W, (Op.equalIn (d + 2) 24 (.agg #[.int .i64 a0_0, .int .i64 a0_1, .string a0_2, .bool a0_3, .int .i64 a0_4]) (.agg #[.int .i64 a0_0, .int .i64 0, .string (⟨#[]⟩ : ByteArray), .bool false, .int .i64 a0_4])).run Tryz.prog W = .ok q W := fun d W => by rw [eqA24]; rw [show (a0_0 == a0_0 && (a0_1 == 0 && (a0_2.toList == ((⟨#[]⟩ : ByteArray)).toList && (a0_3 == false && (a0_4 == a0_4))))) = q from by rw [← hq0]; cases a0_3 <;> simp]
   clear hq0
   cases q with
   | false =>
    rw [if_neg (by decide)] at h
    obtain rfl := Option.some.inj h
    go_wp2_with (first | ((with_reducible refine gate_callee (f := 15) rfl ?_); refine goesL_ (some 33) rfl rfl Tryz.func15 (by kernel_rfl) rfl #[.int .i64 a0_4] rfl (by (try simp only [List.map_toArray, List.map_cons, List.map_nil]); first | done | rfl) ?_; (refine (value_Name.calls a0_4 nm _ HN.out).mono ?_); rintro e w' ⟨rfl, ⟨nd, rfl⟩⟩; refine ⟨_, rfl, ?_⟩))
    go_ret
    exact ⟨by first | rfl | (simp; done) | (simp [*]; done), (by repeat (first | (with_reducible first | exact HB.out | apply bA | apply below_drew | apply bN | apply bD | refine below_set ?_ GES.out) | exact HB.out))⟩
   | true =>
    rw [if_pos rfl] at h
    by_cases c4 : (a0_2.size : Int) ≤ 200
    ·rw [if_pos c4] at h
     have c4b0 : decide ((a0_2.size : Int) ≤ 200) = true := decide_eq_true c4
     have c4b1 : decide (a0_2.size ≤ 200) = true := decide_eq_true (by omega)
     clear c4
     obtain ⟨t, ht, h⟩ := Option.bind_eq_some_iff.mp h
     obtain rfl := Option.some.inj h
     have HT := Aside0.mk ht
     clear ht
     go_wp2_with (first | ((with_reducible refine gate_callee (f := 15) rfl ?_); refine goesL_ (some 33) rfl rfl Tryz.func15 (by kernel_rfl) rfl #[.int .i64 a0_4] rfl (by (try simp only [List.map_toArray, List.map_cons, List.map_nil]); first | done | rfl) ?_; (refine (value_Name.calls a0_4 nm _ HN.out).mono ?_); rintro e w' ⟨rfl, ⟨nd, rfl⟩⟩; refine ⟨_, rfl, ?_⟩) | (go_at_call 49; refine (utf8_ValidString.calls a0_2 t _ ⟨hL.out.below (by repeat (first | (with_reducible first | exact HB.out | apply bA | apply below_drew | apply bN | apply bD | refine below_set ?_ GES.out) | exact HB.out))⟩ HT.out).mono ?_; rintro e w' ⟨rfl, hb⟩; have n1_ := Aside0.mk (below_step (by repeat (first | (with_reducible first | exact HB.out | apply bA | apply below_drew | apply bN | apply bD | refine below_set ?_ GES.out) | exact HB.out)) hb); clear HB; have HB := n1_; clear n1_; clear hb))
     go_ret
     exact ⟨by first | rfl | (simp; done) | (simp [*]; done), (by repeat (first | (with_reducible first | exact HB.out | apply bA | apply below_drew | apply bN | apply bD | refine below_set ?_ GES.out) | exact HB.out))⟩
    ·rw [if_neg c4] at h
     have c4b0 : decide ((a0_2.size : Int) ≤ 200) = false := decide_eq_false c4
     have c4b1 : decide (a0_2.size ≤ 200) = false := decide_eq_false (by omega)
     clear c4
     obtain rfl := Option.some.inj h
     go_wp2_with (first | ((with_reducible refine gate_callee (f := 15) rfl ?_); refine goesL_ (some 33) rfl rfl Tryz.func15 (by kernel_rfl) rfl #[.int .i64 a0_4] rfl (by (try simp only [List.map_toArray, List.map_cons, List.map_nil]); first | done | rfl) ?_; (refine (value_Name.calls a0_4 nm _ HN.out).mono ?_); rintro e w' ⟨rfl, ⟨nd, rfl⟩⟩; refine ⟨_, rfl, ?_⟩))
     go_ret
     exact ⟨by first | rfl | (simp; done) | (simp [*]; done), (by repeat (first | (with_reducible first | exact HB.out | apply bA | apply below_drew | apply bN | apply bD | refine below_set ?_ GES.out) | exact HB.out))⟩
 rw [if_neg k4] at h
 have kb4 : (a0_0 == 4) = false := beq_eq_false_iff_ne.mpr k4
 obtain rfl := Option.some.inj h
 go_wp2
 go_ret
 exact ⟨by first | rfl | (simp; done) | (simp [*]; done), (by repeat (first | (with_reducible first | exact HB.out | apply bA | apply below_drew | apply bN | apply bD | refine below_set ?_ GES.out) | exact HB.out))⟩
end Go.Proofs.YtfnbflhoaemmeaaGreatDoor.EVal
