-- Written by extprint.py (wip/tools) out of the translation; Lean checks it.
import Derived.Test.YtfnbflhoaemmeaaGreatDoorEVal0
namespace Go.Proofs.YtfnbflhoaemmeaaGreatDoor.EVal
open Go.RowKit Go.Proofs.YtfnbflhoaemmeaaGreatDoor.Ext Go.Proofs.YtfnbflhoaemmeaaGreatDoor.EFxA Go.Proofs.YtfnbflhoaemmeaaGreatDoor.EFix Go.Proofs.YtfnbflhoaemmeaaGreatDoorW.PrintWords Go.Proofs.YtfnbflhoaemmeaaGreatDoorW.PrintLast Go.Proofs.YtfnbflhoaemmeaaGreatDoorW.PrintMore
attribute [local go_sem] max2_int min2_int max_two min_two max_three min_three max_four min_four   -- for this text's walks alone
set_option linter.unusedVariables false
set_option linter.unusedSimpArgs false

/-! ### counterpaneref1_Utf8: function 50 -/
mutual
def counterpaneref1_Utf8.l0 : Nat → ByteArray → Int → Option (Bool)
 | 0, _, _ => none
 | k + 1, x0, x3 => if x3 < (x0.size : Int) then (if 0 ≤ x3 then (if (bt x0 x3) < 128 then (counterpaneref1_Utf8.l0 k x0 (wrap64 (x3 + 1))) else (if (bt x0 x3) ≥ 194 then (counterpaneref1_Utf8.j1 k x0 x3 (bt x0 x3) (decide ((bt x0 x3) ≤ 223))) else (counterpaneref1_Utf8.j1 k x0 x3 (bt x0 x3) false))) else (none)) else (some true)
def counterpaneref1_Utf8.j3 : Nat → ByteArray → Int → Int → Int → Option (Bool)
 | 0, _, _, _, _ => none
 | k + 1, x0, x3, x4, x5 => if (wrap64 (x3 + x5)) ≥ (x0.size : Int) then (some false) else (if 0 ≤ (wrap64 (x3 + 1)) then (if (wrap64 (x3 + 1)) < (x0.size : Int) then (if x4 = 224 then (if (bt x0 (wrap64 (x3 + 1))) < 160 then (counterpaneref1_Utf8.j4 k x0 x3 x5 true) else (if x4 = 237 then (if (bt x0 (wrap64 (x3 + 1))) > 159 then (counterpaneref1_Utf8.j4 k x0 x3 x5 true) else (if x4 = 240 then (if (bt x0 (wrap64 (x3 + 1))) < 144 then (counterpaneref1_Utf8.j4 k x0 x3 x5 true) else (if x4 = 244 then (counterpaneref1_Utf8.j4 k x0 x3 x5 (decide ((bt x0 (wrap64 (x3 + 1))) > 143))) else (counterpaneref1_Utf8.j4 k x0 x3 x5 false))) else (if x4 = 244 then (counterpaneref1_Utf8.j4 k x0 x3 x5 (decide ((bt x0 (wrap64 (x3 + 1))) > 143))) else (counterpaneref1_Utf8.j4 k x0 x3 x5 false)))) else (if x4 = 240 then (if (bt x0 (wrap64 (x3 + 1))) < 144 then (counterpaneref1_Utf8.j4 k x0 x3 x5 true) else (if x4 = 244 then (counterpaneref1_Utf8.j4 k x0 x3 x5 (decide ((bt x0 (wrap64 (x3 + 1))) > 143))) else (counterpaneref1_Utf8.j4 k x0 x3 x5 false))) else (if x4 = 244 then (counterpaneref1_Utf8.j4 k x0 x3 x5 (decide ((bt x0 (wrap64 (x3 + 1))) > 143))) else (counterpaneref1_Utf8.j4 k x0 x3 x5 false))))) else (if x4 = 237 then (if (bt x0 (wrap64 (x3 + 1))) > 159 then (counterpaneref1_Utf8.j4 k x0 x3 x5 true) else (if x4 = 240 then (if (bt x0 (wrap64 (x3 + 1))) < 144 then (counterpaneref1_Utf8.j4 k x0 x3 x5 true) else (if x4 = 244 then (counterpaneref1_Utf8.j4 k x0 x3 x5 (decide ((bt x0 (wrap64 (x3 + 1))) > 143))) else (counterpaneref1_Utf8.j4 k x0 x3 x5 false))) else (if x4 = 244 then (counterpaneref1_Utf8.j4 k x0 x3 x5 (decide ((bt x0 (wrap64 (x3 + 1))) > 143))) else (counterpaneref1_Utf8.j4 k x0 x3 x5 false)))) else (if x4 = 240 then (if (bt x0 (wrap64 (x3 + 1))) < 144 then (counterpaneref1_Utf8.j4 k x0 x3 x5 true) else (if x4 = 244 then (counterpaneref1_Utf8.j4 k x0 x3 x5 (decide ((bt x0 (wrap64 (x3 + 1))) > 143))) else (counterpaneref1_Utf8.j4 k x0 x3 x5 false))) else (if x4 = 244 then (counterpaneref1_Utf8.j4 k x0 x3 x5 (decide ((bt x0 (wrap64 (x3 + 1))) > 143))) else (counterpaneref1_Utf8.j4 k x0 x3 x5 false))))) else (none)) else (none))
def counterpaneref1_Utf8.j4 : Nat → ByteArray → Int → Int → Bool → Option (Bool)
 | 0, _, _, _, _ => none
 | k + 1, x0, x3, x5, x80 => if x80 = true then (some false) else (counterpaneref1_Utf8.l1 k x0 x3 x5 1)
def counterpaneref1_Utf8.l1 : Nat → ByteArray → Int → Int → Int → Option (Bool)
 | 0, _, _, _, _ => none
 | k + 1, x0, x3, x5, x7 => if x7 ≤ x5 then (if 0 ≤ (wrap64 (x3 + x7)) then (if (wrap64 (x3 + x7)) < (x0.size : Int) then (if (bt x0 (wrap64 (x3 + x7))) < 128 then (some false) else (if (bt x0 (wrap64 (x3 + x7))) > 191 then (some false) else (counterpaneref1_Utf8.l1 k x0 x3 x5 (wrap64 (x7 + 1))))) else (none)) else (none)) else (counterpaneref1_Utf8.l0 k x0 (wrap64 (x3 + (wrap64 (x5 + 1)))))
def counterpaneref1_Utf8.j1 : Nat → ByteArray → Int → Int → Bool → Option (Bool)
 | 0, _, _, _, _ => none
 | k + 1, x0, x3, x4, x20 => if x20 = true then (counterpaneref1_Utf8.j3 k x0 x3 x4 1) else (if x4 ≥ 224 then (counterpaneref1_Utf8.j2 k x0 x3 x4 (decide (x4 ≤ 239))) else (counterpaneref1_Utf8.j2 k x0 x3 x4 false))
def counterpaneref1_Utf8.j2 : Nat → ByteArray → Int → Int → Bool → Option (Bool)
 | 0, _, _, _, _ => none
 | k + 1, x0, x3, x4, x27 => if x27 = true then (counterpaneref1_Utf8.j3 k x0 x3 x4 2) else (if x4 ≥ 240 then (if x4 ≤ 244 then (counterpaneref1_Utf8.j3 k x0 x3 x4 3) else (some false)) else (some false))
end
def counterpaneref1_Utf8.f (k : Nat) (a0 : ByteArray) : Option (Bool) := counterpaneref1_Utf8.l0 k a0 0
theorem counterpaneref1_Utf8.mono_l : ∀ k, (∀ y0 y1, LeO (counterpaneref1_Utf8.l0 k y0 y1) (counterpaneref1_Utf8.l0 (k + 1) y0 y1)) ∧ (∀ y0 y1 y2 y3, LeO (counterpaneref1_Utf8.j3 k y0 y1 y2 y3) (counterpaneref1_Utf8.j3 (k + 1) y0 y1 y2 y3)) ∧ (∀ y0 y1 y2 y3, LeO (counterpaneref1_Utf8.j4 k y0 y1 y2 y3) (counterpaneref1_Utf8.j4 (k + 1) y0 y1 y2 y3)) ∧ (∀ y0 y1 y2 y3, LeO (counterpaneref1_Utf8.l1 k y0 y1 y2 y3) (counterpaneref1_Utf8.l1 (k + 1) y0 y1 y2 y3)) ∧ (∀ y0 y1 y2 y3, LeO (counterpaneref1_Utf8.j1 k y0 y1 y2 y3) (counterpaneref1_Utf8.j1 (k + 1) y0 y1 y2 y3)) ∧ (∀ y0 y1 y2 y3, LeO (counterpaneref1_Utf8.j2 k y0 y1 y2 y3) (counterpaneref1_Utf8.j2 (k + 1) y0 y1 y2 y3))
 | 0 => ⟨fun _ _ r h => by simp [counterpaneref1_Utf8.l0] at h, fun _ _ _ _ r h => by simp [counterpaneref1_Utf8.j3] at h, fun _ _ _ _ r h => by simp [counterpaneref1_Utf8.j4] at h, fun _ _ _ _ r h => by simp [counterpaneref1_Utf8.l1] at h, fun _ _ _ _ r h => by simp [counterpaneref1_Utf8.j1] at h, fun _ _ _ _ r h => by simp [counterpaneref1_Utf8.j2] at h⟩
 | k + 1 => by
  obtain ⟨ih0, ih1, ih2, ih3, ih4, ih5⟩ := counterpaneref1_Utf8.mono_l k
  refine ⟨?_, ?_, ?_, ?_, ?_, ?_⟩
  ·intro y0 y1
   unfold counterpaneref1_Utf8.l0
   repeat' first
   | (with_reducible exact ih0 _ _)
   | (with_reducible exact ih1 _ _ _ _)
   | (with_reducible exact ih2 _ _ _ _)
   | (with_reducible exact ih3 _ _ _ _)
   | (with_reducible exact ih4 _ _ _ _)
   | (with_reducible exact ih5 _ _ _ _)
   | (with_reducible exact LeO.refl _)
   | (with_reducible exact LeO.none _)
   | (with_reducible refine LeO.ite ?_ ?_)
   | (with_reducible refine LeO.bind ?_ (fun _ => ?_))
   | exact ih0 _ _
   | exact ih1 _ _ _ _
   | exact ih2 _ _ _ _
   | exact ih3 _ _ _ _
   | exact ih4 _ _ _ _
   | exact ih5 _ _ _ _
   | exact LeO.none _
   | refine LeO.ite ?_ ?_
   | refine LeO.bind ?_ (fun _ => ?_)
  ·intro y0 y1 y2 y3
   unfold counterpaneref1_Utf8.j3
   repeat' first
   | (with_reducible exact ih0 _ _)
   | (with_reducible exact ih1 _ _ _ _)
   | (with_reducible exact ih2 _ _ _ _)
   | (with_reducible exact ih3 _ _ _ _)
   | (with_reducible exact ih4 _ _ _ _)
   | (with_reducible exact ih5 _ _ _ _)
   | (with_reducible exact LeO.refl _)
   | (with_reducible exact LeO.none _)
   | (with_reducible refine LeO.ite ?_ ?_)
   | (with_reducible refine LeO.bind ?_ (fun _ => ?_))
   | exact ih0 _ _
   | exact ih1 _ _ _ _
   | exact ih2 _ _ _ _
   | exact ih3 _ _ _ _
   | exact ih4 _ _ _ _
   | exact ih5 _ _ _ _
   | exact LeO.none _
   | refine LeO.ite ?_ ?_
   | refine LeO.bind ?_ (fun _ => ?_)
  ·intro y0 y1 y2 y3
   unfold counterpaneref1_Utf8.j4
   repeat' first
   | (with_reducible exact ih0 _ _)
   | (with_reducible exact ih1 _ _ _ _)
   | (with_reducible exact ih2 _ _ _ _)
   | (with_reducible exact ih3 _ _ _ _)
   | (with_reducible exact ih4 _ _ _ _)
   | (with_reducible exact ih5 _ _ _ _)
   | (with_reducible exact LeO.refl _)
   | (with_reducible exact LeO.none _)
   | (with_reducible refine LeO.ite ?_ ?_)
   | (with_reducible refine LeO.bind ?_ (fun _ => ?_))
   | exact ih0 _ _
   | exact ih1 _ _ _ _
   | exact ih2 _ _ _ _
   | exact ih3 _ _ _ _
   | exact ih4 _ _ _ _
   | exact ih5 _ _ _ _
   | exact LeO.none _
   | refine LeO.ite ?_ ?_
   | refine LeO.bind ?_ (fun _ => ?_)
  ·intro y0 y1 y2 y3
   unfold counterpaneref1_Utf8.l1
   repeat' first
   | (with_reducible exact ih0 _ _)
   | (with_reducible exact ih1 _ _ _ _)
   | (with_reducible exact ih2 _ _ _ _)
   | (with_reducible exact ih3 _ _ _ _)
   | (with_reducible exact ih4 _ _ _ _)
   | (with_reducible exact ih5 _ _ _ _)
   | (with_reducible exact LeO.refl _)
   | (with_reducible exact LeO.none _)
   | (with_reducible refine LeO.ite ?_ ?_)
   | (with_reducible refine LeO.bind ?_ (fun _ => ?_))
   | exact ih0 _ _
   | exact ih1 _ _ _ _
   | exact ih2 _ _ _ _
   | exact ih3 _ _ _ _
   | exact ih4 _ _ _ _
   | exact ih5 _ _ _ _
   | exact LeO.none _
   | refine LeO.ite ?_ ?_
   | refine LeO.bind ?_ (fun _ => ?_)
  ·intro y0 y1 y2 y3
   unfold counterpaneref1_Utf8.j1
   repeat' first
   | (with_reducible exact ih0 _ _)
   | (with_reducible exact ih1 _ _ _ _)
   | (with_reducible exact ih2 _ _ _ _)
   | (with_reducible exact ih3 _ _ _ _)
   | (with_reducible exact ih4 _ _ _ _)
   | (with_reducible exact ih5 _ _ _ _)
   | (with_reducible exact LeO.refl _)
   | (with_reducible exact LeO.none _)
   | (with_reducible refine LeO.ite ?_ ?_)
   | (with_reducible refine LeO.bind ?_ (fun _ => ?_))
   | exact ih0 _ _
   | exact ih1 _ _ _ _
   | exact ih2 _ _ _ _
   | exact ih3 _ _ _ _
   | exact ih4 _ _ _ _
   | exact ih5 _ _ _ _
   | exact LeO.none _
   | refine LeO.ite ?_ ?_
   | refine LeO.bind ?_ (fun _ => ?_)
  ·intro y0 y1 y2 y3
   unfold counterpaneref1_Utf8.j2
   repeat' first
   | (with_reducible exact ih0 _ _)
   | (with_reducible exact ih1 _ _ _ _)
   | (with_reducible exact ih2 _ _ _ _)
   | (with_reducible exact ih3 _ _ _ _)
   | (with_reducible exact ih4 _ _ _ _)
   | (with_reducible exact ih5 _ _ _ _)
   | (with_reducible exact LeO.refl _)
   | (with_reducible exact LeO.none _)
   | (with_reducible refine LeO.ite ?_ ?_)
   | (with_reducible refine LeO.bind ?_ (fun _ => ?_))
   | exact ih0 _ _
   | exact ih1 _ _ _ _
   | exact ih2 _ _ _ _
   | exact ih3 _ _ _ _
   | exact ih4 _ _ _ _
   | exact ih5 _ _ _ _
   | exact LeO.none _
   | refine LeO.ite ?_ ?_
   | refine LeO.bind ?_ (fun _ => ?_)
theorem counterpaneref1_Utf8.mono : ∀ a0 k, LeO (counterpaneref1_Utf8.f k a0) (counterpaneref1_Utf8.f (k + 1) a0) := by
 intro a0 k
 obtain ⟨ih0, ih1, ih2, ih3, ih4, ih5⟩ := counterpaneref1_Utf8.mono_l k
 unfold counterpaneref1_Utf8.f
 repeat' first
   | (with_reducible exact ih0 _ _)
   | (with_reducible exact ih1 _ _ _ _)
   | (with_reducible exact ih2 _ _ _ _)
   | (with_reducible exact ih3 _ _ _ _)
   | (with_reducible exact ih4 _ _ _ _)
   | (with_reducible exact ih5 _ _ _ _)
   | (with_reducible exact LeO.refl _)
   | (with_reducible exact LeO.none _)
   | (with_reducible refine LeO.ite ?_ ?_)
   | (with_reducible refine LeO.bind ?_ (fun _ => ?_))
   | exact ih0 _ _
   | exact ih1 _ _ _ _
   | exact ih2 _ _ _ _
   | exact ih3 _ _ _ _
   | exact ih4 _ _ _ _
   | exact ih5 _ _ _ _
   | exact LeO.none _
   | refine LeO.ite ?_ ?_
   | refine LeO.bind ?_ (fun _ => ?_)
set_option maxHeartbeats 8000000 in
set_option maxRecDepth 100000 in
theorem counterpaneref1_Utf8.calls (k : Nat) (a0 : ByteArray) (r : Bool) (w : World) (h : counterpaneref1_Utf8.f k a0 = some r) :
  Calls Tryz.prog 50 #[.string a0] w fun e w' => e = .returned (.bool r) ∧ Drawn0 w w' := by
 have H : (counterpaneref1_Utf8.l0 k a0 0) = some r := h
 clear h
 have H' := Aside0.mk H
 clear H
 go_enter Tryz.func50, Tryz.ntmps50
 go_wp2
 go_loopg [3] k (fun kq v3 w' => ∃ (x3_1 : Int), v3 = .int .i64 x3_1 ∧ Aside0 (counterpaneref1_Utf8.l0 kq a0 x3_1 = some r) ∧ Aside0 (kq ≤ k) ∧ Drawn0 w w')
 case atStart => exact ⟨(0), (by first | rfl | (simp; done) | (simp [*]; done)), H', ⟨Nat.le_refl _⟩, by repeat (first | exact Drawn0.refl _ | apply Drawn0.step)⟩
 case round =>
  clear H'
  obtain ⟨x3_1, rfl, HA, HK1, ⟨m1, rfl⟩⟩ := hrel
  cases gk with
  | zero => exact absurd HA.out (by simp [counterpaneref1_Utf8.l0])
  | succ k1 =>
   have H := HA.out
   clear HA
   simp only [counterpaneref1_Utf8.l0] at H
   by_cases c2 : x3_1 < (a0.size : Int)
   ·rw [if_pos c2] at H
    have c2b0 : decide (x3_1 < (a0.size : Int)) = true := decide_eq_true c2
    clear c2
    by_cases c3 : 0 ≤ x3_1
    ·rw [if_pos c3] at H
     have c3b0 : decide (0 ≤ x3_1) = true := decide_eq_true c3
     clear c3
     have HC5 := Aside0.mk H
     clear H
     have p4 : 0 ≤ (x3_1 : Int) := of_decide_eq_true (by first | (with_reducible assumption) | assumption)
     have q4 : x3_1 < (a0.size : Int) := of_decide_eq_true (by first | (with_reducible assumption) | assumption)
     have hx4 := bt_at a0 x3_1
     replace p4 := eq_true p4
     replace q4 := eq_true q4
     try (have q4z := q4; simp only [ByteArray.size_extract, Nat.min_self] at q4z)
     go_upto_block 2 with (fail)
     go_cut [3, 5] (fun v3 v5 wc => ∃ (kq : Nat) (x3_4 : Int) (x5_4 : Int), v3 = .int .i64 x3_4 ∧ v5 = .int .i64 x5_4 ∧ Aside0 (counterpaneref1_Utf8.j3 kq a0 x3_4 (bt a0 x3_1) x5_4 = some r) ∧ Aside0 (kq ≤ k1) ∧ Drawn0 w wc)
     case first =>
      have H := HC5.out
      clear HC5
      by_cases c6 : (bt a0 x3_1) < 128
      ·rw [if_pos c6] at H
       have c6b0 : decide ((bt a0 x3_1) < 128) = true := decide_eq_true c6
       clear c6
       (first | rw [c6b0] | (simp only [i64_w, i32_w]; rw [c6b0]) | skip)
       have H' := Aside0.mk H
       clear H
       go_wp2
       go_roundg k1
       case measure => have := HK1.out; omega
       case rel => exact ⟨(wrap64 (x3_1 + 1)), (by first | rfl | (simp; done) | (simp [*]; done)), H', ⟨by have := HK1.out; omega⟩, by repeat (first | exact Drawn0.refl _ | apply Drawn0.step)⟩
      ·rw [if_neg c6] at H
       have c6b0 : decide ((bt a0 x3_1) < 128) = false := decide_eq_false c6
       clear c6
       (first | rw [c6b0] | (simp only [i64_w, i32_w]; rw [c6b0]) | skip)
       have HC7 := Aside0.mk H
       clear H
       go_upto_region 8 with (fail)
       go_cut [20] (fun v20 wc => ∃ (kq : Nat) (x20_6 : Bool), v20 = .bool x20_6 ∧ Aside0 (counterpaneref1_Utf8.j1 kq a0 x3_1 (bt a0 x3_1) x20_6 = some r) ∧ Aside0 (kq ≤ k1) ∧ Drawn0 w wc)
       case first =>
        have H := HC7.out
        clear HC7
        by_cases c8 : (bt a0 x3_1) ≥ 194
        ·rw [if_pos c8] at H
         have c8b0 : decide (194 ≤ (bt a0 x3_1)) = true := decide_eq_true c8
         clear c8
         (first | rw [c8b0] | (simp only [i64_w, i32_w]; rw [c8b0]) | skip)
         have H' := Aside0.mk H
         clear H
         go_wp2
         go_meet
         case rel => exact ⟨_, (decide ((bt a0 x3_1) ≤ 223)), (by first | rfl | (simp; done) | (simp [*]; done)), H', ⟨by have := HK1.out; first | omega | exact Nat.le_refl _⟩, by repeat (first | exact Drawn0.refl _ | apply Drawn0.step)⟩
        ·rw [if_neg c8] at H
         have c8b0 : decide (194 ≤ (bt a0 x3_1)) = false := decide_eq_false c8
         clear c8
         (first | rw [c8b0] | (simp only [i64_w, i32_w]; rw [c8b0]) | skip)
         have H' := Aside0.mk H
         clear H
         go_wp2
         go_meet
         case rel => exact ⟨_, (false), (by first | rfl | (simp; done) | (simp [*]; done)), H', ⟨by have := HK1.out; first | omega | exact Nat.le_refl _⟩, by repeat (first | exact Drawn0.refl _ | apply Drawn0.step)⟩
       case rest =>
        clear HC7
        try clear c2
        try clear c2b0
        try clear p2
        try clear c3
        try clear c3b0
        try clear p4
        try clear q4
        try clear hx4
        try clear c5
        try clear c6
        try clear c6b0
        try clear p6
        try clear c8
        try clear c8b0
        try clear p4
        try clear q4
        obtain ⟨kq, x20_6, rfl, HA, HJ6, ⟨mc6, rfl⟩⟩ := hcut
        cases kq with
        | zero => exact absurd HA.out (by simp [counterpaneref1_Utf8.j1])
        | succ kj6 =>
         have H := HA.out
         clear HA
         simp only [counterpaneref1_Utf8.j1] at H
         by_cases c9 : x20_6 = true
         ·subst c9
          have H1 : (counterpaneref1_Utf8.j3 kj6 a0 x3_1 (bt a0 x3_1) 1) = some r := by rw [if_pos rfl] at H; exact H
          clear H
          have H := H1
          clear H1
          have H' := Aside0.mk H
          clear H
          go_wp2
          go_meet
          case rel => exact ⟨_, (x3_1), (1), (by first | rfl | (simp; done) | (simp [*]; done)), (by first | rfl | (simp; done) | (simp [*]; done)), H', ⟨by have := HK1.out; have := HJ6.out; first | omega | exact Nat.le_refl _⟩, by repeat (first | exact Drawn0.refl _ | apply Drawn0.step)⟩
         ·replace c9 := Bool.eq_false_iff.mpr c9
          subst c9
          have H1 : (if (bt a0 x3_1) ≥ 224 then (counterpaneref1_Utf8.j2 kj6 a0 x3_1 (bt a0 x3_1) (decide ((bt a0 x3_1) ≤ 239))) else (counterpaneref1_Utf8.j2 kj6 a0 x3_1 (bt a0 x3_1) false)) = some r := by rw [if_neg (show ¬ (false = true) by decide)] at H; exact H
          clear H
          have H := H1
          clear H1
          have HC10 := Aside0.mk H
          clear H
          go_upto_region 10 with (fail)
          go_cut [27] (fun v27 wc => ∃ (kq : Nat) (x27_9 : Bool), v27 = .bool x27_9 ∧ Aside0 (counterpaneref1_Utf8.j2 kq a0 x3_1 (bt a0 x3_1) x27_9 = some r) ∧ Aside0 (kq ≤ kj6) ∧ Drawn0 w wc)
          case first =>
           have H := HC10.out
           clear HC10
           by_cases c11 : (bt a0 x3_1) ≥ 224
           ·rw [if_pos c11] at H
            have c11b0 : decide (224 ≤ (bt a0 x3_1)) = true := decide_eq_true c11
            clear c11
            (first | rw [c11b0] | (simp only [i64_w, i32_w]; rw [c11b0]) | skip)
            have H' := Aside0.mk H
            clear H
            go_wp2
            go_meet
            case rel => exact ⟨_, (decide ((bt a0 x3_1) ≤ 239)), (by first | rfl | (simp; done) | (simp [*]; done)), H', ⟨by have := HK1.out; have := HJ6.out; first | omega | exact Nat.le_refl _⟩, by repeat (first | exact Drawn0.refl _ | apply Drawn0.step)⟩
           ·rw [if_neg c11] at H
            have c11b0 : decide (224 ≤ (bt a0 x3_1)) = false := decide_eq_false c11
            clear c11
            (first | rw [c11b0] | (simp only [i64_w, i32_w]; rw [c11b0]) | skip)
            have H' := Aside0.mk H
            clear H
            go_wp2
            go_meet
            case rel => exact ⟨_, (false), (by first | rfl | (simp; done) | (simp [*]; done)), H', ⟨by have := HK1.out; have := HJ6.out; first | omega | exact Nat.le_refl _⟩, by repeat (first | exact Drawn0.refl _ | apply Drawn0.step)⟩
          case rest =>
           clear HC10
           try clear c1
           try clear c2
           try clear c2b0
           try clear p2
           try clear c3
           try clear c3b0
           try clear p4
           try clear q4
           try clear hx4
           try clear c5
           try clear c6
           try clear c6b0
           try clear p6
           try clear c8
           try clear c8b0
           try clear c9
           try clear c11
           try clear c11b0
           try clear p2
           try clear p4
           try clear p6
           try clear q4
           obtain ⟨kq, x27_9, rfl, HA, HJ9, ⟨mc9, rfl⟩⟩ := hcut
           cases kq with
           | zero => exact absurd HA.out (by simp [counterpaneref1_Utf8.j2])
           | succ kj9 =>
            have H := HA.out
            clear HA
            simp only [counterpaneref1_Utf8.j2] at H
            by_cases c12 : x27_9 = true
            ·subst c12
             have H1 : (counterpaneref1_Utf8.j3 kj9 a0 x3_1 (bt a0 x3_1) 2) = some r := by rw [if_pos rfl] at H; exact H
             clear H
             have H := H1
             clear H1
             have H' := Aside0.mk H
             clear H
             go_wp2
             go_meet
             case rel => exact ⟨_, (x3_1), (2), (by first | rfl | (simp; done) | (simp [*]; done)), (by first | rfl | (simp; done) | (simp [*]; done)), H', ⟨by have := HK1.out; have := HJ6.out; have := HJ9.out; first | omega | exact Nat.le_refl _⟩, by repeat (first | exact Drawn0.refl _ | apply Drawn0.step)⟩
            ·replace c12 := Bool.eq_false_iff.mpr c12
             subst c12
             have H1 : (if (bt a0 x3_1) ≥ 240 then (if (bt a0 x3_1) ≤ 244 then (counterpaneref1_Utf8.j3 kj9 a0 x3_1 (bt a0 x3_1) 3) else (some false)) else (some false)) = some r := by rw [if_neg (show ¬ (false = true) by decide)] at H; exact H
             clear H
             have H := H1
             clear H1
             by_cases c13 : (bt a0 x3_1) ≥ 240
             ·rw [if_pos c13] at H
              have c13b0 : decide (240 ≤ (bt a0 x3_1)) = true := decide_eq_true c13
              clear c13
              by_cases c14 : (bt a0 x3_1) ≤ 244
              ·rw [if_pos c14] at H
               have c14b0 : decide ((bt a0 x3_1) ≤ 244) = true := decide_eq_true c14
               clear c14
               have H' := Aside0.mk H
               clear H
               go_wp2
               go_meet
               case rel => exact ⟨_, (x3_1), (3), (by first | rfl | (simp; done) | (simp [*]; done)), (by first | rfl | (simp; done) | (simp [*]; done)), H', ⟨by have := HK1.out; have := HJ6.out; have := HJ9.out; first | omega | exact Nat.le_refl _⟩, by repeat (first | exact Drawn0.refl _ | apply Drawn0.step)⟩
              ·rw [if_neg c14] at H
               have c14b0 : decide ((bt a0 x3_1) ≤ 244) = false := decide_eq_false c14
               clear c14
               obtain rfl := Option.some.inj H
               go_wp2
               go_ret
               exact ⟨by first | rfl | (simp; done) | (simp [*]; done) | (simp; generalize ByteArray.toList _ = l_; cases l_ <;> rfl), by repeat (first | exact Drawn0.refl _ | apply Drawn0.step)⟩
             ·rw [if_neg c13] at H
              have c13b0 : decide (240 ≤ (bt a0 x3_1)) = false := decide_eq_false c13
              clear c13
              obtain rfl := Option.some.inj H
              go_wp2
              go_ret
              exact ⟨by first | rfl | (simp; done) | (simp [*]; done) | (simp; generalize ByteArray.toList _ = l_; cases l_ <;> rfl), by repeat (first | exact Drawn0.refl _ | apply Drawn0.step)⟩
     case rest =>
      clear HC5
      try clear c1
      try clear c2
      try clear c2b0
      try clear p2
      try clear c3
      try clear c3b0
      try clear p4
      try clear q4
      try clear hx4
      try clear c5
      try clear c6
      try clear c6b0
      try clear p6
      try clear c8
      try clear c8b0
      try clear c9
      try clear c11
      try clear c11b0
      try clear c12
      try clear c13
      try clear c13b0
      try clear c14
      try clear c14b0
      try clear p2
      try clear p4
      try clear p6
      try clear q4
      obtain ⟨kq, x3_4, x5_4, rfl, rfl, HA, HJ4, ⟨mc4, rfl⟩⟩ := hcut
      cases kq with
      | zero => exact absurd HA.out (by simp [counterpaneref1_Utf8.j3])
      | succ kj4 =>
       have H := HA.out
       clear HA
       simp only [counterpaneref1_Utf8.j3] at H
       by_cases c15 : (wrap64 (x3_4 + x5_4)) ≥ (a0.size : Int)
       ·rw [if_pos c15] at H
        have c15b0 : decide ((a0.size : Int) ≤ (wrap64 (x3_4 + x5_4))) = true := decide_eq_true c15
        clear c15
        obtain rfl := Option.some.inj H
        go_wp2
        go_ret
        exact ⟨by first | rfl | (simp; done) | (simp [*]; done) | (simp; generalize ByteArray.toList _ = l_; cases l_ <;> rfl), by repeat (first | exact Drawn0.refl _ | apply Drawn0.step)⟩
       ·rw [if_neg c15] at H
        have c15b0 : decide ((a0.size : Int) ≤ (wrap64 (x3_4 + x5_4))) = false := decide_eq_false c15
        clear c15
        obtain ⟨ji16, hji16⟩ : ∃ j_ : Int, (wrap64 (x3_4 + 1)) = j_ := ⟨_, rfl⟩
        replace H : (if 0 ≤ (ji16) then (if (ji16) < (a0.size : Int) then (if (bt a0 x3_1) = 224 then (if (bt a0 (ji16)) < 160 then (counterpaneref1_Utf8.j4 kj4 a0 x3_4 x5_4 true) else (if (bt a0 x3_1) = 237 then (if (bt a0 (ji16)) > 159 then (counterpaneref1_Utf8.j4 kj4 a0 x3_4 x5_4 true) else (if (bt a0 x3_1) = 240 then (if (bt a0 (ji16)) < 144 then (counterpaneref1_Utf8.j4 kj4 a0 x3_4 x5_4 true) else (if (bt a0 x3_1) = 244 then (counterpaneref1_Utf8.j4 kj4 a0 x3_4 x5_4 (decide ((bt a0 (ji16)) > 143))) else (counterpaneref1_Utf8.j4 kj4 a0 x3_4 x5_4 false))) else (if (bt a0 x3_1) = 244 then (counterpaneref1_Utf8.j4 kj4 a0 x3_4 x5_4 (decide ((bt a0 (ji16)) > 143))) else (counterpaneref1_Utf8.j4 kj4 a0 x3_4 x5_4 false)))) else (if (bt a0 x3_1) = 240 then (if (bt a0 (ji16)) < 144 then (counterpaneref1_Utf8.j4 kj4 a0 x3_4 x5_4 true) else (if (bt a0 x3_1) = 244 then (counterpaneref1_Utf8.j4 kj4 a0 x3_4 x5_4 (decide ((bt a0 (ji16)) > 143))) else (counterpaneref1_Utf8.j4 kj4 a0 x3_4 x5_4 false))) else (if (bt a0 x3_1) = 244 then (counterpaneref1_Utf8.j4 kj4 a0 x3_4 x5_4 (decide ((bt a0 (ji16)) > 143))) else (counterpaneref1_Utf8.j4 kj4 a0 x3_4 x5_4 false))))) else (if (bt a0 x3_1) = 237 then (if (bt a0 (ji16)) > 159 then (counterpaneref1_Utf8.j4 kj4 a0 x3_4 x5_4 true) else (if (bt a0 x3_1) = 240 then (if (bt a0 (ji16)) < 144 then (counterpaneref1_Utf8.j4 kj4 a0 x3_4 x5_4 true) else (if (bt a0 x3_1) = 244 then (counterpaneref1_Utf8.j4 kj4 a0 x3_4 x5_4 (decide ((bt a0 (ji16)) > 143))) else (counterpaneref1_Utf8.j4 kj4 a0 x3_4 x5_4 false))) else (if (bt a0 x3_1) = 244 then (counterpaneref1_Utf8.j4 kj4 a0 x3_4 x5_4 (decide ((bt a0 (ji16)) > 143))) else (counterpaneref1_Utf8.j4 kj4 a0 x3_4 x5_4 false)))) else (if (bt a0 x3_1) = 240 then (if (bt a0 (ji16)) < 144 then (counterpaneref1_Utf8.j4 kj4 a0 x3_4 x5_4 true) else (if (bt a0 x3_1) = 244 then (counterpaneref1_Utf8.j4 kj4 a0 x3_4 x5_4 (decide ((bt a0 (ji16)) > 143))) else (counterpaneref1_Utf8.j4 kj4 a0 x3_4 x5_4 false))) else (if (bt a0 x3_1) = 244 then (counterpaneref1_Utf8.j4 kj4 a0 x3_4 x5_4 (decide ((bt a0 (ji16)) > 143))) else (counterpaneref1_Utf8.j4 kj4 a0 x3_4 x5_4 false))))) else (none)) else (none)) = some r := by first | (rw [hji16] at H; exact H) | (simp only [hji16] at H ⊢; exact H)
        have hji16w : (IntKind.i64.wrap (x3_4 + 1)) = ji16 := (i64_w _).trans hji16
        by_cases c17 : 0 ≤ (ji16)
        ·rw [if_pos c17] at H
         have c17b0 : decide (0 ≤ (ji16)) = true := decide_eq_true c17
         clear c17
         by_cases c18 : (ji16) < (a0.size : Int)
         ·rw [if_pos c18] at H
          have c18b0 : decide ((ji16) < (a0.size : Int)) = true := decide_eq_true c18
          clear c18
          have HC20 := Aside0.mk H
          clear H
          have p19 : 0 ≤ ((ji16) : Int) := of_decide_eq_true (by first | (with_reducible assumption) | assumption)
          have q19 : (ji16) < (a0.size : Int) := of_decide_eq_true (by first | (with_reducible assumption) | assumption)
          have hx19 := bt_at a0 (ji16)
          replace p19 := eq_true p19
          replace q19 := eq_true q19
          try (have q19z := q19; simp only [ByteArray.size_extract, Nat.min_self] at q19z)
          go_upto_region 17 with (fail)
          go_cut [80] (fun v80 wc => ∃ (kq : Nat) (x80_19 : Bool), v80 = .bool x80_19 ∧ Aside0 (counterpaneref1_Utf8.j4 kq a0 x3_4 x5_4 x80_19 = some r) ∧ Aside0 (kq ≤ kj4) ∧ Drawn0 w wc)
          case first =>
           have H := HC20.out
           clear HC20
           by_cases c21 : (bt a0 x3_1) = 224
           ·rw [if_pos c21] at H
            have c21b0 : ((bt a0 x3_1) == 224) = true := beq_iff_eq.mpr c21
            have c21b1 : ((bt a0 x3_1) != 224) = false := bne_eq_false_iff_eq.mpr c21
            clear c21
            (first | rw [c21b0] | (simp only [i64_w, i32_w]; rw [c21b0]) | skip)
            by_cases c22 : (bt a0 (ji16)) < 160
            ·rw [if_pos c22] at H
             have c22b0 : decide ((bt a0 (ji16)) < 160) = true := decide_eq_true c22
             clear c22
             have H' := Aside0.mk H
             clear H
             go_wp2
             go_meet
             case rel => exact ⟨_, (true), (by first | rfl | (simp; done) | (simp [*]; done)), H', ⟨by have := HK1.out; have := HJ4.out; first | omega | exact Nat.le_refl _⟩, by repeat (first | exact Drawn0.refl _ | apply Drawn0.step)⟩
            ·rw [if_neg c22] at H
             have c22b0 : decide ((bt a0 (ji16)) < 160) = false := decide_eq_false c22
             clear c22
             by_cases c23 : (bt a0 x3_1) = 237
             ·rw [if_pos c23] at H
              have c23b0 : ((bt a0 x3_1) == 237) = true := beq_iff_eq.mpr c23
              have c23b1 : ((bt a0 x3_1) != 237) = false := bne_eq_false_iff_eq.mpr c23
              clear c23
              by_cases c24 : (bt a0 (ji16)) > 159
              ·rw [if_pos c24] at H
               have c24b0 : decide (159 < (bt a0 (ji16))) = true := decide_eq_true c24
               clear c24
               have H' := Aside0.mk H
               clear H
               go_wp2
               go_meet
               case rel => exact ⟨_, (true), (by first | rfl | (simp; done) | (simp [*]; done)), H', ⟨by have := HK1.out; have := HJ4.out; first | omega | exact Nat.le_refl _⟩, by repeat (first | exact Drawn0.refl _ | apply Drawn0.step)⟩
              ·rw [if_neg c24] at H
               have c24b0 : decide (159 < (bt a0 (ji16))) = false := decide_eq_false c24
               clear c24
               by_cases c25 : (bt a0 x3_1) = 240
               ·rw [if_pos c25] at H
                have c25b0 : ((bt a0 x3_1) == 240) = true := beq_iff_eq.mpr c25
                have c25b1 : ((bt a0 x3_1) != 240) = false := bne_eq_false_iff_eq.mpr c25
                clear c25
                by_cases c26 : (bt a0 (ji16)) < 144
                ·rw [if_pos c26] at H
                 have c26b0 : decide ((bt a0 (ji16)) < 144) = true := decide_eq_true c26
                 clear c26
                 have H' := Aside0.mk H
                 clear H
                 go_wp2
                 go_meet
                 case rel => exact ⟨_, (true), (by first | rfl | (simp; done) | (simp [*]; done)), H', ⟨by have := HK1.out; have := HJ4.out; first | omega | exact Nat.le_refl _⟩, by repeat (first | exact Drawn0.refl _ | apply Drawn0.step)⟩
                ·rw [if_neg c26] at H
                 have c26b0 : decide ((bt a0 (ji16)) < 144) = false := decide_eq_false c26
                 clear c26
                 by_cases c27 : (bt a0 x3_1) = 244
                 ·rw [if_pos c27] at H
                  have c27b0 : ((bt a0 x3_1) == 244) = true := beq_iff_eq.mpr c27
                  have c27b1 : ((bt a0 x3_1) != 244) = false := bne_eq_false_iff_eq.mpr c27
                  clear c27
                  have H' := Aside0.mk H
                  clear H
                  go_wp2
                  go_meet
                  case rel => exact ⟨_, (decide ((bt a0 (ji16)) > 143)), (by first | rfl | (simp; done) | (simp only [← hji16] <;> (first | rfl | simp)) | (simp [*]; done)), H', ⟨by have := HK1.out; have := HJ4.out; first | omega | exact Nat.le_refl _⟩, by repeat (first | exact Drawn0.refl _ | apply Drawn0.step)⟩
                 ·rw [if_neg c27] at H
                  have c27b0 : ((bt a0 x3_1) == 244) = false := beq_eq_false_iff_ne.mpr c27
                  have c27b1 : ((bt a0 x3_1) != 244) = true := bne_iff_ne.mpr c27
                  have H' := Aside0.mk H
                  clear H
                  go_wp2
                  go_meet
                  case rel => exact ⟨_, (false), (by first | rfl | (simp; done) | (simp [*]; done)), H', ⟨by have := HK1.out; have := HJ4.out; first | omega | exact Nat.le_refl _⟩, by repeat (first | exact Drawn0.refl _ | apply Drawn0.step)⟩
               ·rw [if_neg c25] at H
                have c25b0 : ((bt a0 x3_1) == 240) = false := beq_eq_false_iff_ne.mpr c25
                have c25b1 : ((bt a0 x3_1) != 240) = true := bne_iff_ne.mpr c25
                by_cases c28 : (bt a0 x3_1) = 244
                ·rw [if_pos c28] at H
                 have c28b0 : ((bt a0 x3_1) == 244) = true := beq_iff_eq.mpr c28
                 have c28b1 : ((bt a0 x3_1) != 244) = false := bne_eq_false_iff_eq.mpr c28
                 clear c28
                 have H' := Aside0.mk H
                 clear H
                 go_wp2
                 go_meet
                 case rel => exact ⟨_, (decide ((bt a0 (ji16)) > 143)), (by first | rfl | (simp; done) | (simp only [← hji16] <;> (first | rfl | simp)) | (simp [*]; done)), H', ⟨by have := HK1.out; have := HJ4.out; first | omega | exact Nat.le_refl _⟩, by repeat (first | exact Drawn0.refl _ | apply Drawn0.step)⟩
                ·rw [if_neg c28] at H
                 have c28b0 : ((bt a0 x3_1) == 244) = false := beq_eq_false_iff_ne.mpr c28
                 have c28b1 : ((bt a0 x3_1) != 244) = true := bne_iff_ne.mpr c28
                 have H' := Aside0.mk H
                 clear H
                 go_wp2
                 go_meet
                 case rel => exact ⟨_, (false), (by first | rfl | (simp; done) | (simp [*]; done)), H', ⟨by have := HK1.out; have := HJ4.out; first | omega | exact Nat.le_refl _⟩, by repeat (first | exact Drawn0.refl _ | apply Drawn0.step)⟩
             ·rw [if_neg c23] at H
              have c23b0 : ((bt a0 x3_1) == 237) = false := beq_eq_false_iff_ne.mpr c23
              have c23b1 : ((bt a0 x3_1) != 237) = true := bne_iff_ne.mpr c23
              by_cases c29 : (bt a0 x3_1) = 240
              ·rw [if_pos c29] at H
               have c29b0 : ((bt a0 x3_1) == 240) = true := beq_iff_eq.mpr c29
               have c29b1 : ((bt a0 x3_1) != 240) = false := bne_eq_false_iff_eq.mpr c29
               clear c29
               by_cases c30 : (bt a0 (ji16)) < 144
               ·rw [if_pos c30] at H
                have c30b0 : decide ((bt a0 (ji16)) < 144) = true := decide_eq_true c30
                clear c30
                have H' := Aside0.mk H
                clear H
                go_wp2
                go_meet
                case rel => exact ⟨_, (true), (by first | rfl | (simp; done) | (simp [*]; done)), H', ⟨by have := HK1.out; have := HJ4.out; first | omega | exact Nat.le_refl _⟩, by repeat (first | exact Drawn0.refl _ | apply Drawn0.step)⟩
               ·rw [if_neg c30] at H
                have c30b0 : decide ((bt a0 (ji16)) < 144) = false := decide_eq_false c30
                clear c30
                by_cases c31 : (bt a0 x3_1) = 244
                ·rw [if_pos c31] at H
                 have c31b0 : ((bt a0 x3_1) == 244) = true := beq_iff_eq.mpr c31
                 have c31b1 : ((bt a0 x3_1) != 244) = false := bne_eq_false_iff_eq.mpr c31
                 clear c31
                 have H' := Aside0.mk H
                 clear H
                 go_wp2
                 go_meet
                 case rel => exact ⟨_, (decide ((bt a0 (ji16)) > 143)), (by first | rfl | (simp; done) | (simp only [← hji16] <;> (first | rfl | simp)) | (simp [*]; done)), H', ⟨by have := HK1.out; have := HJ4.out; first | omega | exact Nat.le_refl _⟩, by repeat (first | exact Drawn0.refl _ | apply Drawn0.step)⟩
                ·rw [if_neg c31] at H
                 have c31b0 : ((bt a0 x3_1) == 244) = false := beq_eq_false_iff_ne.mpr c31
                 have c31b1 : ((bt a0 x3_1) != 244) = true := bne_iff_ne.mpr c31
                 have H' := Aside0.mk H
                 clear H
                 go_wp2
                 go_meet
                 case rel => exact ⟨_, (false), (by first | rfl | (simp; done) | (simp [*]; done)), H', ⟨by have := HK1.out; have := HJ4.out; first | omega | exact Nat.le_refl _⟩, by repeat (first | exact Drawn0.refl _ | apply Drawn0.step)⟩
              ·rw [if_neg c29] at H
               have c29b0 : ((bt a0 x3_1) == 240) = false := beq_eq_false_iff_ne.mpr c29
               have c29b1 : ((bt a0 x3_1) != 240) = true := bne_iff_ne.mpr c29
               by_cases c32 : (bt a0 x3_1) = 244
               ·rw [if_pos c32] at H
                have c32b0 : ((bt a0 x3_1) == 244) = true := beq_iff_eq.mpr c32
                have c32b1 : ((bt a0 x3_1) != 244) = false := bne_eq_false_iff_eq.mpr c32
                clear c32
                have H' := Aside0.mk H
                clear H
                go_wp2
                go_meet
                case rel => exact ⟨_, (decide ((bt a0 (ji16)) > 143)), (by first | rfl | (simp; done) | (simp only [← hji16] <;> (first | rfl | simp)) | (simp [*]; done)), H', ⟨by have := HK1.out; have := HJ4.out; first | omega | exact Nat.le_refl _⟩, by repeat (first | exact Drawn0.refl _ | apply Drawn0.step)⟩
               ·rw [if_neg c32] at H
                have c32b0 : ((bt a0 x3_1) == 244) = false := beq_eq_false_iff_ne.mpr c32
                have c32b1 : ((bt a0 x3_1) != 244) = true := bne_iff_ne.mpr c32
                have H' := Aside0.mk H
                clear H
                go_wp2
                go_meet
                case rel => exact ⟨_, (false), (by first | rfl | (simp; done) | (simp [*]; done)), H', ⟨by have := HK1.out; have := HJ4.out; first | omega | exact Nat.le_refl _⟩, by repeat (first | exact Drawn0.refl _ | apply Drawn0.step)⟩
           ·rw [if_neg c21] at H
            have c21b0 : ((bt a0 x3_1) == 224) = false := beq_eq_false_iff_ne.mpr c21
            have c21b1 : ((bt a0 x3_1) != 224) = true := bne_iff_ne.mpr c21
            (first | rw [c21b0] | (simp only [i64_w, i32_w]; rw [c21b0]) | skip)
            by_cases c33 : (bt a0 x3_1) = 237
            ·rw [if_pos c33] at H
             have c33b0 : ((bt a0 x3_1) == 237) = true := beq_iff_eq.mpr c33
             have c33b1 : ((bt a0 x3_1) != 237) = false := bne_eq_false_iff_eq.mpr c33
             clear c33
             by_cases c34 : (bt a0 (ji16)) > 159
             ·rw [if_pos c34] at H
              have c34b0 : decide (159 < (bt a0 (ji16))) = true := decide_eq_true c34
              clear c34
              have H' := Aside0.mk H
              clear H
              go_wp2
              go_meet
              case rel => exact ⟨_, (true), (by first | rfl | (simp; done) | (simp [*]; done)), H', ⟨by have := HK1.out; have := HJ4.out; first | omega | exact Nat.le_refl _⟩, by repeat (first | exact Drawn0.refl _ | apply Drawn0.step)⟩
             ·rw [if_neg c34] at H
              have c34b0 : decide (159 < (bt a0 (ji16))) = false := decide_eq_false c34
              clear c34
              by_cases c35 : (bt a0 x3_1) = 240
              ·rw [if_pos c35] at H
               have c35b0 : ((bt a0 x3_1) == 240) = true := beq_iff_eq.mpr c35
               have c35b1 : ((bt a0 x3_1) != 240) = false := bne_eq_false_iff_eq.mpr c35
               clear c35
               by_cases c36 : (bt a0 (ji16)) < 144
               ·rw [if_pos c36] at H
                have c36b0 : decide ((bt a0 (ji16)) < 144) = true := decide_eq_true c36
                clear c36
                have H' := Aside0.mk H
                clear H
                go_wp2
                go_meet
                case rel => exact ⟨_, (true), (by first | rfl | (simp; done) | (simp [*]; done)), H', ⟨by have := HK1.out; have := HJ4.out; first | omega | exact Nat.le_refl _⟩, by repeat (first | exact Drawn0.refl _ | apply Drawn0.step)⟩
               ·rw [if_neg c36] at H
                have c36b0 : decide ((bt a0 (ji16)) < 144) = false := decide_eq_false c36
                clear c36
                by_cases c37 : (bt a0 x3_1) = 244
                ·rw [if_pos c37] at H
                 have c37b0 : ((bt a0 x3_1) == 244) = true := beq_iff_eq.mpr c37
                 have c37b1 : ((bt a0 x3_1) != 244) = false := bne_eq_false_iff_eq.mpr c37
                 clear c37
                 have H' := Aside0.mk H
                 clear H
                 go_wp2
                 go_meet
                 case rel => exact ⟨_, (decide ((bt a0 (ji16)) > 143)), (by first | rfl | (simp; done) | (simp only [← hji16] <;> (first | rfl | simp)) | (simp [*]; done)), H', ⟨by have := HK1.out; have := HJ4.out; first | omega | exact Nat.le_refl _⟩, by repeat (first | exact Drawn0.refl _ | apply Drawn0.step)⟩
                ·rw [if_neg c37] at H
                 have c37b0 : ((bt a0 x3_1) == 244) = false := beq_eq_false_iff_ne.mpr c37
                 have c37b1 : ((bt a0 x3_1) != 244) = true := bne_iff_ne.mpr c37
                 have H' := Aside0.mk H
                 clear H
                 go_wp2
                 go_meet
                 case rel => exact ⟨_, (false), (by first | rfl | (simp; done) | (simp [*]; done)), H', ⟨by have := HK1.out; have := HJ4.out; first | omega | exact Nat.le_refl _⟩, by repeat (first | exact Drawn0.refl _ | apply Drawn0.step)⟩
              ·rw [if_neg c35] at H
               have c35b0 : ((bt a0 x3_1) == 240) = false := beq_eq_false_iff_ne.mpr c35
               have c35b1 : ((bt a0 x3_1) != 240) = true := bne_iff_ne.mpr c35
               by_cases c38 : (bt a0 x3_1) = 244
               ·rw [if_pos c38] at H
                have c38b0 : ((bt a0 x3_1) == 244) = true := beq_iff_eq.mpr c38
                have c38b1 : ((bt a0 x3_1) != 244) = false := bne_eq_false_iff_eq.mpr c38
                clear c38
                have H' := Aside0.mk H
                clear H
                go_wp2
                go_meet
                case rel => exact ⟨_, (decide ((bt a0 (ji16)) > 143)), (by first | rfl | (simp; done) | (simp only [← hji16] <;> (first | rfl | simp)) | (simp [*]; done)), H', ⟨by have := HK1.out; have := HJ4.out; first | omega | exact Nat.le_refl _⟩, by repeat (first | exact Drawn0.refl _ | apply Drawn0.step)⟩
               ·rw [if_neg c38] at H
                have c38b0 : ((bt a0 x3_1) == 244) = false := beq_eq_false_iff_ne.mpr c38
                have c38b1 : ((bt a0 x3_1) != 244) = true := bne_iff_ne.mpr c38
                have H' := Aside0.mk H
                clear H
                go_wp2
                go_meet
                case rel => exact ⟨_, (false), (by first | rfl | (simp; done) | (simp [*]; done)), H', ⟨by have := HK1.out; have := HJ4.out; first | omega | exact Nat.le_refl _⟩, by repeat (first | exact Drawn0.refl _ | apply Drawn0.step)⟩
            ·rw [if_neg c33] at H
             have c33b0 : ((bt a0 x3_1) == 237) = false := beq_eq_false_iff_ne.mpr c33
             have c33b1 : ((bt a0 x3_1) != 237) = true := bne_iff_ne.mpr c33
             by_cases c39 : (bt a0 x3_1) = 240
             ·rw [if_pos c39] at H
              have c39b0 : ((bt a0 x3_1) == 240) = true := beq_iff_eq.mpr c39
              have c39b1 : ((bt a0 x3_1) != 240) = false := bne_eq_false_iff_eq.mpr c39
              clear c39
              by_cases c40 : (bt a0 (ji16)) < 144
              ·rw [if_pos c40] at H
               have c40b0 : decide ((bt a0 (ji16)) < 144) = true := decide_eq_true c40
               clear c40
               have H' := Aside0.mk H
               clear H
               go_wp2
               go_meet
               case rel => exact ⟨_, (true), (by first | rfl | (simp; done) | (simp [*]; done)), H', ⟨by have := HK1.out; have := HJ4.out; first | omega | exact Nat.le_refl _⟩, by repeat (first | exact Drawn0.refl _ | apply Drawn0.step)⟩
              ·rw [if_neg c40] at H
               have c40b0 : decide ((bt a0 (ji16)) < 144) = false := decide_eq_false c40
               clear c40
               by_cases c41 : (bt a0 x3_1) = 244
               ·rw [if_pos c41] at H
                have c41b0 : ((bt a0 x3_1) == 244) = true := beq_iff_eq.mpr c41
                have c41b1 : ((bt a0 x3_1) != 244) = false := bne_eq_false_iff_eq.mpr c41
                clear c41
                have H' := Aside0.mk H
                clear H
                go_wp2
                go_meet
                case rel => exact ⟨_, (decide ((bt a0 (ji16)) > 143)), (by first | rfl | (simp; done) | (simp only [← hji16] <;> (first | rfl | simp)) | (simp [*]; done)), H', ⟨by have := HK1.out; have := HJ4.out; first | omega | exact Nat.le_refl _⟩, by repeat (first | exact Drawn0.refl _ | apply Drawn0.step)⟩
               ·rw [if_neg c41] at H
                have c41b0 : ((bt a0 x3_1) == 244) = false := beq_eq_false_iff_ne.mpr c41
                have c41b1 : ((bt a0 x3_1) != 244) = true := bne_iff_ne.mpr c41
                have H' := Aside0.mk H
                clear H
                go_wp2
                go_meet
                case rel => exact ⟨_, (false), (by first | rfl | (simp; done) | (simp [*]; done)), H', ⟨by have := HK1.out; have := HJ4.out; first | omega | exact Nat.le_refl _⟩, by repeat (first | exact Drawn0.refl _ | apply Drawn0.step)⟩
             ·rw [if_neg c39] at H
              have c39b0 : ((bt a0 x3_1) == 240) = false := beq_eq_false_iff_ne.mpr c39
              have c39b1 : ((bt a0 x3_1) != 240) = true := bne_iff_ne.mpr c39
              by_cases c42 : (bt a0 x3_1) = 244
              ·rw [if_pos c42] at H
               have c42b0 : ((bt a0 x3_1) == 244) = true := beq_iff_eq.mpr c42
               have c42b1 : ((bt a0 x3_1) != 244) = false := bne_eq_false_iff_eq.mpr c42
               clear c42
               have H' := Aside0.mk H
               clear H
               go_wp2
               go_meet
               case rel => exact ⟨_, (decide ((bt a0 (ji16)) > 143)), (by first | rfl | (simp; done) | (simp only [← hji16] <;> (first | rfl | simp)) | (simp [*]; done)), H', ⟨by have := HK1.out; have := HJ4.out; first | omega | exact Nat.le_refl _⟩, by repeat (first | exact Drawn0.refl _ | apply Drawn0.step)⟩
              ·rw [if_neg c42] at H
               have c42b0 : ((bt a0 x3_1) == 244) = false := beq_eq_false_iff_ne.mpr c42
               have c42b1 : ((bt a0 x3_1) != 244) = true := bne_iff_ne.mpr c42
               have H' := Aside0.mk H
               clear H
               go_wp2
               go_meet
               case rel => exact ⟨_, (false), (by first | rfl | (simp; done) | (simp [*]; done)), H', ⟨by have := HK1.out; have := HJ4.out; first | omega | exact Nat.le_refl _⟩, by repeat (first | exact Drawn0.refl _ | apply Drawn0.step)⟩
          case rest =>
           clear HC20
           try clear c1
           try clear p1
           try clear q1
           try clear hx1
           try clear c2
           try clear c2b0
           try clear p2
           try clear c3
           try clear c3b0
           try clear c4
           try clear p4
           try clear q4
           try clear hx4
           try clear c5
           try clear c6
           try clear c6b0
           try clear p6
           try clear c8
           try clear c8b0
           try clear c9
           try clear c11
           try clear c11b0
           try clear c12
           try clear c13
           try clear c13b0
           try clear c14
           try clear c14b0
           try clear c15
           try clear c15b0
           try clear c17
           try clear c17b0
           try clear c18
           try clear c18b0
           try clear p19
           try clear q19
           try clear hx19
           try clear c21
           try clear c21b0
           try clear c21b1
           try clear c22
           try clear c22b0
           try clear c23
           try clear c23b0
           try clear c23b1
           try clear c24
           try clear c24b0
           try clear c25
           try clear c25b0
           try clear c25b1
           try clear c26
           try clear c26b0
           try clear c27
           try clear c27b0
           try clear c27b1
           try clear c28
           try clear c28b0
           try clear c28b1
           try clear c29
           try clear c29b0
           try clear c29b1
           try clear c30
           try clear c30b0
           try clear c31
           try clear c31b0
           try clear c31b1
           try clear c32
           try clear c32b0
           try clear c32b1
           try clear c33
           try clear c33b0
           try clear c33b1
           try clear c34
           try clear c34b0
           try clear c35
           try clear c35b0
           try clear c35b1
           try clear c36
           try clear c36b0
           try clear c37
           try clear c37b0
           try clear c37b1
           try clear c38
           try clear c38b0
           try clear c38b1
           try clear c39
           try clear c39b0
           try clear c39b1
           try clear c40
           try clear c40b0
           try clear c41
           try clear c41b0
           try clear c41b1
           try clear c42
           try clear c42b0
           try clear c42b1
           try clear p19
           try clear p2
           try clear p4
           try clear p6
           try clear q19
           try clear q4
           obtain ⟨kq, x80_19, rfl, HA, HJ19, ⟨mc19, rfl⟩⟩ := hcut
           cases kq with
           | zero => exact absurd HA.out (by simp [counterpaneref1_Utf8.j4])
           | succ kj19 =>
            have H := HA.out
            clear HA
            simp only [counterpaneref1_Utf8.j4] at H
            by_cases c43 : x80_19 = true
            ·subst c43
             have H1 : (some false) = some r := by rw [if_pos rfl] at H; exact H
             clear H
             have H := H1
             clear H1
             obtain rfl := Option.some.inj H
             go_wp2
             go_ret
             exact ⟨by first | rfl | (simp; done) | (simp only [← hji16] <;> (first | rfl | simp)) | (simp [*]; done), by repeat (first | exact Drawn0.refl _ | apply Drawn0.step)⟩
            ·replace c43 := Bool.eq_false_iff.mpr c43
             subst c43
             have H1 : (counterpaneref1_Utf8.l1 kj19 a0 x3_4 x5_4 1) = some r := by rw [if_neg (show ¬ (false = true) by decide)] at H; exact H
             clear H
             have H := H1
             clear H1
             have H' := Aside0.mk H
             clear H
             go_wp2
             go_loopg [7] kj19 (fun kq v7 w' => ∃ (x7_4 : Int), v7 = .int .i64 x7_4 ∧ Aside0 (counterpaneref1_Utf8.l1 kq a0 x3_4 x5_4 x7_4 = some r) ∧ Aside0 (kq ≤ kj19) ∧ Drawn0 w w')
             case atStart => exact ⟨(1), (by first | rfl | (simp; done) | (simp [*]; done)), H', ⟨Nat.le_refl _⟩, by repeat (first | exact Drawn0.refl _ | apply Drawn0.step)⟩
             case round =>
              clear H'
              try clear c1
              try clear p1
              try clear q1
              try clear hx1
              try clear c2
              try clear c2b0
              try clear p2
              try clear c3
              try clear c3b0
              try clear c4
              try clear p4
              try clear q4
              try clear hx4
              try clear c5
              try clear c6
              try clear c6b0
              try clear p6
              try clear c8
              try clear c8b0
              try clear c9
              try clear c11
              try clear c11b0
              try clear c12
              try clear c13
              try clear c13b0
              try clear c14
              try clear c14b0
              try clear c15
              try clear c15b0
              try clear c17
              try clear c17b0
              try clear c18
              try clear c18b0
              try clear c19
              try clear p19
              try clear q19
              try clear hx19
              try clear c21
              try clear c21b0
              try clear c21b1
              try clear c22
              try clear c22b0
              try clear c23
              try clear c23b0
              try clear c23b1
              try clear c24
              try clear c24b0
              try clear c25
              try clear c25b0
              try clear c25b1
              try clear c26
              try clear c26b0
              try clear c27
              try clear c27b0
              try clear c27b1
              try clear c28
              try clear c28b0
              try clear c28b1
              try clear c29
              try clear c29b0
              try clear c29b1
              try clear c30
              try clear c30b0
              try clear c31
              try clear c31b0
              try clear c31b1
              try clear c32
              try clear c32b0
              try clear c32b1
              try clear c33
              try clear c33b0
              try clear c33b1
              try clear c34
              try clear c34b0
              try clear c35
              try clear c35b0
              try clear c35b1
              try clear c36
              try clear c36b0
              try clear c37
              try clear c37b0
              try clear c37b1
              try clear c38
              try clear c38b0
              try clear c38b1
              try clear c39
              try clear c39b0
              try clear c39b1
              try clear c40
              try clear c40b0
              try clear c41
              try clear c41b0
              try clear c41b1
              try clear c42
              try clear c42b0
              try clear c42b1
              try clear c43
              try clear p1
              try clear p19
              try clear p2
              try clear p4
              try clear p6
              try clear q1
              try clear q19
              try clear q4
              obtain ⟨x7_4, rfl, HA, HK4, ⟨m4, rfl⟩⟩ := hrel
              cases gk with
              | zero => exact absurd HA.out (by simp [counterpaneref1_Utf8.l1])
              | succ k4 =>
               have H := HA.out
               clear HA
               simp only [counterpaneref1_Utf8.l1] at H
               by_cases c44 : x7_4 ≤ x5_4
               ·rw [if_pos c44] at H
                have c44b0 : decide (x7_4 ≤ x5_4) = true := decide_eq_true c44
                clear c44
                obtain ⟨ji45, hji45⟩ : ∃ j_ : Int, (wrap64 (x3_4 + x7_4)) = j_ := ⟨_, rfl⟩
                replace H : (if 0 ≤ (ji45) then (if (ji45) < (a0.size : Int) then (if (bt a0 (ji45)) < 128 then (some false) else (if (bt a0 (ji45)) > 191 then (some false) else (counterpaneref1_Utf8.l1 k4 a0 x3_4 x5_4 (wrap64 (x7_4 + 1))))) else (none)) else (none)) = some r := by first | (rw [hji45] at H; exact H) | (simp only [hji45] at H ⊢; exact H)
                have hji45w : (IntKind.i64.wrap (x3_4 + x7_4)) = ji45 := (i64_w _).trans hji45
                by_cases c46 : 0 ≤ (ji45)
                ·rw [if_pos c46] at H
                 have c46b0 : decide (0 ≤ (ji45)) = true := decide_eq_true c46
                 clear c46
                 by_cases c47 : (ji45) < (a0.size : Int)
                 ·rw [if_pos c47] at H
                  have c47b0 : decide ((ji45) < (a0.size : Int)) = true := decide_eq_true c47
                  clear c47
                  by_cases c49 : (bt a0 (ji45)) < 128
                  ·rw [if_pos c49] at H
                   have c49b0 : decide ((bt a0 (ji45)) < 128) = true := decide_eq_true c49
                   clear c49
                   obtain rfl := Option.some.inj H
                   have p48 : 0 ≤ ((ji45) : Int) := of_decide_eq_true (by first | (with_reducible assumption) | assumption)
                   have q48 : (ji45) < (a0.size : Int) := of_decide_eq_true (by first | (with_reducible assumption) | assumption)
                   have hx48 := bt_at a0 (ji45)
                   replace p48 := eq_true p48
                   replace q48 := eq_true q48
                   try (have q48z := q48; simp only [ByteArray.size_extract, Nat.min_self] at q48z)
                   go_wp2
                   go_ret
                   exact ⟨by first | rfl | (simp; done) | (simp only [← hji16, ← hji45] <;> (first | rfl | simp)) | (simp [*]; done), by repeat (first | exact Drawn0.refl _ | apply Drawn0.step)⟩
                  ·rw [if_neg c49] at H
                   have c49b0 : decide ((bt a0 (ji45)) < 128) = false := decide_eq_false c49
                   clear c49
                   by_cases c51 : (bt a0 (ji45)) > 191
                   ·rw [if_pos c51] at H
                    have c51b0 : decide (191 < (bt a0 (ji45))) = true := decide_eq_true c51
                    clear c51
                    obtain rfl := Option.some.inj H
                    have p48 : 0 ≤ ((ji45) : Int) := of_decide_eq_true (by first | (with_reducible assumption) | assumption)
                    have q48 : (ji45) < (a0.size : Int) := of_decide_eq_true (by first | (with_reducible assumption) | assumption)
                    have hx48 := bt_at a0 (ji45)
                    replace p48 := eq_true p48
                    replace q48 := eq_true q48
                    try (have q48z := q48; simp only [ByteArray.size_extract, Nat.min_self] at q48z)
                    have p50 : 0 ≤ ((ji45) : Int) := of_decide_eq_true (by first | (with_reducible assumption) | assumption)
                    have q50 : (ji45) < (a0.size : Int) := of_decide_eq_true (by first | (with_reducible assumption) | assumption)
                    have hx50 := bt_at a0 (ji45)
                    replace p50 := eq_true p50
                    replace q50 := eq_true q50
                    try (have q50z := q50; simp only [ByteArray.size_extract, Nat.min_self] at q50z)
                    go_wp2
                    go_ret
                    exact ⟨by first | rfl | (simp; done) | (simp only [← hji16, ← hji45] <;> (first | rfl | simp)) | (simp [*]; done), by repeat (first | exact Drawn0.refl _ | apply Drawn0.step)⟩
                   ·rw [if_neg c51] at H
                    have c51b0 : decide (191 < (bt a0 (ji45))) = false := decide_eq_false c51
                    clear c51
                    have H' := Aside0.mk H
                    clear H
                    have p48 : 0 ≤ ((ji45) : Int) := of_decide_eq_true (by first | (with_reducible assumption) | assumption)
                    have q48 : (ji45) < (a0.size : Int) := of_decide_eq_true (by first | (with_reducible assumption) | assumption)
                    have hx48 := bt_at a0 (ji45)
                    replace p48 := eq_true p48
                    replace q48 := eq_true q48
                    try (have q48z := q48; simp only [ByteArray.size_extract, Nat.min_self] at q48z)
                    have p50 : 0 ≤ ((ji45) : Int) := of_decide_eq_true (by first | (with_reducible assumption) | assumption)
                    have q50 : (ji45) < (a0.size : Int) := of_decide_eq_true (by first | (with_reducible assumption) | assumption)
                    have hx50 := bt_at a0 (ji45)
                    replace p50 := eq_true p50
                    replace q50 := eq_true q50
                    try (have q50z := q50; simp only [ByteArray.size_extract, Nat.min_self] at q50z)
                    go_wp2
                    go_roundg k4
                    case measure => have := HK1.out; have := HJ4.out; have := HJ19.out; have := HK4.out; omega
                    case rel => exact ⟨(wrap64 (x7_4 + 1)), (by first | rfl | (simp; done) | (simp [*]; done)), H', ⟨by have := HK1.out; have := HJ4.out; have := HJ19.out; have := HK4.out; omega⟩, by repeat (first | exact Drawn0.refl _ | apply Drawn0.step)⟩
                 ·rw [if_neg c47] at H
                  exact absurd H (by simp)
                ·rw [if_neg c46] at H
                 exact absurd H (by simp)
               ·rw [if_neg c44] at H
                have c44b0 : decide (x7_4 ≤ x5_4) = false := decide_eq_false c44
                clear c44
                have H' := Aside0.mk H
                clear H
                go_wp2
                go_roundg k4
                case measure => have := HK1.out; have := HJ4.out; have := HJ19.out; have := HK4.out; omega
                case rel => exact ⟨(wrap64 (x3_4 + (wrap64 (x5_4 + 1)))), (by first | rfl | (simp; done) | (simp [*]; done)), H', ⟨by have := HK1.out; have := HJ4.out; have := HJ19.out; have := HK4.out; omega⟩, by repeat (first | exact Drawn0.refl _ | apply Drawn0.step)⟩
         ·rw [if_neg c18] at H
          exact absurd H (by simp)
        ·rw [if_neg c17] at H
         exact absurd H (by simp)
    ·rw [if_neg c3] at H
     exact absurd H (by simp)
   ·rw [if_neg c2] at H
    have c2b0 : decide (x3_1 < (a0.size : Int)) = false := decide_eq_false c2
    clear c2
    obtain rfl := Option.some.inj H
    go_wp2
    go_ret
    exact ⟨by first | rfl | (simp; done) | (simp [*]; done) | (simp; generalize ByteArray.toList _ = l_; cases l_ <;> rfl), by repeat (first | exact Drawn0.refl _ | apply Drawn0.step)⟩

end Go.Proofs.YtfnbflhoaemmeaaGreatDoor.EVal
