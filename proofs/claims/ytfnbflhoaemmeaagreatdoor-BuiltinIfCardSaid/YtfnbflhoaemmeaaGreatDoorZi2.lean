/- Part 2 of what the claim's proof stands on: contracts of the program's functions, by walks, and plain laws. -/
import Derived.Test.YtfnbflhoaemmeaaGreatDoorZi1
import Derived.Laws.Cover1
import Derived.Lib.Bytealg
import Derived.Lib.ValidLaws
section
namespace Go.Proofs.YtfnbflhoaemmeaaGreatDoor.EVal
open Go.RowKit Go.Proofs.YtfnbflhoaemmeaaGreatDoor.Ext Go.Proofs.YtfnbflhoaemmeaaGreatDoor.EFxA Go.Proofs.YtfnbflhoaemmeaaGreatDoor.EFix Go.Proofs.YtfnbflhoaemmeaaGreatDoorW.PrintWords Go.Proofs.YtfnbflhoaemmeaaGreatDoorW.PrintLast Go.Proofs.YtfnbflhoaemmeaaGreatDoorW.PrintMore
attribute [local go_sem] max2_int min2_int max_two min_two max_three min_three max_four min_four   
set_option linter.unusedVariables false
set_option linter.unusedSimpArgs false
mutual
def counterpaneref1_Utf8.l0 : Nat → ByteArray → Int → Option (Bool)
 | 0, _, _ => none
 | k + 1, x0, x3 => if x3 < (x0.size : Int) then (if 0 ≤ x3 then (if (bt x0 x3) < 128 then (counterpaneref1_Utf8.l0 k x0 (wrap64 (x3 + 1))) else (if (bt x0 x3) ≥ 194 then (counterpaneref1_Utf8.j1 k x0 x3 (bt x0 x3) (decide ((bt x0 x3) ≤ 223))) else (counterpaneref1_Utf8.j1 k x0 x3 (bt x0 x3) false))) else (none)) else (some true)
def counterpaneref1_Utf8.j3 : Nat → ByteArray → Int → Int → Int → Option (Bool)
 | 0, _, _, _, _ => none
 | k + 1, x0, x3, x4, x5 => if (wrap64 (x3 + x5)) ≥ (x0.size : Int) then (some false) else (if 0 ≤ (wrap64 (x3 + 1)) then (if (wrap64 (x3 + 1)) < (x0.size : Int) then (if x4 = 224 then (if (bt x0 (wrap64 (x3 + 1))) < 160 then (counterpaneref1_Utf8.j4 k x0 x3 x5 true) else (if x4 = 237 then (if (bt x0 (wrap64 (x3 + 1))) > 159 then (counterpaneref1_Utf8.j4 k x0 x3 x5 true) else (if x4 = 240 then (if (bt x0 (wrap64 (x3 + 1))) < 144 then (counterpaneref1_Utf8.j4 k x0 x3 x5 true) else (if x4 = 244 then (counterpaneref1_Utf8.j4 k x0 x3 x5 (decide ((bt x0 (wrap64 (x3 + 1))) > 143))) else (counterpaneref1_Utf8.j4 k x0 x3 x5 false))) else (if x4 = 244 then (counterpaneref1_Utf8.j4 k x0 x3 x5 (decide ((bt x0 (wrap64 (x3 + 1))) > 143))) else (counterpaneref1_Utf8.j4 k x0 x3 x5 false)))) else (if x4 = 240 then (if (bt x0 (wrap64 (x3 + 1))) < 144 then (counterpaneref1_Utf8.j4 k x0 x3 x5 true) else (if x4 = 244 then (counterpaneref1_Utf8.j4 k x0 x3 x5 (decide ((bt x0 (wrap64 (x3 + 1))) > 143))) else (counterpaneref1_Utf8.j4 k x0 x3 x5 false))) else (if x4 = 244 then (counterpaneref1_Utf8.j4 k x0 x3 x5 (decide ((bt x0 (wrap64 (x3 + 1))) > 143))) else (counterpaneref1_Utf8.j4 k x0 x3 x5 false))))) else (if x4 = 237 then (if (bt x0 (wrap64 (x3 + 1))) > 159 then (counterpaneref1_Utf8.j4 k x0 x3 x5 true) else (if x4 = 240 then (if (bt x0 (wrap64 (x3 + 1))) < 144 then (counterpaneref1_Utf8.j4 k x0 x3 x5 true) else (if x4 = 244 then (counterpaneref1_Utf8.j4 k x0 x3 x5 (decide ((bt x0 (wrap64 (x3 + 1))) > 143))) else (counterpaneref1_Utf8.j4 k x0 x3 x5 false))) else (if x4 = 244 then (counterpaneref1_Utf8.j4 k x0 x3 x5 (decide ((bt x0 (wrap64 (x3 + 1))) > 143))) else (counterpaneref1_Utf8.j4 k x0 x3 x5 false)))) else (if x4 = 240 then (if (bt x0 (wrap64 (x3 + 1))) < 144 then (counterpaneref1_Utf8.j4 k x0 x3 x5 true) else (if x4 = 244 then (counterpaneref1_Utf8.j4 k x0 x3 x5 (decide ((bt x0 (wrap64 (x3 + 1))) > 143))) else (counterpaneref1_Utf8.j4 k x0 x3 x5 false))) else (if x4 = 244 then (counterpaneref1_Utf8.j4 k x0 x3 x5 (decide ((bt x0 (wrap64 (x3 + 1))) > 143))) else (counterpaneref1_Utf8.j4 k x0 x3 x5 false))))) else (none)) else (none))
def counterpaneref1_Utf8.j4 : Nat → ByteArray → Int → Int → Bool → Option (Bool)
 | 0, _, _, _, _ => none
 | k + 1, x0, x3, x5, x80 => if x80 = true then (some false) else (counterpaneref1_Utf8.l1 k x0 x3 x5 1)
def counterpaneref1_Utf8.l1 : Nat → ByteArray → Int → Int → Int → Option (Bool)
 | 0, _, _, _, _ => none
 | k + 1, x0, x3, x5, x7 => if x7 ≤ x5 then (if 0 ≤ (wrap64 (x3 + x7)) then (if (wrap64 (x3 + x7)) < (x0.size : Int) then (if (bt x0 (wrap64 (x3 + x7))) < 128 then (some false) else (if (bt x0 (wrap64 (x3 + x7))) > 191 then (some false) else (counterpaneref1_Utf8.l1 k x0 x3 x5 (wrap64 (x7 + 1))))) else (none)) else (none)) else (counterpaneref1_Utf8.l0 k x0 (wrap64 (x3 + (wrap64 (x5 + 1)))))
def counterpaneref1_Utf8.j1 : Nat → ByteArray → Int → Int → Bool → Option (Bool)
 | 0, _, _, _, _ => none
 | k + 1, x0, x3, x4, x20 => if x20 = true then (counterpaneref1_Utf8.j3 k x0 x3 x4 1) else (if x4 ≥ 224 then (counterpaneref1_Utf8.j2 k x0 x3 x4 (decide (x4 ≤ 239))) else (counterpaneref1_Utf8.j2 k x0 x3 x4 false))
def counterpaneref1_Utf8.j2 : Nat → ByteArray → Int → Int → Bool → Option (Bool)
 | 0, _, _, _, _ => none
 | k + 1, x0, x3, x4, x27 => if x27 = true then (counterpaneref1_Utf8.j3 k x0 x3 x4 2) else (if x4 ≥ 240 then (if x4 ≤ 244 then (counterpaneref1_Utf8.j3 k x0 x3 x4 3) else (some false)) else (some false))
end
def counterpaneref1_Utf8.f (k : Nat) (a0 : ByteArray) : Option (Bool) := counterpaneref1_Utf8.l0 k a0 0
set_option maxHeartbeats 8000000 in
set_option maxRecDepth 100000 in
theorem counterpaneref1_Utf8.calls (k : Nat) (a0 : ByteArray) (r : Bool) (w : World) (h : counterpaneref1_Utf8.f k a0 = some r) :
  Calls Tryz.prog 50 #[.string a0] w fun e w' => e = .returned (.bool r) ∧ Drawn0 w w' := by
 have H : (counterpaneref1_Utf8.l0 k a0 0) = some r := h
 clear h
 have H' := Aside0.mk H
 clear H
 go_enter Tryz.func50, Tryz.ntmps50
 go_wp2
 go_loopg [3] k (fun kq v3 w' => ∃ (x3_1 : Int), v3 = .int .i64 x3_1 ∧ Aside0 (counterpaneref1_Utf8.l0 kq a0 x3_1 = some r) ∧ Aside0 (kq ≤ k) ∧ Drawn0 w w')
 case atStart => exact ⟨(0), (by first | rfl | (simp; done) | (simp [*]; done)), H', ⟨Nat.le_refl _⟩, by repeat (first | exact Drawn0.refl _ | apply Drawn0.step)⟩
 case round =>
  clear H'
  obtain ⟨x3_1, rfl, HA, HK1, ⟨m1, rfl⟩⟩ := hrel
  cases gk with
  | zero => exact absurd HA.out (by simp [counterpaneref1_Utf8.l0])
  | succ k1 =>
   have H := HA.out
   clear HA
   simp only [counterpaneref1_Utf8.l0] at H
   by_cases c2 : x3_1 < (a0.size : Int)
   ·rw [if_pos c2] at H
    have c2b0 : decide (x3_1 < (a0.size : Int)) = true := decide_eq_true c2
    clear c2
    by_cases c3 : 0 ≤ x3_1
    ·rw [if_pos c3] at H
     have c3b0 : decide (0 ≤ x3_1) = true := decide_eq_true c3
     clear c3
     have HC5 := Aside0.mk H
     clear H
     have p4 : 0 ≤ (x3_1 : Int) := of_decide_eq_true (by first | (with_reducible assumption) | assumption)
     have q4 : x3_1 < (a0.size : Int) := of_decide_eq_true (by first | (with_reducible assumption) | assumption)
     have hx4 := bt_at a0 x3_1
     replace p4 := eq_true p4
     replace q4 := eq_true q4
     try (have q4z := q4; simp only [ByteArray.size_extract, Nat.min_self] at q4z)
     go_upto_block 2 with (fail)
     go_cut [3, 5] (fun v3 v5 wc => ∃ (kq : Nat) (x3_4 : Int) (x5_4 : Int), v3 = .int .i64 x3_4 ∧ v5 = .int .i64 x5_4 ∧ Aside0 (counterpaneref1_Utf8.j3 kq a0 x3_4 (bt a0 x3_1) x5_4 = some r) ∧ Aside0 (kq ≤ k1) ∧ Drawn0 w wc)
     case first =>
      have H := HC5.out
      clear HC5
      by_cases c6 : (bt a0 x3_1) < 128
      ·rw [if_pos c6] at H
       have c6b0 : decide ((bt a0 x3_1) < 128) = true := decide_eq_true c6
       clear c6
       (first | rw [c6b0] | (simp only [i64_w, i32_w]; rw [c6b0]) | skip)
       have H' := Aside0.mk H
       clear H
       go_wp2
       go_roundg k1
       case measure => have := HK1.out; omega
       case rel => exact ⟨(wrap64 (x3_1 + 1)), (by first | rfl | (simp; done) | (simp [*]; done)), H', ⟨by have := HK1.out; omega⟩, by repeat (first | exact Drawn0.refl _ | apply Drawn0.step)⟩
      ·rw [if_neg c6] at H
       have c6b0 : decide ((bt a0 x3_1) < 128) = false := decide_eq_false c6
       clear c6
       (first | rw [c6b0] | (simp only [i64_w, i32_w]; rw [c6b0]) | skip)
       have HC7 := Aside0.mk H
       clear H
       go_upto_region 8 with (fail)
       go_cut [20] (fun v20 wc => ∃ (kq : Nat) (x20_6 : Bool), v20 = .bool x20_6 ∧ Aside0 (counterpaneref1_Utf8.j1 kq a0 x3_1 (bt a0 x3_1) x20_6 = some r) ∧ Aside0 (kq ≤ k1) ∧ Drawn0 w wc)
       case first =>
        have H := HC7.out
        clear HC7
        by_cases c8 : (bt a0 x3_1) ≥ 194
        ·rw [if_pos c8] at H
         have c8b0 : decide (194 ≤ (bt a0 x3_1)) = true := decide_eq_true c8
         clear c8
         (first | rw [c8b0] | (simp only [i64_w, i32_w]; rw [c8b0]) | skip)
         have H' := Aside0.mk H
         clear H
         go_wp2
         go_meet
         case rel => exact ⟨_, (decide ((bt a0 x3_1) ≤ 223)), (by first | rfl | (simp; done) | (simp [*]; done)), H', ⟨by have := HK1.out; first | omega | exact Nat.le_refl _⟩, by repeat (first | exact Drawn0.refl _ | apply Drawn0.step)⟩
        ·rw [if_neg c8] at H
         have c8b0 : decide (194 ≤ (bt a0 x3_1)) = false := decide_eq_false c8
         clear c8
         (first | rw [c8b0] | (simp only [i64_w, i32_w]; rw [c8b0]) | skip)
         have H' := Aside0.mk H
         clear H
         go_wp2
         go_meet
         case rel => exact ⟨_, (false), (by first | rfl | (simp; done) | (simp [*]; done)), H', ⟨by have := HK1.out; first | omega | exact Nat.le_refl _⟩, by repeat (first | exact Drawn0.refl _ | apply Drawn0.step)⟩
       case rest =>
        clear HC7
        try clear c2
        try clear c2b0
        try clear p2
        try clear c3
        try clear c3b0
        try clear p4
        try clear q4
        try clear hx4
        try clear c5
        try clear c6
        try clear c6b0
        try clear p6
        try clear c8
        try clear c8b0
        try clear p4
        try clear q4
        obtain ⟨kq, x20_6, rfl, HA, HJ6, ⟨mc6, rfl⟩⟩ := hcut
        cases kq with
        | zero => exact absurd HA.out (by simp [counterpaneref1_Utf8.j1])
        | succ kj6 =>
         have H := HA.out
         clear HA
         simp only [counterpaneref1_Utf8.j1] at H
         by_cases c9 : x20_6 = true
         ·subst c9
          have H1 : (counterpaneref1_Utf8.j3 kj6 a0 x3_1 (bt a0 x3_1) 1) = some r := by rw [if_pos rfl] at H; exact H
          clear H
          have H := H1
          clear H1
          have H' := Aside0.mk H
          clear H
          go_wp2
          go_meet
          case rel => exact ⟨_, (x3_1), (1), (by first | rfl | (simp; done) | (simp [*]; done)), (by first | rfl | (simp; done) | (simp [*]; done)), H', ⟨by have := HK1.out; have := HJ6.out; first | omega | exact Nat.le_refl _⟩, by repeat (first | exact Drawn0.refl _ | apply Drawn0.step)⟩
         ·replace c9 := Bool.eq_false_iff.mpr c9
          subst c9
          have H1 : (if (bt a0 x3_1) ≥ 224 then (counterpaneref1_Utf8.j2 kj6 a0 x3_1 (bt a0 x3_1) (decide ((bt a0 x3_1) ≤ 239))) else (counterpaneref1_Utf8.j2 kj6 a0 x3_1 (bt a0 x3_1) false)) = some r := by rw [if_neg (show ¬ (false = true) by decide)] at H; exact H
          clear H
          have H := H1
          clear H1
          have HC10 := Aside0.mk H
          clear H
          go_upto_region 10 with (fail)
          go_cut [27] (fun v27 wc => ∃ (kq : Nat) (x27_9 : Bool), v27 = .bool x27_9 ∧ Aside0 (counterpaneref1_Utf8.j2 kq a0 x3_1 (bt a0 x3_1) x27_9 = some r) ∧ Aside0 (kq ≤ kj6) ∧ Drawn0 w wc)
          case first =>
           have H := HC10.out
           clear HC10
           by_cases c11 : (bt a0 x3_1) ≥ 224
           ·rw [if_pos c11] at H
            have c11b0 : decide (224 ≤ (bt a0 x3_1)) = true := decide_eq_true c11
            clear c11
            (first | rw [c11b0] | (simp only [i64_w, i32_w]; rw [c11b0]) | skip)
            have H' := Aside0.mk H
            clear H
            go_wp2
            go_meet
            case rel => exact ⟨_, (decide ((bt a0 x3_1) ≤ 239)), (by first | rfl | (simp; done) | (simp [*]; done)), H', ⟨by have := HK1.out; have := HJ6.out; first | omega | exact Nat.le_refl _⟩, by repeat (first | exact Drawn0.refl _ | apply Drawn0.step)⟩
           ·rw [if_neg c11] at H
            have c11b0 : decide (224 ≤ (bt a0 x3_1)) = false := decide_eq_false c11
            clear c11
            (first | rw [c11b0] | (simp only [i64_w, i32_w]; rw [c11b0]) | skip)
            have H' := Aside0.mk H
            clear H
            go_wp2
            go_meet
            case rel => exact ⟨_, (false), (by first | rfl | (simp; done) | (simp [*]; done)), H', ⟨by have := HK1.out; have := HJ6.out; first | omega | exact Nat.le_refl _⟩, by repeat (first | exact Drawn0.refl _ | apply Drawn0.step)⟩
          case rest =>
           clear HC10
           try clear c1
           try clear c2
           try clear c2b0
           try clear p2
           try clear c3
           try clear c3b0
           try clear p4
           try clear q4
           try clear hx4
           try clear c5
           try clear c6
           try clear c6b0
           try clear p6
           try clear c8
           try clear c8b0
           try clear c9
           try clear c11
           try clear c11b0
           try clear p2
           try clear p4
           try clear p6
           try clear q4
           obtain ⟨kq, x27_9, rfl, HA, HJ9, ⟨mc9, rfl⟩⟩ := hcut
           cases kq with
           | zero => exact absurd HA.out (by simp [counterpaneref1_Utf8.j2])
           | succ kj9 =>
            have H := HA.out
            clear HA
            simp only [counterpaneref1_Utf8.j2] at H
            by_cases c12 : x27_9 = true
            ·subst c12
             have H1 : (counterpaneref1_Utf8.j3 kj9 a0 x3_1 (bt a0 x3_1) 2) = some r := by rw [if_pos rfl] at H; exact H
             clear H
             have H := H1
             clear H1
             have H' := Aside0.mk H
             clear H
             go_wp2
             go_meet
             case rel => exact ⟨_, (x3_1), (2), (by first | rfl | (simp; done) | (simp [*]; done)), (by first | rfl | (simp; done) | (simp [*]; done)), H', ⟨by have := HK1.out; have := HJ6.out; have := HJ9.out; first | omega | exact Nat.le_refl _⟩, by repeat (first | exact Drawn0.refl _ | apply Drawn0.step)⟩
            ·replace c12 := Bool.eq_false_iff.mpr c12
             subst c12
             have H1 : (if (bt a0 x3_1) ≥ 240 then (if (bt a0 x3_1) ≤ 244 then (counterpaneref1_Utf8.j3 kj9 a0 x3_1 (bt a0 x3_1) 3) else (some false)) else (some false)) = some r := by rw [if_neg (show ¬ (false = true) by decide)] at H; exact H
             clear H
             have H := H1
             clear H1
             by_cases c13 : (bt a0 x3_1) ≥ 240
             ·rw [if_pos c13] at H
              have c13b0 : decide (240 ≤ (bt a0 x3_1)) = true := decide_eq_true c13
              clear c13
              by_cases c14 : (bt a0 x3_1) ≤ 244
              ·rw [if_pos c14] at H
               have c14b0 : decide ((bt a0 x3_1) ≤ 244) = true := decide_eq_true c14
               clear c14
               have H' := Aside0.mk H
               clear H
               go_wp2
               go_meet
               case rel => exact ⟨_, (x3_1), (3), (by first | rfl | (simp; done) | (simp [*]; done)), (by first | rfl | (simp; done) | (simp [*]; done)), H', ⟨by have := HK1.out; have := HJ6.out; have := HJ9.out; first | omega | exact Nat.le_refl _⟩, by repeat (first | exact Drawn0.refl _ | apply Drawn0.step)⟩
              ·rw [if_neg c14] at H
               have c14b0 : decide ((bt a0 x3_1) ≤ 244) = false := decide_eq_false c14
               clear c14
               obtain rfl := Option.some.inj H
               go_wp2
               go_ret
               exact ⟨by first | rfl | (simp; done) | (simp [*]; done) | (simp; generalize ByteArray.toList _ = l_; cases l_ <;> rfl), by repeat (first | exact Drawn0.refl _ | apply Drawn0.step)⟩
             ·rw [if_neg c13] at H
              have c13b0 : decide (240 ≤ (bt a0 x3_1)) = false := decide_eq_false c13
              clear c13
              obtain rfl := Option.some.inj H
              go_wp2
              go_ret
              exact ⟨by first | rfl | (simp; done) | (simp [*]; done) | (simp; generalize ByteArray.toList _ = l_; cases l_ <;> rfl), by repeat (first | exact Drawn0.refl _ | apply Drawn0.step)⟩
     case rest =>
      clear HC5
      try clear c1
      try clear c2
      try clear c2b0
      try clear p2
      try clear c3
      try clear c3b0
      try clear p4
      try clear q4
      try clear hx4
      try clear c5
      try clear c6
      try clear c6b0
      try clear p6
      try clear c8
      try clear c8b0
      try clear c9
      try clear c11
      try clear c11b0
      try clear c12
      try clear c13
      try clear c13b0
      try clear c14
      try clear c14b0
      try clear p2
      try clear p4
      try clear p6
      try clear q4
      obtain ⟨kq, x3_4, x5_4, rfl, rfl, HA, HJ4, ⟨mc4, rfl⟩⟩ := hcut
      cases kq with
      | zero => exact absurd HA.out (by simp [counterpaneref1_Utf8.j3])
      | succ kj4 =>
       have H := HA.out
       clear HA
       simp only [counterpaneref1_Utf8.j3] at H
       by_cases c15 : (wrap64 (x3_4 + x5_4)) ≥ (a0.size : Int)
       ·rw [if_pos c15] at H
        have c15b0 : decide ((a0.size : Int) ≤ (wrap64 (x3_4 + x5_4))) = true := decide_eq_true c15
        clear c15
        obtain rfl := Option.some.inj H
        go_wp2
        go_ret
        exact ⟨by first | rfl | (simp; done) | (simp [*]; done) | (simp; generalize ByteArray.toList _ = l_; cases l_ <;> rfl), by repeat (first | exact Drawn0.refl _ | apply Drawn0.step)⟩
       ·rw [if_neg c15] at H
        have c15b0 : decide ((a0.size : Int) ≤ (wrap64 (x3_4 + x5_4))) = false := decide_eq_false c15
        clear c15
        obtain ⟨ji16, hji16⟩ : ∃ j_ : Int, (wrap64 (x3_4 + 1)) = j_ := ⟨_, rfl⟩
        replace H : (if 0 ≤ (ji16) then (if (ji16) < (a0.size : Int) then (if (bt a0 x3_1) = 224 then (if (bt a0 (ji16)) < 160 then (counterpaneref1_Utf8.j4 kj4 a0 x3_4 x5_4 true) else (if (bt a0 x3_1) = 237 then (if (bt a0 (ji16)) > 159 then (counterpaneref1_Utf8.j4 kj4 a0 x3_4 x5_4 true) else (if (bt a0 x3_1) = 240 then (if (bt a0 (ji16)) < 144 then (counterpaneref1_Utf8.j4 kj4 a0 x3_4 x5_4 true) else (if (bt a0 x3_1) = 244 then (counterpaneref1_Utf8.j4 kj4 a0 x3_4 x5_4 (decide ((bt a0 (ji16)) > 143))) else (counterpaneref1_Utf8.j4 kj4 a0 x3_4 x5_4 false))) else (if (bt a0 x3_1) = 244 then (counterpaneref1_Utf8.j4 kj4 a0 x3_4 x5_4 (decide ((bt a0 (ji16)) > 143))) else (counterpaneref1_Utf8.j4 kj4 a0 x3_4 x5_4 false)))) else (if (bt a0 x3_1) = 240 then (if (bt a0 (ji16)) < 144 then (counterpaneref1_Utf8.j4 kj4 a0 x3_4 x5_4 true) else (if (bt a0 x3_1) = 244 then (counterpaneref1_Utf8.j4 kj4 a0 x3_4 x5_4 (decide ((bt a0 (ji16)) > 143))) else (counterpaneref1_Utf8.j4 kj4 a0 x3_4 x5_4 false))) else (if (bt a0 x3_1) = 244 then (counterpaneref1_Utf8.j4 kj4 a0 x3_4 x5_4 (decide ((bt a0 (ji16)) > 143))) else (counterpaneref1_Utf8.j4 kj4 a0 x3_4 x5_4 false))))) else (if (bt a0 x3_1) = 237 then (if (bt a0 (ji16)) > 159 then (counterpaneref1_Utf8.j4 kj4 a0 x3_4 x5_4 true) else (if (bt a0 x3_1) = 240 then (if (bt a0 (ji16)) < 144 then (counterpaneref1_Utf8.j4 kj4 a0 x3_4 x5_4 true) else (if (bt a0 x3_1) = 244 then (counterpaneref1_Utf8.j4 kj4 a0 x3_4 x5_4 (decide ((bt a0 (ji16)) > 143))) else (counterpaneref1_Utf8.j4 kj4 a0 x3_4 x5_4 false))) else (if (bt a0 x3_1) = 244 then (counterpaneref1_Utf8.j4 kj4 a0 x3_4 x5_4 (decide ((bt a0 (ji16)) > 143))) else (counterpaneref1_Utf8.j4 kj4 a0 x3_4 x5_4 false)))) else (if (bt a0 x3_1) = 240 then (if (bt a0 (ji16)) < 144 then (counterpaneref1_Utf8.j4 kj4 a0 x3_4 x5_4 true) else (if (bt a0 x3_1) = 244 then (counterpaneref1_Utf8.j4 kj4 a0 x3_4 x5_4 (decide ((bt a0 (ji16)) > 143))) else (counterpaneref1_Utf8.j4 kj4 a0 x3_4 x5_4 false))) else (if (bt a0 x3_1) = 244 then (counterpaneref1_Utf8.j4 kj4 a0 x3_4 x5_4 (decide ((bt a0 (ji16)) > 143))) else (counterpaneref1_Utf8.j4 kj4 a0 x3_4 x5_4 false))))) else (none)) else (none)) = some r := by first | (rw [hji16] at H; exact H) | (simp only [hji16] at H ⊢; exact H)
        have hji16w : (IntKind.i64.wrap (x3_4 + 1)) = ji16 := (i64_w _).trans hji16
        by_cases c17 : 0 ≤ (ji16)
        ·rw [if_pos c17] at H
         have c17b0 : decide (0 ≤ (ji16)) = true := decide_eq_true c17
         clear c17
         by_cases c18 : (ji16) < (a0.size : Int)
         ·rw [if_pos c18] at H
          have c18b0 : decide ((ji16) < (a0.size : Int)) = true := decide_eq_true c18
          clear c18
          have HC20 := Aside0.mk H
          clear H
          have p19 : 0 ≤ ((ji16) : Int) := of_decide_eq_true (by first | (with_reducible assumption) | assumption)
          have q19 : (ji16) < (a0.size : Int) := of_decide_eq_true (by first | (with_reducible assumption) | assumption)
          have hx19 := bt_at a0 (ji16)
          replace p19 := eq_true p19
          replace q19 := eq_true q19
          try (have q19z := q19; simp only [ByteArray.size_extract, Nat.min_self] at q19z)
          go_upto_region 17 with (fail)
          go_cut [80] (fun v80 wc => ∃ (kq : Nat) (x80_19 : Bool), v80 = .bool x80_19 ∧ Aside0 (counterpaneref1_Utf8.j4 kq a0 x3_4 x5_4 x80_19 = some r) ∧ Aside0 (kq ≤ kj4) ∧ Drawn0 w wc)
          case first =>
           have H := HC20.out
           clear HC20
           by_cases c21 : (bt a0 x3_1) = 224
           ·rw [if_pos c21] at H
            have c21b0 : ((bt a0 x3_1) == 224) = true := beq_iff_eq.mpr c21
            have c21b1 : ((bt a0 x3_1) != 224) = false := bne_eq_false_iff_eq.mpr c21
            clear c21
            (first | rw [c21b0] | (simp only [i64_w, i32_w]; rw [c21b0]) | skip)
            by_cases c22 : (bt a0 (ji16)) < 160
            ·rw [if_pos c22] at H
             have c22b0 : decide ((bt a0 (ji16)) < 160) = true := decide_eq_true c22
             clear c22
             have H' := Aside0.mk H
             clear H
             go_wp2
             go_meet
             case rel => exact ⟨_, (true), (by first | rfl | (simp; done) | (simp [*]; done)), H', ⟨by have := HK1.out; have := HJ4.out; first | omega | exact Nat.le_refl _⟩, by repeat (first | exact Drawn0.refl _ | apply Drawn0.step)⟩
            ·rw [if_neg c22] at H
             have c22b0 : decide ((bt a0 (ji16)) < 160) = false := decide_eq_false c22
             clear c22
             by_cases c23 : (bt a0 x3_1) = 237
             ·rw [if_pos c23] at H
              have c23b0 : ((bt a0 x3_1) == 237) = true := beq_iff_eq.mpr c23
              have c23b1 : ((bt a0 x3_1) != 237) = false := bne_eq_false_iff_eq.mpr c23
              clear c23
              by_cases c24 : (bt a0 (ji16)) > 159
              ·rw [if_pos c24] at H
               have c24b0 : decide (159 < (bt a0 (ji16))) = true := decide_eq_true c24
               clear c24
               have H' := Aside0.mk H
               clear H
               go_wp2
               go_meet
               case rel => exact ⟨_, (true), (by first | rfl | (simp; done) | (simp [*]; done)), H', ⟨by have := HK1.out; have := HJ4.out; first | omega | exact Nat.le_refl _⟩, by repeat (first | exact Drawn0.refl _ | apply Drawn0.step)⟩
              ·rw [if_neg c24] at H
               have c24b0 : decide (159 < (bt a0 (ji16))) = false := decide_eq_false c24
               clear c24
               by_cases c25 : (bt a0 x3_1) = 240
               ·rw [if_pos c25] at H
                have c25b0 : ((bt a0 x3_1) == 240) = true := beq_iff_eq.mpr c25
                have c25b1 : ((bt a0 x3_1) != 240) = false := bne_eq_false_iff_eq.mpr c25
                clear c25
                by_cases c26 : (bt a0 (ji16)) < 144
                ·rw [if_pos c26] at H
                 have c26b0 : decide ((bt a0 (ji16)) < 144) = true := decide_eq_true c26
                 clear c26
                 have H' := Aside0.mk H
                 clear H
                 go_wp2
                 go_meet
                 case rel => exact ⟨_, (true), (by first | rfl | (simp; done) | (simp [*]; done)), H', ⟨by have := HK1.out; have := HJ4.out; first | omega | exact Nat.le_refl _⟩, by repeat (first | exact Drawn0.refl _ | apply Drawn0.step)⟩
                ·rw [if_neg c26] at H
                 have c26b0 : decide ((bt a0 (ji16)) < 144) = false := decide_eq_false c26
                 clear c26
                 by_cases c27 : (bt a0 x3_1) = 244
                 ·rw [if_pos c27] at H
                  have c27b0 : ((bt a0 x3_1) == 244) = true := beq_iff_eq.mpr c27
                  have c27b1 : ((bt a0 x3_1) != 244) = false := bne_eq_false_iff_eq.mpr c27
                  clear c27
                  have H' := Aside0.mk H
                  clear H
                  go_wp2
                  go_meet
                  case rel => exact ⟨_, (decide ((bt a0 (ji16)) > 143)), (by first | rfl | (simp; done) | (simp only [← hji16] <;> (first | rfl | simp)) | (simp [*]; done)), H', ⟨by have := HK1.out; have := HJ4.out; first | omega | exact Nat.le_refl _⟩, by repeat (first | exact Drawn0.refl _ | apply Drawn0.step)⟩
                 ·rw [if_neg c27] at H
                  have c27b0 : ((bt a0 x3_1) == 244) = false := beq_eq_false_iff_ne.mpr c27
                  have c27b1 : ((bt a0 x3_1) != 244) = true := bne_iff_ne.mpr c27
                  have H' := Aside0.mk H
                  clear H
                  go_wp2
                  go_meet
                  case rel => exact ⟨_, (false), (by first | rfl | (simp; done) | (simp [*]; done)), H', ⟨by have := HK1.out; have := HJ4.out; first | omega | exact Nat.le_refl _⟩, by repeat (first | exact Drawn0.refl _ | apply Drawn0.step)⟩
               ·rw [if_neg c25] at H
                have c25b0 : ((bt a0 x3_1) == 240) = false := beq_eq_false_iff_ne.mpr c25
                have c25b1 : ((bt a0 x3_1) != 240) = true := bne_iff_ne.mpr c25
                by_cases c28 : (bt a0 x3_1) = 244
                ·rw [if_pos c28] at H
                 have c28b0 : ((bt a0 x3_1) == 244) = true := beq_iff_eq.mpr c28
                 have c28b1 : ((bt a0 x3_1) != 244) = false := bne_eq_false_iff_eq.mpr c28
                 clear c28
                 have H' := Aside0.mk H
                 clear H
                 go_wp2
                 go_meet
                 case rel => exact ⟨_, (decide ((bt a0 (ji16)) > 143)), (by first | rfl | (simp; done) | (simp only [← hji16] <;> (first | rfl | simp)) | (simp [*]; done)), H', ⟨by have := HK1.out; have := HJ4.out; first | omega | exact Nat.le_refl _⟩, by repeat (first | exact Drawn0.refl _ | apply Drawn0.step)⟩
                ·rw [if_neg c28] at H
                 have c28b0 : ((bt a0 x3_1) == 244) = false := beq_eq_false_iff_ne.mpr c28
                 have c28b1 : ((bt a0 x3_1) != 244) = true := bne_iff_ne.mpr c28
                 have H' := Aside0.mk H
                 clear H
                 go_wp2
                 go_meet
                 case rel => exact ⟨_, (false), (by first | rfl | (simp; done) | (simp [*]; done)), H', ⟨by have := HK1.out; have := HJ4.out; first | omega | exact Nat.le_refl _⟩, by repeat (first | exact Drawn0.refl _ | apply Drawn0.step)⟩
             ·rw [if_neg c23] at H
              have c23b0 : ((bt a0 x3_1) == 237) = false := beq_eq_false_iff_ne.mpr c23
              have c23b1 : ((bt a0 x3_1) != 237) = true := bne_iff_ne.mpr c23
              by_cases c29 : (bt a0 x3_1) = 240
              ·rw [if_pos c29] at H
               have c29b0 : ((bt a0 x3_1) == 240) = true := beq_iff_eq.mpr c29
               have c29b1 : ((bt a0 x3_1) != 240) = false := bne_eq_false_iff_eq.mpr c29
               clear c29
               by_cases c30 : (bt a0 (ji16)) < 144
               ·rw [if_pos c30] at H
                have c30b0 : decide ((bt a0 (ji16)) < 144) = true := decide_eq_true c30
                clear c30
                have H' := Aside0.mk H
                clear H
                go_wp2
                go_meet
                case rel => exact ⟨_, (true), (by first | rfl | (simp; done) | (simp [*]; done)), H', ⟨by have := HK1.out; have := HJ4.out; first | omega | exact Nat.le_refl _⟩, by repeat (first | exact Drawn0.refl _ | apply Drawn0.step)⟩
               ·rw [if_neg c30] at H
                have c30b0 : decide ((bt a0 (ji16)) < 144) = false := decide_eq_false c30
                clear c30
                by_cases c31 : (bt a0 x3_1) = 244
                ·rw [if_pos c31] at H
                 have c31b0 : ((bt a0 x3_1) == 244) = true := beq_iff_eq.mpr c31
                 have c31b1 : ((bt a0 x3_1) != 244) = false := bne_eq_false_iff_eq.mpr c31
                 clear c31
                 have H' := Aside0.mk H
                 clear H
                 go_wp2
                 go_meet
                 case rel => exact ⟨_, (decide ((bt a0 (ji16)) > 143)), (by first | rfl | (simp; done) | (simp only [← hji16] <;> (first | rfl | simp)) | (simp [*]; done)), H', ⟨by have := HK1.out; have := HJ4.out; first | omega | exact Nat.le_refl _⟩, by repeat (first | exact Drawn0.refl _ | apply Drawn0.step)⟩
                ·rw [if_neg c31] at H
                 have c31b0 : ((bt a0 x3_1) == 244) = false := beq_eq_false_iff_ne.mpr c31
                 have c31b1 : ((bt a0 x3_1) != 244) = true := bne_iff_ne.mpr c31
                 have H' := Aside0.mk H
                 clear H
                 go_wp2
                 go_meet
                 case rel => exact ⟨_, (false), (by first | rfl | (simp; done) | (simp [*]; done)), H', ⟨by have := HK1.out; have := HJ4.out; first | omega | exact Nat.le_refl _⟩, by repeat (first | exact Drawn0.refl _ | apply Drawn0.step)⟩
              ·rw [if_neg c29] at H
               have c29b0 : ((bt a0 x3_1) == 240) = false := beq_eq_false_iff_ne.mpr c29
               have c29b1 : ((bt a0 x3_1) != 240) = true := bne_iff_ne.mpr c29
               by_cases c32 : (bt a0 x3_1) = 244
               ·rw [if_pos c32] at H
                have c32b0 : ((bt a0 x3_1) == 244) = true := beq_iff_eq.mpr c32
                have c32b1 : ((bt a0 x3_1) != 244) = false := bne_eq_false_iff_eq.mpr c32
                clear c32
                have H' := Aside0.mk H
                clear H
                go_wp2
                go_meet
                case rel => exact ⟨_, (decide ((bt a0 (ji16)) > 143)), (by first | rfl | (simp; done) | (simp only [← hji16] <;> (first | rfl | simp)) | (simp [*]; done)), H', ⟨by have := HK1.out; have := HJ4.out; first | omega | exact Nat.le_refl _⟩, by repeat (first | exact Drawn0.refl _ | apply Drawn0.step)⟩
               ·rw [if_neg c32] at H
                have c32b0 : ((bt a0 x3_1) == 244) = false := beq_eq_false_iff_ne.mpr c32
                have c32b1 : ((bt a0 x3_1) != 244) = true := bne_iff_ne.mpr c32
                have H' := Aside0.mk H
                clear H
                go_wp2
                go_meet
                case rel => exact ⟨_, (false), (by first | rfl | (simp; done) | (simp [*]; done)), H', ⟨by have := HK1.out; have := HJ4.out; first | omega | exact Nat.le_refl _⟩, by repeat (first | exact Drawn0.refl _ | apply Drawn0.step)⟩
           ·rw [if_neg c21] at H
            have c21b0 : ((bt a0 x3_1) == 224) = false := beq_eq_false_iff_ne.mpr c21
            have c21b1 : ((bt a0 x3_1) != 224) = true := bne_iff_ne.mpr c21
            (first | rw [c21b0] | (simp only [i64_w, i32_w]; rw [c21b0]) | skip)
            by_cases c33 : (bt a0 x3_1) = 237
            ·rw [if_pos c33] at H
             have c33b0 : ((bt a0 x3_1) == 237) = true := beq_iff_eq.mpr c33
             have c33b1 : ((bt a0 x3_1) != 237) = false := bne_eq_false_iff_eq.mpr c33
             clear c33
             by_cases c34 : (bt a0 (ji16)) > 159
             ·rw [if_pos c34] at H
              have c34b0 : decide (159 < (bt a0 (ji16))) = true := decide_eq_true c34
              clear c34
              have H' := Aside0.mk H
              clear H
              go_wp2
              go_meet
              case rel => exact ⟨_, (true), (by first | rfl | (simp; done) | (simp [*]; done)), H', ⟨by have := HK1.out; have := HJ4.out; first | omega | exact Nat.le_refl _⟩, by repeat (first | exact Drawn0.refl _ | apply Drawn0.step)⟩
             ·rw [if_neg c34] at H
              have c34b0 : decide (159 < (bt a0 (ji16))) = false := decide_eq_false c34
              clear c34
              by_cases c35 : (bt a0 x3_1) = 240
              ·rw [if_pos c35] at H
               have c35b0 : ((bt a0 x3_1) == 240) = true := beq_iff_eq.mpr c35
               have c35b1 : ((bt a0 x3_1) != 240) = false := bne_eq_false_iff_eq.mpr c35
               clear c35
               by_cases c36 : (bt a0 (ji16)) < 144
               ·rw [if_pos c36] at H
                have c36b0 : decide ((bt a0 (ji16)) < 144) = true := decide_eq_true c36
                clear c36
                have H' := Aside0.mk H
                clear H
                go_wp2
                go_meet
                case rel => exact ⟨_, (true), (by first | rfl | (simp; done) | (simp [*]; done)), H', ⟨by have := HK1.out; have := HJ4.out; first | omega | exact Nat.le_refl _⟩, by repeat (first | exact Drawn0.refl _ | apply Drawn0.step)⟩
               ·rw [if_neg c36] at H
                have c36b0 : decide ((bt a0 (ji16)) < 144) = false := decide_eq_false c36
                clear c36
                by_cases c37 : (bt a0 x3_1) = 244
                ·rw [if_pos c37] at H
                 have c37b0 : ((bt a0 x3_1) == 244) = true := beq_iff_eq.mpr c37
                 have c37b1 : ((bt a0 x3_1) != 244) = false := bne_eq_false_iff_eq.mpr c37
                 clear c37
                 have H' := Aside0.mk H
                 clear H
                 go_wp2
                 go_meet
                 case rel => exact ⟨_, (decide ((bt a0 (ji16)) > 143)), (by first | rfl | (simp; done) | (simp only [← hji16] <;> (first | rfl | simp)) | (simp [*]; done)), H', ⟨by have := HK1.out; have := HJ4.out; first | omega | exact Nat.le_refl _⟩, by repeat (first | exact Drawn0.refl _ | apply Drawn0.step)⟩
                ·rw [if_neg c37] at H
                 have c37b0 : ((bt a0 x3_1) == 244) = false := beq_eq_false_iff_ne.mpr c37
                 have c37b1 : ((bt a0 x3_1) != 244) = true := bne_iff_ne.mpr c37
                 have H' := Aside0.mk H
                 clear H
                 go_wp2
                 go_meet
                 case rel => exact ⟨_, (false), (by first | rfl | (simp; done) | (simp [*]; done)), H', ⟨by have := HK1.out; have := HJ4.out; first | omega | exact Nat.le_refl _⟩, by repeat (first | exact Drawn0.refl _ | apply Drawn0.step)⟩
              ·rw [if_neg c35] at H
               have c35b0 : ((bt a0 x3_1) == 240) = false := beq_eq_false_iff_ne.mpr c35
               have c35b1 : ((bt a0 x3_1) != 240) = true := bne_iff_ne.mpr c35
               by_cases c38 : (bt a0 x3_1) = 244
               ·rw [if_pos c38] at H
                have c38b0 : ((bt a0 x3_1) == 244) = true := beq_iff_eq.mpr c38
                have c38b1 : ((bt a0 x3_1) != 244) = false := bne_eq_false_iff_eq.mpr c38
                clear c38
                have H' := Aside0.mk H
                clear H
                go_wp2
                go_meet
                case rel => exact ⟨_, (decide ((bt a0 (ji16)) > 143)), (by first | rfl | (simp; done) | (simp only [← hji16] <;> (first | rfl | simp)) | (simp [*]; done)), H', ⟨by have := HK1.out; have := HJ4.out; first | omega | exact Nat.le_refl _⟩, by repeat (first | exact Drawn0.refl _ | apply Drawn0.step)⟩
               ·rw [if_neg c38] at H
                have c38b0 : ((bt a0 x3_1) == 244) = false := beq_eq_false_iff_ne.mpr c38
                have c38b1 : ((bt a0 x3_1) != 244) = true := bne_iff_ne.mpr c38
                have H' := Aside0.mk H
                clear H
                go_wp2
                go_meet
                case rel => exact ⟨_, (false), (by first | rfl | (simp; done) | (simp [*]; done)), H', ⟨by have := HK1.out; have := HJ4.out; first | omega | exact Nat.le_refl _⟩, by repeat (first | exact Drawn0.refl _ | apply Drawn0.step)⟩
            ·rw [if_neg c33] at H
             have c33b0 : ((bt a0 x3_1) == 237) = false := beq_eq_false_iff_ne.mpr c33
             have c33b1 : ((bt a0 x3_1) != 237) = true := bne_iff_ne.mpr c33
             by_cases c39 : (bt a0 x3_1) = 240
             ·rw [if_pos c39] at H
              have c39b0 : ((bt a0 x3_1) == 240) = true := beq_iff_eq.mpr c39
              have c39b1 : ((bt a0 x3_1) != 240) = false := bne_eq_false_iff_eq.mpr c39
              clear c39
              by_cases c40 : (bt a0 (ji16)) < 144
              ·rw [if_pos c40] at H
               have c40b0 : decide ((bt a0 (ji16)) < 144) = true := decide_eq_true c40
               clear c40
               have H' := Aside0.mk H
               clear H
               go_wp2
               go_meet
               case rel => exact ⟨_, (true), (by first | rfl | (simp; done) | (simp [*]; done)), H', ⟨by have := HK1.out; have := HJ4.out; first | omega | exact Nat.le_refl _⟩, by repeat (first | exact Drawn0.refl _ | apply Drawn0.step)⟩
              ·rw [if_neg c40] at H
               have c40b0 : decide ((bt a0 (ji16)) < 144) = false := decide_eq_false c40
               clear c40
               by_cases c41 : (bt a0 x3_1) = 244
               ·rw [if_pos c41] at H
                have c41b0 : ((bt a0 x3_1) == 244) = true := beq_iff_eq.mpr c41
                have c41b1 : ((bt a0 x3_1) != 244) = false := bne_eq_false_iff_eq.mpr c41
                clear c41
                have H' := Aside0.mk H
                clear H
                go_wp2
                go_meet
                case rel => exact ⟨_, (decide ((bt a0 (ji16)) > 143)), (by first | rfl | (simp; done) | (simp only [← hji16] <;> (first | rfl | simp)) | (simp [*]; done)), H', ⟨by have := HK1.out; have := HJ4.out; first | omega | exact Nat.le_refl _⟩, by repeat (first | exact Drawn0.refl _ | apply Drawn0.step)⟩
               ·rw [if_neg c41] at H
                have c41b0 : ((bt a0 x3_1) == 244) = false := beq_eq_false_iff_ne.mpr c41
                have c41b1 : ((bt a0 x3_1) != 244) = true := bne_iff_ne.mpr c41
                have H' := Aside0.mk H
                clear H
                go_wp2
                go_meet
                case rel => exact ⟨_, (false), (by first | rfl | (simp; done) | (simp [*]; done)), H', ⟨by have := HK1.out; have := HJ4.out; first | omega | exact Nat.le_refl _⟩, by repeat (first | exact Drawn0.refl _ | apply Drawn0.step)⟩
             ·rw [if_neg c39] at H
              have c39b0 : ((bt a0 x3_1) == 240) = false := beq_eq_false_iff_ne.mpr c39
              have c39b1 : ((bt a0 x3_1) != 240) = true := bne_iff_ne.mpr c39
              by_cases c42 : (bt a0 x3_1) = 244
              ·rw [if_pos c42] at H
               have c42b0 : ((bt a0 x3_1) == 244) = true := beq_iff_eq.mpr c42
               have c42b1 : ((bt a0 x3_1) != 244) = false := bne_eq_false_iff_eq.mpr c42
               clear c42
               have H' := Aside0.mk H
               clear H
               go_wp2
               go_meet
               case rel => exact ⟨_, (decide ((bt a0 (ji16)) > 143)), (by first | rfl | (simp; done) | (simp only [← hji16] <;> (first | rfl | simp)) | (simp [*]; done)), H', ⟨by have := HK1.out; have := HJ4.out; first | omega | exact Nat.le_refl _⟩, by repeat (first | exact Drawn0.refl _ | apply Drawn0.step)⟩
              ·rw [if_neg c42] at H
               have c42b0 : ((bt a0 x3_1) == 244) = false := beq_eq_false_iff_ne.mpr c42
               have c42b1 : ((bt a0 x3_1) != 244) = true := bne_iff_ne.mpr c42
               have H' := Aside0.mk H
               clear H
               go_wp2
               go_meet
               case rel => exact ⟨_, (false), (by first | rfl | (simp; done) | (simp [*]; done)), H', ⟨by have := HK1.out; have := HJ4.out; first | omega | exact Nat.le_refl _⟩, by repeat (first | exact Drawn0.refl _ | apply Drawn0.step)⟩
          case rest =>
           clear HC20
           try clear c1
           try clear p1
           try clear q1
           try clear hx1
           try clear c2
           try clear c2b0
           try clear p2
           try clear c3
           try clear c3b0
           try clear c4
           try clear p4
           try clear q4
           try clear hx4
           try clear c5
           try clear c6
           try clear c6b0
           try clear p6
           try clear c8
           try clear c8b0
           try clear c9
           try clear c11
           try clear c11b0
           try clear c12
           try clear c13
           try clear c13b0
           try clear c14
           try clear c14b0
           try clear c15
           try clear c15b0
           try clear c17
           try clear c17b0
           try clear c18
           try clear c18b0
           try clear p19
           try clear q19
           try clear hx19
           try clear c21
           try clear c21b0
           try clear c21b1
           try clear c22
           try clear c22b0
           try clear c23
           try clear c23b0
           try clear c23b1
           try clear c24
           try clear c24b0
           try clear c25
           try clear c25b0
           try clear c25b1
           try clear c26
           try clear c26b0
           try clear c27
           try clear c27b0
           try clear c27b1
           try clear c28
           try clear c28b0
           try clear c28b1
           try clear c29
           try clear c29b0
           try clear c29b1
           try clear c30
           try clear c30b0
           try clear c31
           try clear c31b0
           try clear c31b1
           try clear c32
           try clear c32b0
           try clear c32b1
           try clear c33
           try clear c33b0
           try clear c33b1
           try clear c34
           try clear c34b0
           try clear c35
           try clear c35b0
           try clear c35b1
           try clear c36
           try clear c36b0
           try clear c37
           try clear c37b0
           try clear c37b1
           try clear c38
           try clear c38b0
           try clear c38b1
           try clear c39
           try clear c39b0
           try clear c39b1
           try clear c40
           try clear c40b0
           try clear c41
           try clear c41b0
           try clear c41b1
           try clear c42
           try clear c42b0
           try clear c42b1
           try clear p19
           try clear p2
           try clear p4
           try clear p6
           try clear q19
           try clear q4
           obtain ⟨kq, x80_19, rfl, HA, HJ19, ⟨mc19, rfl⟩⟩ := hcut
           cases kq with
           | zero => exact absurd HA.out (by simp [counterpaneref1_Utf8.j4])
           | succ kj19 =>
            have H := HA.out
            clear HA
            simp only [counterpaneref1_Utf8.j4] at H
            by_cases c43 : x80_19 = true
            ·subst c43
             have H1 : (some false) = some r := by rw [if_pos rfl] at H; exact H
             clear H
             have H := H1
             clear H1
             obtain rfl := Option.some.inj H
             go_wp2
             go_ret
             exact ⟨by first | rfl | (simp; done) | (simp only [← hji16] <;> (first | rfl | simp)) | (simp [*]; done), by repeat (first | exact Drawn0.refl _ | apply Drawn0.step)⟩
            ·replace c43 := Bool.eq_false_iff.mpr c43
             subst c43
             have H1 : (counterpaneref1_Utf8.l1 kj19 a0 x3_4 x5_4 1) = some r := by rw [if_neg (show ¬ (false = true) by decide)] at H; exact H
             clear H
             have H := H1
             clear H1
             have H' := Aside0.mk H
             clear H
             go_wp2
             go_loopg [7] kj19 (fun kq v7 w' => ∃ (x7_4 : Int), v7 = .int .i64 x7_4 ∧ Aside0 (counterpaneref1_Utf8.l1 kq a0 x3_4 x5_4 x7_4 = some r) ∧ Aside0 (kq ≤ kj19) ∧ Drawn0 w w')
             case atStart => exact ⟨(1), (by first | rfl | (simp; done) | (simp [*]; done)), H', ⟨Nat.le_refl _⟩, by repeat (first | exact Drawn0.refl _ | apply Drawn0.step)⟩
             case round =>
              clear H'
              try clear c1
              try clear p1
              try clear q1
              try clear hx1
              try clear c2
              try clear c2b0
              try clear p2
              try clear c3
              try clear c3b0
              try clear c4
              try clear p4
              try clear q4
              try clear hx4
              try clear c5
              try clear c6
              try clear c6b0
              try clear p6
              try clear c8
              try clear c8b0
              try clear c9
              try clear c11
              try clear c11b0
              try clear c12
              try clear c13
              try clear c13b0
              try clear c14
              try clear c14b0
              try clear c15
              try clear c15b0
              try clear c17
              try clear c17b0
              try clear c18
              try clear c18b0
              try clear c19
              try clear p19
              try clear q19
              try clear hx19
              try clear c21
              try clear c21b0
              try clear c21b1
              try clear c22
              try clear c22b0
              try clear c23
              try clear c23b0
              try clear c23b1
              try clear c24
              try clear c24b0
              try clear c25
              try clear c25b0
              try clear c25b1
              try clear c26
              try clear c26b0
              try clear c27
              try clear c27b0
              try clear c27b1
              try clear c28
              try clear c28b0
              try clear c28b1
              try clear c29
              try clear c29b0
              try clear c29b1
              try clear c30
              try clear c30b0
              try clear c31
              try clear c31b0
              try clear c31b1
              try clear c32
              try clear c32b0
              try clear c32b1
              try clear c33
              try clear c33b0
              try clear c33b1
              try clear c34
              try clear c34b0
              try clear c35
              try clear c35b0
              try clear c35b1
              try clear c36
              try clear c36b0
              try clear c37
              try clear c37b0
              try clear c37b1
              try clear c38
              try clear c38b0
              try clear c38b1
              try clear c39
              try clear c39b0
              try clear c39b1
              try clear c40
              try clear c40b0
              try clear c41
              try clear c41b0
              try clear c41b1
              try clear c42
              try clear c42b0
              try clear c42b1
              try clear c43
              try clear p1
              try clear p19
              try clear p2
              try clear p4
              try clear p6
              try clear q1
              try clear q19
              try clear q4
              obtain ⟨x7_4, rfl, HA, HK4, ⟨m4, rfl⟩⟩ := hrel
              cases gk with
              | zero => exact absurd HA.out (by simp [counterpaneref1_Utf8.l1])
              | succ k4 =>
               have H := HA.out
               clear HA
               simp only [counterpaneref1_Utf8.l1] at H
               by_cases c44 : x7_4 ≤ x5_4
               ·rw [if_pos c44] at H
                have c44b0 : decide (x7_4 ≤ x5_4) = true := decide_eq_true c44
                clear c44
                obtain ⟨ji45, hji45⟩ : ∃ j_ : Int, (wrap64 (x3_4 + x7_4)) = j_ := ⟨_, rfl⟩
                replace H : (if 0 ≤ (ji45) then (if (ji45) < (a0.size : Int) then (if (bt a0 (ji45)) < 128 then (some false) else (if (bt a0 (ji45)) > 191 then (some false) else (counterpaneref1_Utf8.l1 k4 a0 x3_4 x5_4 (wrap64 (x7_4 + 1))))) else (none)) else (none)) = some r := by first | (rw [hji45] at H; exact H) | (simp only [hji45] at H ⊢; exact H)
                have hji45w : (IntKind.i64.wrap (x3_4 + x7_4)) = ji45 := (i64_w _).trans hji45
                by_cases c46 : 0 ≤ (ji45)
                ·rw [if_pos c46] at H
                 have c46b0 : decide (0 ≤ (ji45)) = true := decide_eq_true c46
                 clear c46
                 by_cases c47 : (ji45) < (a0.size : Int)
                 ·rw [if_pos c47] at H
                  have c47b0 : decide ((ji45) < (a0.size : Int)) = true := decide_eq_true c47
                  clear c47
                  by_cases c49 : (bt a0 (ji45)) < 128
                  ·rw [if_pos c49] at H
                   have c49b0 : decide ((bt a0 (ji45)) < 128) = true := decide_eq_true c49
                   clear c49
                   obtain rfl := Option.some.inj H
                   have p48 : 0 ≤ ((ji45) : Int) := of_decide_eq_true (by first | (with_reducible assumption) | assumption)
                   have q48 : (ji45) < (a0.size : Int) := of_decide_eq_true (by first | (with_reducible assumption) | assumption)
                   have hx48 := bt_at a0 (ji45)
                   replace p48 := eq_true p48
                   replace q48 := eq_true q48
                   try (have q48z := q48; simp only [ByteArray.size_extract, Nat.min_self] at q48z)
                   go_wp2
                   go_ret
                   exact ⟨by first | rfl | (simp; done) | (simp only [← hji16, ← hji45] <;> (first | rfl | simp)) | (simp [*]; done), by repeat (first | exact Drawn0.refl _ | apply Drawn0.step)⟩
                  ·rw [if_neg c49] at H
                   have c49b0 : decide ((bt a0 (ji45)) < 128) = false := decide_eq_false c49
                   clear c49
                   by_cases c51 : (bt a0 (ji45)) > 191
                   ·rw [if_pos c51] at H
                    have c51b0 : decide (191 < (bt a0 (ji45))) = true := decide_eq_true c51
                    clear c51
                    obtain rfl := Option.some.inj H
                    have p48 : 0 ≤ ((ji45) : Int) := of_decide_eq_true (by first | (with_reducible assumption) | assumption)
                    have q48 : (ji45) < (a0.size : Int) := of_decide_eq_true (by first | (with_reducible assumption) | assumption)
                    have hx48 := bt_at a0 (ji45)
                    replace p48 := eq_true p48
                    replace q48 := eq_true q48
                    try (have q48z := q48; simp only [ByteArray.size_extract, Nat.min_self] at q48z)
                    have p50 : 0 ≤ ((ji45) : Int) := of_decide_eq_true (by first | (with_reducible assumption) | assumption)
                    have q50 : (ji45) < (a0.size : Int) := of_decide_eq_true (by first | (with_reducible assumption) | assumption)
                    have hx50 := bt_at a0 (ji45)
                    replace p50 := eq_true p50
                    replace q50 := eq_true q50
                    try (have q50z := q50; simp only [ByteArray.size_extract, Nat.min_self] at q50z)
                    go_wp2
                    go_ret
                    exact ⟨by first | rfl | (simp; done) | (simp only [← hji16, ← hji45] <;> (first | rfl | simp)) | (simp [*]; done), by repeat (first | exact Drawn0.refl _ | apply Drawn0.step)⟩
                   ·rw [if_neg c51] at H
                    have c51b0 : decide (191 < (bt a0 (ji45))) = false := decide_eq_false c51
                    clear c51
                    have H' := Aside0.mk H
                    clear H
                    have p48 : 0 ≤ ((ji45) : Int) := of_decide_eq_true (by first | (with_reducible assumption) | assumption)
                    have q48 : (ji45) < (a0.size : Int) := of_decide_eq_true (by first | (with_reducible assumption) | assumption)
                    have hx48 := bt_at a0 (ji45)
                    replace p48 := eq_true p48
                    replace q48 := eq_true q48
                    try (have q48z := q48; simp only [ByteArray.size_extract, Nat.min_self] at q48z)
                    have p50 : 0 ≤ ((ji45) : Int) := of_decide_eq_true (by first | (with_reducible assumption) | assumption)
                    have q50 : (ji45) < (a0.size : Int) := of_decide_eq_true (by first | (with_reducible assumption) | assumption)
                    have hx50 := bt_at a0 (ji45)
                    replace p50 := eq_true p50
                    replace q50 := eq_true q50
                    try (have q50z := q50; simp only [ByteArray.size_extract, Nat.min_self] at q50z)
                    go_wp2
                    go_roundg k4
                    case measure => have := HK1.out; have := HJ4.out; have := HJ19.out; have := HK4.out; omega
                    case rel => exact ⟨(wrap64 (x7_4 + 1)), (by first | rfl | (simp; done) | (simp [*]; done)), H', ⟨by have := HK1.out; have := HJ4.out; have := HJ19.out; have := HK4.out; omega⟩, by repeat (first | exact Drawn0.refl _ | apply Drawn0.step)⟩
                 ·rw [if_neg c47] at H
                  exact absurd H (by simp)
                ·rw [if_neg c46] at H
                 exact absurd H (by simp)
               ·rw [if_neg c44] at H
                have c44b0 : decide (x7_4 ≤ x5_4) = false := decide_eq_false c44
                clear c44
                have H' := Aside0.mk H
                clear H
                go_wp2
                go_roundg k4
                case measure => have := HK1.out; have := HJ4.out; have := HJ19.out; have := HK4.out; omega
                case rel => exact ⟨(wrap64 (x3_4 + (wrap64 (x5_4 + 1)))), (by first | rfl | (simp; done) | (simp [*]; done)), H', ⟨by have := HK1.out; have := HJ4.out; have := HJ19.out; have := HK4.out; omega⟩, by repeat (first | exact Drawn0.refl _ | apply Drawn0.step)⟩
         ·rw [if_neg c18] at H
          exact absurd H (by simp)
        ·rw [if_neg c17] at H
         exact absurd H (by simp)
    ·rw [if_neg c3] at H
     exact absurd H (by simp)
   ·rw [if_neg c2] at H
    have c2b0 : decide (x3_1 < (a0.size : Int)) = false := decide_eq_false c2
    clear c2
    obtain rfl := Option.some.inj H
    go_wp2
    go_ret
    exact ⟨by first | rfl | (simp; done) | (simp [*]; done) | (simp; generalize ByteArray.toList _ = l_; cases l_ <;> rfl), by repeat (first | exact Drawn0.refl _ | apply Drawn0.step)⟩
end Go.Proofs.YtfnbflhoaemmeaaGreatDoor.EVal
end
section
namespace Go.Proofs.YtfnbflhoaemmeaaGreatDoor.EVal
open Go.RowKit Go.Lib Go.Proofs.YtfnbflhoaemmeaaGreatDoorW.PrintWords Go.Proofs.YtfnbflhoaemmeaaGreatDoorW.PrintLast Go.Proofs.YtfnbflhoaemmeaaGreatDoor.Ext Go.Proofs.YtfnbflhoaemmeaaGreatDoor.EFxA Go.Proofs.YtfnbflhoaemmeaaGreatDoor.EFix
set_option linter.unusedVariables false
def B (x : ByteArray) (i j : Nat) : Nat := (((by_ x).drop i).getD j 0).toNat
theorem B_lt (x : ByteArray) (i j : Nat) : B x i j < 256 := UInt8.toNat_lt _
theorem bt_B (x : ByteArray) (i j : Nat) (h : i + j < x.size) : bt x ((i : Int) + (j : Int)) = (B x i j : Int) := by
  have hl := by_len x
  have e : ((i : Int) + (j : Int)) = ((i + j : Nat) : Int) := by omega
  rw [e, bt_by x (i + j) (by omega)]
  unfold B
  rw [List.getD_eq_getElem?_getD, List.getElem?_drop, List.getElem?_eq_getElem (by omega)]
  rfl
theorem bt_B0 (x : ByteArray) (i : Nat) (h : i < x.size) : bt x (i : Int) = (B x i 0 : Int) := by
  have := bt_B x i 0 (by omega)
  rw [show ((i : Int) + ((0 : Nat) : Int)) = (i : Int) by omega] at this
  exact this
theorem bt_B1 (x : ByteArray) (i : Nat) (h : i + 1 < x.size) : bt x ((i : Int) + 1) = (B x i 1 : Int) := bt_B x i 1 h
theorem run_step (k : Nat) (x : ByteArray) (i n j : Nat) (hs : x.size ≤ 100000) (hj : j ≤ n) (hn : i + n < x.size) :
    counterpaneref1_Utf8.l1 (k + 1) x i n j = if B x i j < 128 ∨ 191 < B x i j then some false else counterpaneref1_Utf8.l1 k x i n (j + 1 : Nat) := by
  have e1 : wrap64 ((i : Int) + (j : Int)) = (i : Int) + (j : Int) := wr _ (by omega) (by omega)
  have e2 : wrap64 ((j : Int) + 1) = ((j + 1 : Nat) : Int) := by rw [wr _ (by omega) (by omega)]; omega
  rw [counterpaneref1_Utf8.l1, e1, e2, bt_B x i j (by omega), if_pos (by omega), if_pos (by omega), if_pos (by omega)]
  by_cases c : B x i j < 128
  · rw [if_pos (by omega), if_pos (.inl c)]
  · rw [if_neg (by omega)]
    by_cases d : 191 < B x i j
    · rw [if_pos (by omega), if_pos (.inr d)]
    · rw [if_neg (by omega), if_neg (by omega)]
theorem run_end (k : Nat) (x : ByteArray) (i n : Nat) (hs : x.size ≤ 100000) (hn : i + n < x.size) :
    counterpaneref1_Utf8.l1 (k + 1) x i n (n + 1 : Nat) = counterpaneref1_Utf8.l0 k x ((i + (n + 1) : Nat) : Int) := by
  have e1 : wrap64 ((n : Int) + 1) = (n : Int) + 1 := wr _ (by omega) (by omega)
  have e2 : wrap64 ((i : Int) + ((n : Int) + 1)) = ((i + (n + 1) : Nat) : Int) := by rw [wr _ (by omega) (by omega)]; omega
  rw [counterpaneref1_Utf8.l1, e1, e2, if_neg (by omega)]
theorem j3_eq (k : Nat) (x : ByteArray) (i c n : Nat) (hs : x.size ≤ 100000) (hn : n ≤ 3) (h1 : 1 ≤ n) (hi : i < x.size) :
    counterpaneref1_Utf8.j3 (k + 2) x i c n = if x.size ≤ i + n then some false else if (c = 224 ∧ B x i 1 < 160) ∨ (c = 237 ∧ 159 < B x i 1) ∨ (c = 240 ∧ B x i 1 < 144) ∨ (c = 244 ∧ 143 < B x i 1) then some false else counterpaneref1_Utf8.l1 k x i n (1 : Nat) := by
  have e1 : wrap64 ((i : Int) + (n : Int)) = (i : Int) + (n : Int) := wr _ (by omega) (by omega)
  have e2 : wrap64 ((i : Int) + 1) = (i : Int) + 1 := wr _ (by omega) (by omega)
  rw [counterpaneref1_Utf8.j3, e1, e2]
  by_cases c0 : x.size ≤ i + n
  · rw [if_pos (by omega), if_pos c0]
  · rw [if_neg (by omega), if_neg c0, if_pos (by omega), if_pos (by omega), bt_B1 x i (by omega)]
    simp only [counterpaneref1_Utf8.j4, decide_eq_true_eq, if_true, Bool.false_eq_true, if_false]
    generalize B x i 1 = b
    by_cases d1 : c = 224
    · subst d1
      by_cases f : b < 160
      · rw [if_pos (by omega), if_pos (by omega), if_pos (by omega)]
      · rw [if_pos (by omega), if_neg (by omega), if_neg (by omega), if_neg (by omega), if_neg (by omega), if_neg (by omega)]
        rfl
    · rw [if_neg (by omega)]
      by_cases d2 : c = 237
      · subst d2
        by_cases f : 159 < b
        · rw [if_pos (by omega), if_pos (by omega), if_pos (by omega)]
        · rw [if_pos (by omega), if_neg (by omega), if_neg (by omega), if_neg (by omega), if_neg (by omega)]
          rfl
      · rw [if_neg (by omega)]
        by_cases d3 : c = 240
        · subst d3
          by_cases f : b < 144
          · rw [if_pos (by omega), if_pos (by omega), if_pos (by omega)]
          · rw [if_pos (by omega), if_neg (by omega), if_neg (by omega), if_neg (by omega)]
            rfl
        · rw [if_neg (by omega)]
          by_cases d4 : c = 244
          · subst d4
            by_cases f : 143 < b
            · rw [if_pos (by omega), if_pos (by omega), if_pos (by omega)]
            · rw [if_pos (by omega), if_neg (by omega), if_neg (by omega)]
              rfl
          · rw [if_neg (by omega), if_neg (by omega)]
            rfl
def okB (b : Nat) : Prop := 128 ≤ b ∧ b ≤ 191
instance (b : Nat) : Decidable (okB b) := inferInstanceAs (Decidable (_ ∧ _))
theorem run_1 (k : Nat) (x : ByteArray) (i : Nat) (hs : x.size ≤ 100000) (hn : i + 1 < x.size) :
    counterpaneref1_Utf8.l1 (k + 2) x i (1 : Nat) (1 : Nat) = if okB (B x i 1) then counterpaneref1_Utf8.l0 k x ((i + 2 : Nat) : Int) else some false := by
  rw [run_step (k + 1) x i 1 1 hs (by omega) (by omega), run_end k x i 1 hs (by omega)]
  by_cases c1 : okB (B x i 1)
  · rw [if_neg (by unfold okB at c1; omega), if_pos c1]
  · rw [if_pos (by unfold okB at c1; omega), if_neg c1]
theorem run_2 (k : Nat) (x : ByteArray) (i : Nat) (hs : x.size ≤ 100000) (hn : i + 2 < x.size) :
    counterpaneref1_Utf8.l1 (k + 3) x i (2 : Nat) (1 : Nat) = if okB (B x i 1) ∧ okB (B x i 2) then counterpaneref1_Utf8.l0 k x ((i + 3 : Nat) : Int) else some false := by
  rw [run_step (k + 2) x i 2 1 hs (by omega) (by omega), run_step (k + 1) x i 2 2 hs (by omega) (by omega), run_end k x i 2 hs (by omega)]
  by_cases c1 : okB (B x i 1)
  · rw [if_neg (by unfold okB at c1; omega)]
    by_cases c2 : okB (B x i 2)
    · rw [if_neg (by unfold okB at c2; omega), if_pos ⟨c1, c2⟩]
    · rw [if_pos (by unfold okB at c2; omega), if_neg (fun h => c2 h.2)]
  · rw [if_pos (by unfold okB at c1; omega), if_neg (fun h => c1 h.1)]
theorem run_3 (k : Nat) (x : ByteArray) (i : Nat) (hs : x.size ≤ 100000) (hn : i + 3 < x.size) :
    counterpaneref1_Utf8.l1 (k + 4) x i (3 : Nat) (1 : Nat) = if okB (B x i 1) ∧ okB (B x i 2) ∧ okB (B x i 3) then counterpaneref1_Utf8.l0 k x ((i + 4 : Nat) : Int) else some false := by
  rw [run_step (k + 3) x i 3 1 hs (by omega) (by omega), run_step (k + 2) x i 3 2 hs (by omega) (by omega), run_step (k + 1) x i 3 3 hs (by omega) (by omega), run_end k x i 3 hs (by omega)]
  by_cases c1 : okB (B x i 1)
  · rw [if_neg (by unfold okB at c1; omega)]
    by_cases c2 : okB (B x i 2)
    · rw [if_neg (by unfold okB at c2; omega)]
      by_cases c3 : okB (B x i 3)
      · rw [if_neg (by unfold okB at c3; omega), if_pos ⟨c1, c2, c3⟩]
      · rw [if_pos (by unfold okB at c3; omega), if_neg (fun h => c3 h.2.2)]
    · rw [if_pos (by unfold okB at c2; omega), if_neg (fun h => c2 h.2.1)]
  · rw [if_pos (by unfold okB at c1; omega), if_neg (fun h => c1 h.1)]
theorem lead_eq (l : List UInt8) (b0 sz lo hi : Nat) (hne : l ≠ []) (h0 : (l.getD 0 0).toNat = b0) (h128 : 128 ≤ b0) (e1 : firstT b0 % 8 = sz) (e2 : accLo (firstT b0 / 16) = lo) (e3 : accHi (firstT b0 / 16) = hi) :
    validD l = match checkN l.length (l.getD 1 0).toNat (l.getD 2 0).toNat (l.getD 3 0).toNat sz lo hi with
      | none => false
      | some k => validD (l.drop k) := by
  have h := validD_lead l hne (by omega)
  rw [h0, e1, e2, e3] at h
  exact h
def lo_ (b0 : Nat) : Nat := if b0 = 224 then 160 else if b0 = 240 then 144 else 128
def hi_ (b0 : Nat) : Nat := if b0 = 237 then 159 else if b0 = 244 then 143 else 191
def sz_ (b0 : Nat) : Nat := if b0 < 194 then 1 else if b0 < 224 then 2 else if b0 < 240 then 3 else if b0 < 245 then 4 else 1
set_option maxRecDepth 100000 in
theorem tabs : ∀ b : Fin 256, 128 ≤ b.val → firstT b.val % 8 = sz_ b.val ∧ (194 ≤ b.val → b.val < 245 → accLo (firstT b.val / 16) = lo_ b.val ∧ accHi (firstT b.val / 16) = hi_ b.val) := by decide +kernel
theorem lead_at (x : ByteArray) (i : Nat) (hi : i < x.size) (h128 : 128 ≤ B x i 0) :
    validD ((by_ x).drop i) = if sz_ (B x i 0) = 1 then false else if x.size < i + sz_ (B x i 0) then false else if B x i 1 < lo_ (B x i 0) ∨ hi_ (B x i 0) < B x i 1 ∨ (3 ≤ sz_ (B x i 0) ∧ ¬ okB (B x i 2)) ∨ (4 ≤ sz_ (B x i 0) ∧ ¬ okB (B x i 3)) then false else validD ((by_ x).drop (i + sz_ (B x i 0))) := by
  have hl := by_len x
  have hlen : ((by_ x).drop i).length = x.size - i := by rw [List.length_drop, hl]
  have hne : (by_ x).drop i ≠ [] := by intro h; rw [h] at hlen; simp at hlen; omega
  obtain ⟨t1, t2⟩ := tabs ⟨B x i 0, B_lt x i 0⟩ h128
  simp only at t1 t2
  obtain ⟨b0, hb0⟩ : ∃ b, B x i 0 = b := ⟨_, rfl⟩
  rw [hb0] at t1 t2 h128 ⊢
  have hb : b0 < 256 := by rw [← hb0]; exact B_lt x i 0
  have key := fun lo hi e2 e3 => lead_eq ((by_ x).drop i) b0 (sz_ b0) lo hi hne hb0 h128 t1 e2 e3
  have d1 : (((by_ x).drop i).getD 1 0).toNat = B x i 1 := rfl
  have d2 : (((by_ x).drop i).getD 2 0).toNat = B x i 2 := rfl
  have d3 : (((by_ x).drop i).getD 3 0).toNat = B x i 3 := rfl
  by_cases c : sz_ b0 = 1
  · rw [if_pos c, key _ _ rfl rfl, c]
    simp [checkN]
  · have hr : 194 ≤ b0 ∧ b0 < 245 := by unfold sz_ at c; revert c; repeat' split
                                        all_goals omega
    obtain ⟨t3, t4⟩ := t2 hr.1 hr.2
    rw [if_neg c, key _ _ t3 t4, d1, d2, d3, hlen]
    have hz : sz_ b0 = 2 ∨ sz_ b0 = 3 ∨ sz_ b0 = 4 := by unfold sz_ at c ⊢; revert c; repeat' split
                                                         all_goals omega
    unfold okB
    have hd : ∀ m, ((by_ x).drop i).drop m = (by_ x).drop (i + m) := fun m => by rw [List.drop_drop]
    generalize B x i 1 = b1
    generalize B x i 2 = b2
    generalize B x i 3 = b3
    generalize lo_ b0 = lo
    generalize hi_ b0 = hi'
    rcases hz with e | e | e
    · rw [e]
      unfold checkN
      rw [if_pos rfl]
      by_cases g : x.size - i < 2 ∨ b1 < lo ∨ hi' < b1
      · rw [if_pos g]
        dsimp only
        split <;> first | rfl | (split <;> first | rfl | omega)
      · rw [if_neg g, if_neg (by omega), if_neg (by omega)]
        exact congrArg validD (hd 2)
    · rw [e]
      unfold checkN
      rw [if_neg (by decide), if_pos rfl]
      by_cases g : x.size - i < 3 ∨ b1 < lo ∨ hi' < b1 ∨ b2 < 128 ∨ 191 < b2
      · rw [if_pos g]
        dsimp only
        split <;> first | rfl | (split <;> first | rfl | omega)
      · rw [if_neg g, if_neg (by omega), if_neg (by omega)]
        exact congrArg validD (hd 3)
    · rw [e]
      unfold checkN
      rw [if_neg (by decide), if_neg (by decide), if_pos rfl]
      by_cases g : x.size - i < 4 ∨ b1 < lo ∨ hi' < b1 ∨ b2 < 128 ∨ 191 < b2 ∨ b3 < 128 ∨ 191 < b3
      · rw [if_pos g]
        dsimp only
        split <;> first | rfl | (split <;> first | rfl | omega)
      · rw [if_neg g, if_neg (by omega), if_neg (by omega)]
        exact congrArg validD (hd 4)
def cond3 (c b1 : Nat) : Prop := (c = 224 ∧ b1 < 160) ∨ (c = 237 ∧ 159 < b1) ∨ (c = 240 ∧ b1 < 144) ∨ (c = 244 ∧ 143 < b1)
instance (c b1 : Nat) : Decidable (cond3 c b1) := inferInstanceAs (Decidable (_ ∨ _))
theorem cond_iff (c b1 : Nat) : (cond3 c b1 ∨ ¬ okB b1) ↔ (b1 < lo_ c ∨ hi_ c < b1) := by
  unfold cond3 okB lo_ hi_
  split <;> split <;> (try split) <;> (try split) <;> omega
theorem j3_eq' (k : Nat) (x : ByteArray) (i c n : Nat) (hs : x.size ≤ 100000) (hn : n ≤ 3) (h1 : 1 ≤ n) (hi : i < x.size) :
    counterpaneref1_Utf8.j3 (k + 2) x i c n = if x.size ≤ i + n then some false else if cond3 c (B x i 1) then some false else counterpaneref1_Utf8.l1 k x i n (1 : Nat) := j3_eq k x i c n hs hn h1 hi
theorem utf8_l : ∀ (n : Nat) (x : ByteArray) (i k : Nat), x.size - i ≤ n → i ≤ x.size → x.size ≤ 100000 → 10 * n + 10 ≤ k → counterpaneref1_Utf8.l0 k x (i : Int) = some (validD ((by_ x).drop i)) := by
  intro n
  induction n with
  | zero =>
    intro x i k h1 h2 hs hk
    obtain ⟨k, rfl⟩ : ∃ m, k = m + 1 := ⟨k - 1, by omega⟩
    have hl := by_len x
    rw [counterpaneref1_Utf8.l0, if_neg (by omega), List.drop_eq_nil_of_le (by omega)]
    rfl
  | succ n ih =>
    intro x i k h1 h2 hs hk
    have hl := by_len x
    by_cases hi : i < x.size
    · obtain ⟨k, rfl⟩ : ∃ m, k = m + 9 := ⟨k - 9, by omega⟩
      have hb0 := bt_B0 x i hi
      have hb := B_lt x i 0
      rw [counterpaneref1_Utf8.l0, if_pos (by omega), if_pos (by omega), hb0]
      by_cases c0 : B x i 0 < 128
      · rw [if_pos (by omega)]
        have e1 : wrap64 ((i : Int) + 1) = ((i + 1 : Nat) : Int) := by rw [wr _ (by omega) (by omega)]; omega
        rw [e1, ih x (i + 1) (k + 8) (by omega) (by omega) hs (by omega)]
        have hd : (by_ x).drop i = (by_ x)[i]'(by omega) :: (by_ x).drop (i + 1) := List.drop_eq_getElem_cons (by omega)
        have hb' : ((by_ x)[i]'(by omega)).toNat < 128 := by
          have e : B x i 0 = ((by_ x)[i]'(by omega)).toNat := by unfold B; rw [hd]; rfl
          omega
        rw [hd, validD_cons _ _ hb']
      · rw [if_neg (by omega), lead_at x i hi (by omega)]
        obtain ⟨c, hc⟩ : ∃ c, B x i 0 = c := ⟨_, rfl⟩
        rw [hc] at c0 hb ⊢
        have hci := cond_iff c (B x i 1)
        by_cases d1 : c < 194
        · have ez : sz_ c = 1 := by unfold sz_; rw [if_pos d1]
          rw [if_pos ez, if_neg (by omega), counterpaneref1_Utf8.j1, if_neg (by decide), if_neg (by omega), counterpaneref1_Utf8.j2, if_neg (by decide), if_neg (by omega)]
        · rw [if_pos (by omega)]
          by_cases d2 : c < 224
          · have ez : sz_ c = 2 := by unfold sz_; rw [if_neg d1, if_pos d2]
            have e2 : decide ((c : Int) ≤ 223) = true := decide_eq_true (by omega)
            rw [ez, if_neg (by decide), counterpaneref1_Utf8.j1, e2, if_pos rfl, show k + 7 = (k + 5) + 2 from rfl, show (1 : Int) = ((1 : Nat) : Int) from rfl, j3_eq' (k + 5) x i c 1 hs (by decide) (by decide) hi]
            by_cases g : x.size ≤ i + 1
            · rw [if_pos g, if_pos (by omega)]
            · rw [if_neg g, if_neg (show ¬ x.size < i + 2 by omega), show k + 5 = (k + 3) + 2 from rfl, run_1 (k + 3) x i hs (by omega)]
              by_cases q : B x i 1 < lo_ c ∨ hi_ c < B x i 1
              · rw [if_pos (show B x i 1 < lo_ c ∨ hi_ c < B x i 1 ∨ _ by rcases q with q | q; exact .inl q; exact .inr (.inl q))]
                rcases hci.2 q with q | q
                · rw [if_pos q]
                · rw [if_neg q]; split <;> rfl
              · have q2 : ¬ (cond3 c (B x i 1) ∨ ¬ okB (B x i 1)) := fun h => q (hci.1 h)
                have q3 : ¬ cond3 c (B x i 1) := fun h => q2 (.inl h)
                have q4 : okB (B x i 1) := Decidable.byContradiction fun h => q2 (.inr h)
                rw [if_neg q3, if_pos q4, if_neg (by rintro (h | h | h | h); exact q (.inl h); exact q (.inr h); exact absurd h.1 (by decide); exact absurd h.1 (by decide)), ih x (i + 2) (k + 3) (by omega) (by omega) hs (by omega)]
          · have e2 : decide ((c : Int) ≤ 223) = false := decide_eq_false (by omega)
            rw [counterpaneref1_Utf8.j1, e2, if_neg (by decide), if_pos (by omega)]
            by_cases d3 : c < 240
            · have ez : sz_ c = 3 := by unfold sz_; rw [if_neg d1, if_neg d2, if_pos d3]
              have e3 : decide ((c : Int) ≤ 239) = true := decide_eq_true (by omega)
              rw [ez, if_neg (by decide), counterpaneref1_Utf8.j2, e3, if_pos rfl, show k + 6 = (k + 4) + 2 from rfl, show (2 : Int) = ((2 : Nat) : Int) from rfl, j3_eq' (k + 4) x i c 2 hs (by decide) (by decide) hi]
              by_cases g : x.size ≤ i + 2
              · rw [if_pos g, if_pos (by omega)]
              · rw [if_neg g, if_neg (show ¬ x.size < i + 3 by omega), show k + 4 = (k + 1) + 3 from rfl, run_2 (k + 1) x i hs (by omega)]
                by_cases q : B x i 1 < lo_ c ∨ hi_ c < B x i 1
                · rw [if_pos (show B x i 1 < lo_ c ∨ hi_ c < B x i 1 ∨ _ by rcases q with q | q; exact .inl q; exact .inr (.inl q))]
                  by_cases q5 : cond3 c (B x i 1)
                  · rw [if_pos q5]
                  · rw [if_neg q5, if_neg (fun h => (hci.2 q).elim q5 (fun h2 => h2 h.1))]
                · have q2 : ¬ (cond3 c (B x i 1) ∨ ¬ okB (B x i 1)) := fun h => q (hci.1 h)
                  have q3 : ¬ cond3 c (B x i 1) := fun h => q2 (.inl h)
                  have q4 : okB (B x i 1) := Decidable.byContradiction fun h => q2 (.inr h)
                  rw [if_neg q3]
                  by_cases p2 : okB (B x i 2)
                  · rw [if_pos ⟨q4, p2⟩, if_neg (by rintro (h | h | h | h); exact q (.inl h); exact q (.inr h); exact h.2 p2; exact absurd h.1 (by decide)), ih x (i + 3) (k + 1) (by omega) (by omega) hs (by omega)]
                  · rw [if_neg (fun h => p2 h.2), if_pos (.inr (.inr (.inl ⟨by decide, p2⟩)))]
            · have e3 : decide ((c : Int) ≤ 239) = false := decide_eq_false (by omega)
              rw [counterpaneref1_Utf8.j2, e3, if_neg (by decide), if_pos (by omega)]
              by_cases d4 : c < 245
              · have ez : sz_ c = 4 := by unfold sz_; rw [if_neg d1, if_neg d2, if_neg d3, if_pos d4]
                rw [if_pos (show (c : Int) ≤ 244 by omega), ez, if_neg (show ¬ (4 : Nat) = 1 by decide), show k + 6 = (k + 4) + 2 from rfl, show (3 : Int) = ((3 : Nat) : Int) from rfl, j3_eq' (k + 4) x i c 3 hs (by decide) (by decide) hi]
                by_cases g : x.size ≤ i + 3
                · rw [if_pos g, if_pos (by omega)]
                · rw [if_neg g, if_neg (show ¬ x.size < i + 4 by omega), run_3 k x i hs (by omega)]
                  by_cases q : B x i 1 < lo_ c ∨ hi_ c < B x i 1
                  · rw [if_pos (show B x i 1 < lo_ c ∨ hi_ c < B x i 1 ∨ _ by rcases q with q | q; exact .inl q; exact .inr (.inl q))]
                    by_cases q5 : cond3 c (B x i 1)
                    · rw [if_pos q5]
                    · rw [if_neg q5, if_neg (fun h => (hci.2 q).elim q5 (fun h2 => h2 h.1))]
                  · have q2 : ¬ (cond3 c (B x i 1) ∨ ¬ okB (B x i 1)) := fun h => q (hci.1 h)
                    have q3 : ¬ cond3 c (B x i 1) := fun h => q2 (.inl h)
                    have q4 : okB (B x i 1) := Decidable.byContradiction fun h => q2 (.inr h)
                    rw [if_neg q3]
                    by_cases p2 : okB (B x i 2)
                    · by_cases p3 : okB (B x i 3)
                      · rw [if_pos ⟨q4, p2, p3⟩, if_neg (by rintro (h | h | h | h); exact q (.inl h); exact q (.inr h); exact h.2 p2; exact h.2 p3), ih x (i + 4) k (by omega) (by omega) hs (by omega)]
                      · rw [if_neg (fun h => p3 h.2.2), if_pos (.inr (.inr (.inr ⟨by decide, p3⟩)))]
                    · rw [if_neg (fun h => p2 h.2.1), if_pos (.inr (.inr (.inl ⟨by decide, p2⟩)))]
              · have ez : sz_ c = 1 := by unfold sz_; rw [if_neg d1, if_neg d2, if_neg d3, if_neg d4]
                rw [if_neg (show ¬ (c : Int) ≤ 244 by omega), if_pos ez]
    · obtain ⟨k, rfl⟩ : ∃ m, k = m + 1 := ⟨k - 1, by omega⟩
      rw [counterpaneref1_Utf8.l0, if_neg (by omega), List.drop_eq_nil_of_le (by omega)]
      rfl
theorem utf8_f (x : ByteArray) (hs : x.size ≤ 100000) (k : Nat) (hk : 10 * x.size + 10 ≤ k) : counterpaneref1_Utf8.f k x = some (validD (by_ x)) := by
  unfold counterpaneref1_Utf8.f
  have := utf8_l x.size x 0 k (by omega) (by omega) hs hk
  simpa using this
end Go.Proofs.YtfnbflhoaemmeaaGreatDoor.EVal
end
section
namespace Go.Proofs.YtfnbflhoaemmeaaGreatDoor.EVal
open Go.Lib
set_option linter.unusedSimpArgs false
set_option linter.unusedVariables false
theorem tri : ∀ (x y : List UInt8), (compareBytes x y = -1 ∧ Op.bytesLess x y = true ∧ Op.bytesLess y x = false ∧ x ≠ y) ∨ (compareBytes x y = 0 ∧ Op.bytesLess x y = false ∧ Op.bytesLess y x = false ∧ x = y) ∨ (compareBytes x y = 1 ∧ Op.bytesLess x y = false ∧ Op.bytesLess y x = true ∧ x ≠ y)
  | [], [] => by simp [compareBytes, Op.bytesLess]
  | [], b :: y => by simp [compareBytes, Op.bytesLess]
  | a :: x, [] => by simp [compareBytes, Op.bytesLess]
  | a :: x, b :: y => by
    have ih := tri x y
    simp only [compareBytes, Op.bytesLess]
    by_cases h : a < b
    · have h2 : ¬ b < a := UInt8.lt_asymm h
      have h3 : a ≠ b := UInt8.ne_of_lt h
      simp [h, h2, h3, Ne.symm h3]
    · by_cases h2 : b < a
      · have h3 : b ≠ a := UInt8.ne_of_lt h2
        simp [h, h2, h3, Ne.symm h3]
      · have e : a = b := UInt8.le_antisymm (UInt8.not_lt.1 h2) (UInt8.not_lt.1 h)
        subst e
        simpa [h] using ih
theorem gtr_less (x y : List UInt8) : (!(Op.bytesLess x y || x == y)) = Op.bytesLess y x := by
  rcases tri x y with ⟨_, h1, h2, h3⟩ | ⟨_, h1, h2, h3⟩ | ⟨_, h1, h2, h3⟩
  · rw [h1, h2]; simp
  · subst h3; rw [h1]; simp
  · rw [h1, h2]; simp [h3]
theorem run_gtr_string (t : TypeId) (a b : ByteArray) : binOp .gtr t (.string a) (.string b) = pure (.bool (Op.bytesLess b.toList a.toList)) := by
  rw [binOp_string_gtr, gtr_less]
end Go.Proofs.YtfnbflhoaemmeaaGreatDoor.EVal
namespace Go.Proofs.YtfnbflhoaemmeaaGreatDoor.EVal
open Go.RowKit Go.Lib Go.Proofs.YtfnbflhoaemmeaaGreatDoor.Ext Go.Proofs.YtfnbflhoaemmeaaGreatDoor.EFix
set_option linter.unusedVariables false
abbrev V5 := Int × Int × ByteArray × Bool × Int
def mayS (v : V5) : Bool :=
  (decide (v.1 = 1) || decide (v.2.1 = 0)) && (decide (v.1 = 2) || decide (by_ v.2.2.1 = [])) && (decide (v.1 = 3) || !v.2.2.2.1) && (decide (v.1 = 4) || decide (v.2.2.2.2 = 0)) &&
  (decide (v.1 = 0 ∨ v.1 = 1 ∨ v.1 = 3) || (decide (v.1 = 2) && (decide (v.2.2.1.size ≤ 200) && validD (by_ v.2.2.1))) || (decide (v.1 = 4) && decide (1 ≤ v.2.2.2.2 ∧ v.2.2.2.2 ≤ 7)))
end Go.Proofs.YtfnbflhoaemmeaaGreatDoor.EVal
end
section
namespace Go.Proofs.YtfnbflhoaemmeaaGreatDoor.EVal
open Go.RowKit Go.Proofs.YtfnbflhoaemmeaaGreatDoor.Ext Go.Proofs.YtfnbflhoaemmeaaGreatDoor.EFxA Go.Proofs.YtfnbflhoaemmeaaGreatDoor.EFix Go.Proofs.YtfnbflhoaemmeaaGreatDoorW.PrintWords Go.Proofs.YtfnbflhoaemmeaaGreatDoorW.PrintLast Go.Proofs.YtfnbflhoaemmeaaGreatDoorW.PrintMore
attribute [local go_sem] max2_int min2_int max_two min_two max_three min_three max_four min_four   
set_option linter.unusedVariables false
set_option linter.unusedSimpArgs false
theorem eqA24 (d : Nat) (w : World) (x0 y0 : Int) (x1 y1 : Int) (x2 y2 : ByteArray) (x3 y3 : Bool) (x4 y4 : Int) :
    (Op.equalIn (d + 2) 24 (.agg #[.int .i64 x0, .int .i64 x1, .string x2, .bool x3, .int .i64 x4]) (.agg #[.int .i64 y0, .int .i64 y1, .string y2, .bool y3, .int .i64 y4])).run Tryz.prog w = .ok (x0 == y0 && (x1 == y1 && (x2.toList == y2.toList && (x3 == y3 && (x4 == y4))))) w := by
  refine eqA_of Tryz.underlying24 (by kernel_rfl) ?_
  refine eqf_cons (by rfl) (by go_simp; rfl) (by go_simp; rfl) (by go_simp) ?_
  refine eqf_cons (by rfl) (by go_simp; rfl) (by go_simp; rfl) (by go_simp) ?_
  refine eqf_cons (by rfl) (by go_simp; rfl) (by go_simp; rfl) (by go_simp) ?_
  refine eqf_cons (by rfl) (by go_simp; rfl) (by go_simp; rfl) (by go_simp) ?_
  exact eqf_last (by rfl) (by go_simp; rfl) (by go_simp; rfl) (by go_simp)
end Go.Proofs.YtfnbflhoaemmeaaGreatDoor.EVal
end
section
namespace Go.Proofs.YtfnbflhoaemmeaaGreatDoor.EVal
open Go.RowKit Go.Proofs.YtfnbflhoaemmeaaGreatDoor.Ext Go.Proofs.YtfnbflhoaemmeaaGreatDoor.EFxA Go.Proofs.YtfnbflhoaemmeaaGreatDoor.EFix Go.Proofs.YtfnbflhoaemmeaaGreatDoorW.PrintWords Go.Proofs.YtfnbflhoaemmeaaGreatDoorW.PrintLast Go.Proofs.YtfnbflhoaemmeaaGreatDoorW.PrintMore
attribute [local go_sem] max2_int min2_int max_two min_two max_three min_three max_four min_four   
set_option linter.unusedVariables false
set_option linter.unusedSimpArgs false
def value_Name.f (a0 : Int) : Option (ByteArray) := if a0 = 1 then (some (⟨#[35, 82, 69, 70, 33]⟩ : ByteArray)) else (if a0 = 2 then (some (⟨#[35, 67, 89, 67, 76, 69, 33]⟩ : ByteArray)) else (if a0 = 3 then (some (⟨#[35, 68, 73, 86, 47, 48, 33]⟩ : ByteArray)) else (if a0 = 4 then (some (⟨#[35, 78, 85, 77, 33]⟩ : ByteArray)) else (if a0 = 5 then (some (⟨#[35, 86, 65, 76, 85, 69, 33]⟩ : ByteArray)) else (if a0 = 6 then (some (⟨#[35, 78, 65, 77, 69, 63]⟩ : ByteArray)) else (if a0 = 7 then (some (⟨#[35, 78, 47, 65]⟩ : ByteArray)) else (some (⟨#[]⟩ : ByteArray))))))))
set_option maxHeartbeats 8000000 in
set_option maxRecDepth 100000 in
theorem value_Name.calls (a0 : Int) (r : ByteArray) (w : World) (h : value_Name.f a0 = some r) :
  Calls Tryz.prog 15 #[.int .i64 a0] w fun e w' => e = .returned (.string r) ∧ Drawn0 w w' := by
 have H : (if a0 = 1 then (some (⟨#[35, 82, 69, 70, 33]⟩ : ByteArray)) else (if a0 = 2 then (some (⟨#[35, 67, 89, 67, 76, 69, 33]⟩ : ByteArray)) else (if a0 = 3 then (some (⟨#[35, 68, 73, 86, 47, 48, 33]⟩ : ByteArray)) else (if a0 = 4 then (some (⟨#[35, 78, 85, 77, 33]⟩ : ByteArray)) else (if a0 = 5 then (some (⟨#[35, 86, 65, 76, 85, 69, 33]⟩ : ByteArray)) else (if a0 = 6 then (some (⟨#[35, 78, 65, 77, 69, 63]⟩ : ByteArray)) else (if a0 = 7 then (some (⟨#[35, 78, 47, 65]⟩ : ByteArray)) else (some (⟨#[]⟩ : ByteArray))))))))) = some r := h
 clear h
 by_cases c2 : a0 = 1
 ·rw [if_pos c2] at H
  have c2b0 : (a0 == 1) = true := beq_iff_eq.mpr c2
  have c2b1 : (a0 != 1) = false := bne_eq_false_iff_eq.mpr c2
  clear c2
  obtain rfl := Option.some.inj H
  go_enter Tryz.func15, Tryz.ntmps15
  go_wp2
  go_ret
  exact ⟨by first | rfl | (simp; done) | (simp [*]; done) | (simp; generalize ByteArray.toList _ = l_; cases l_ <;> rfl), by repeat (first | exact Drawn0.refl _ | apply Drawn0.step)⟩
 ·rw [if_neg c2] at H
  have c2b0 : (a0 == 1) = false := beq_eq_false_iff_ne.mpr c2
  have c2b1 : (a0 != 1) = true := bne_iff_ne.mpr c2
  by_cases c3 : a0 = 2
  ·rw [if_pos c3] at H
   have c3b0 : (a0 == 2) = true := beq_iff_eq.mpr c3
   have c3b1 : (a0 != 2) = false := bne_eq_false_iff_eq.mpr c3
   clear c3
   obtain rfl := Option.some.inj H
   go_enter Tryz.func15, Tryz.ntmps15
   go_wp2
   go_ret
   exact ⟨by first | rfl | (simp; done) | (simp [*]; done) | (simp; generalize ByteArray.toList _ = l_; cases l_ <;> rfl), by repeat (first | exact Drawn0.refl _ | apply Drawn0.step)⟩
  ·rw [if_neg c3] at H
   have c3b0 : (a0 == 2) = false := beq_eq_false_iff_ne.mpr c3
   have c3b1 : (a0 != 2) = true := bne_iff_ne.mpr c3
   by_cases c4 : a0 = 3
   ·rw [if_pos c4] at H
    have c4b0 : (a0 == 3) = true := beq_iff_eq.mpr c4
    have c4b1 : (a0 != 3) = false := bne_eq_false_iff_eq.mpr c4
    clear c4
    obtain rfl := Option.some.inj H
    go_enter Tryz.func15, Tryz.ntmps15
    go_wp2
    go_ret
    exact ⟨by first | rfl | (simp; done) | (simp [*]; done) | (simp; generalize ByteArray.toList _ = l_; cases l_ <;> rfl), by repeat (first | exact Drawn0.refl _ | apply Drawn0.step)⟩
   ·rw [if_neg c4] at H
    have c4b0 : (a0 == 3) = false := beq_eq_false_iff_ne.mpr c4
    have c4b1 : (a0 != 3) = true := bne_iff_ne.mpr c4
    by_cases c5 : a0 = 4
    ·rw [if_pos c5] at H
     have c5b0 : (a0 == 4) = true := beq_iff_eq.mpr c5
     have c5b1 : (a0 != 4) = false := bne_eq_false_iff_eq.mpr c5
     clear c5
     obtain rfl := Option.some.inj H
     go_enter Tryz.func15, Tryz.ntmps15
     go_wp2
     go_ret
     exact ⟨by first | rfl | (simp; done) | (simp [*]; done) | (simp; generalize ByteArray.toList _ = l_; cases l_ <;> rfl), by repeat (first | exact Drawn0.refl _ | apply Drawn0.step)⟩
    ·rw [if_neg c5] at H
     have c5b0 : (a0 == 4) = false := beq_eq_false_iff_ne.mpr c5
     have c5b1 : (a0 != 4) = true := bne_iff_ne.mpr c5
     by_cases c6 : a0 = 5
     ·rw [if_pos c6] at H
      have c6b0 : (a0 == 5) = true := beq_iff_eq.mpr c6
      have c6b1 : (a0 != 5) = false := bne_eq_false_iff_eq.mpr c6
      clear c6
      obtain rfl := Option.some.inj H
      go_enter Tryz.func15, Tryz.ntmps15
      go_wp2
      go_ret
      exact ⟨by first | rfl | (simp; done) | (simp [*]; done) | (simp; generalize ByteArray.toList _ = l_; cases l_ <;> rfl), by repeat (first | exact Drawn0.refl _ | apply Drawn0.step)⟩
     ·rw [if_neg c6] at H
      have c6b0 : (a0 == 5) = false := beq_eq_false_iff_ne.mpr c6
      have c6b1 : (a0 != 5) = true := bne_iff_ne.mpr c6
      by_cases c7 : a0 = 6
      ·rw [if_pos c7] at H
       have c7b0 : (a0 == 6) = true := beq_iff_eq.mpr c7
       have c7b1 : (a0 != 6) = false := bne_eq_false_iff_eq.mpr c7
       clear c7
       obtain rfl := Option.some.inj H
       go_enter Tryz.func15, Tryz.ntmps15
       go_wp2
       go_ret
       exact ⟨by first | rfl | (simp; done) | (simp [*]; done) | (simp; generalize ByteArray.toList _ = l_; cases l_ <;> rfl), by repeat (first | exact Drawn0.refl _ | apply Drawn0.step)⟩
      ·rw [if_neg c7] at H
       have c7b0 : (a0 == 6) = false := beq_eq_false_iff_ne.mpr c7
       have c7b1 : (a0 != 6) = true := bne_iff_ne.mpr c7
       by_cases c8 : a0 = 7
       ·rw [if_pos c8] at H
        have c8b0 : (a0 == 7) = true := beq_iff_eq.mpr c8
        have c8b1 : (a0 != 7) = false := bne_eq_false_iff_eq.mpr c8
        clear c8
        obtain rfl := Option.some.inj H
        go_enter Tryz.func15, Tryz.ntmps15
        go_wp2
        go_ret
        exact ⟨by first | rfl | (simp; done) | (simp [*]; done) | (simp; generalize ByteArray.toList _ = l_; cases l_ <;> rfl), by repeat (first | exact Drawn0.refl _ | apply Drawn0.step)⟩
       ·rw [if_neg c8] at H
        have c8b0 : (a0 == 7) = false := beq_eq_false_iff_ne.mpr c8
        have c8b1 : (a0 != 7) = true := bne_iff_ne.mpr c8
        obtain rfl := Option.some.inj H
        go_enter Tryz.func15, Tryz.ntmps15
        go_wp2
        go_ret
        exact ⟨by first | rfl | (simp; done) | (simp [*]; done) | (simp; generalize ByteArray.toList _ = l_; cases l_ <;> rfl), by repeat (first | exact Drawn0.refl _ | apply Drawn0.step)⟩
def value_May.f (a0_0 : Int) (a0_1 : Int) (a0_2 : ByteArray) (a0_3 : Bool) (a0_4 : Int) : Option (Bool) := if a0_0 = 0 then (if (a0_1 == 0 && (a0_2.toList == ([] : List UInt8) && (!a0_3 && (a0_4 == 0)))) = true then (if (a0_2.size : Int) ≤ 200 then ((utf8_ValidString.f a0_2).bind fun t103 => (some t103)) else (some false)) else (some false)) else (if a0_0 = 1 then (if (a0_2.toList == ([] : List UInt8) && (!a0_3 && (a0_4 == 0))) = true then (if (a0_2.size : Int) ≤ 200 then ((utf8_ValidString.f a0_2).bind fun t104 => (some t104)) else (some false)) else (some false)) else (if a0_0 = 2 then (if (a0_1 == 0 && (!a0_3 && (a0_4 == 0))) = true then (if (a0_2.size : Int) ≤ 200 then ((utf8_ValidString.f a0_2).bind fun t105 => (some t105)) else (some false)) else (some false)) else (if a0_0 = 3 then (if (a0_1 == 0 && (a0_2.toList == ([] : List UInt8) && (a0_4 == 0))) = true then (if (a0_2.size : Int) ≤ 200 then ((utf8_ValidString.f a0_2).bind fun t106 => (some t106)) else (some false)) else (some false)) else (if a0_0 = 4 then ((value_Name.f a0_4).bind fun t107 => (if t107.toList = ([] : List UInt8) then (some false) else (if (a0_1 == 0 && (a0_2.toList == ([] : List UInt8) && (!a0_3))) = true then (if (a0_2.size : Int) ≤ 200 then ((utf8_ValidString.f a0_2).bind fun t108 => (some t108)) else (some false)) else (some false)))) else (some false)))))
def cs5 (k n : Int) (t : ByteArray) (b : Bool) (e : Int) : Array Value := #[.int .i64 k, .int .i64 n, .string t, .bool b, .int .i64 e]
theorem vput {w : World} {g : Nat} {k n : Int} {t : ByteArray} {b : Bool} {e : Int} (h : w.heap[g]? = some (.cells (cs5 k n t b e) 24 (0, 0))) (k' n' : Int) (t' : ByteArray) (b' : Bool) (e' : Int) :
  (((((w.setCell ⟨g, 0, none⟩ (.int .i64 k')).setCell ⟨g, 1, none⟩ (.int .i64 n')).setCell ⟨g, 2, none⟩ (.string t')).setCell ⟨g, 3, none⟩ (.bool b')).setCell ⟨g, 4, none⟩ (.int .i64 e')).heap[g]? = some (.cells (cs5 k' n' t' b' e') 24 (0, 0)) :=
 blk_put (blk_put (blk_put (blk_put (blk_put h 0 _ rfl) 1 _ rfl) 2 _ rfl) 3 _ rfl) 4 _ rfl
theorem vfar {w : World} {g b : Nat} {cs : Array Value} (h : w.heap[b]? = some (.cells cs 24 (0, 0))) (ne : b ≠ g) (v0 v1 v2 v3 v4 : Value) :
  (((((w.setCell ⟨g, 0, none⟩ v0).setCell ⟨g, 1, none⟩ v1).setCell ⟨g, 2, none⟩ v2).setCell ⟨g, 3, none⟩ v3).setCell ⟨g, 4, none⟩ v4).heap[b]? = some (.cells cs 24 (0, 0)) :=
 blk_far (blk_far (blk_far (blk_far (blk_far h ne _) ne _) ne _) ne _) ne _
theorem vbel {w W : World} {g : Nat} (h : Below w.heap.size w W) (ge : w.heap.size ≤ g) (v0 v1 v2 v3 v4 : Value) :
  Below w.heap.size w (((((W.setCell ⟨g, 0, none⟩ v0).setCell ⟨g, 1, none⟩ v1).setCell ⟨g, 2, none⟩ v2).setCell ⟨g, 3, none⟩ v3).setCell ⟨g, 4, none⟩ v4) :=
 below_set (below_set (below_set (below_set (below_set h ge) ge) ge) ge) ge
theorem name_some (e : Int) : ∃ r, value_Name.f e = some r := by
 unfold value_Name.f
 repeat' split
 all_goals exact ⟨_, rfl⟩
set_option maxHeartbeats 8000000 in
set_option maxRecDepth 100000 in
theorem value_May.calls (a0_0 : Int) (a0_1 : Int) (a0_2 : ByteArray) (a0_3 : Bool) (a0_4 : Int) (r : Bool) (w : World) (hL : Aside0 (Lq w)) (h : value_May.f a0_0 a0_1 a0_2 a0_3 a0_4 = some r) :
  Calls Tryz.prog 23 #[.agg #[.int .i64 a0_0, .int .i64 a0_1, .string a0_2, .bool a0_3, .int .i64 a0_4]] w fun e w' => e = .returned (.bool r) ∧ Below w.heap.size w w' := by
 have hu24 := Tryz.underlying24
 have HB := Aside0.mk (Below.refl w.heap.size w)
 obtain ⟨nm, hn⟩ := name_some a0_4
 unfold value_May.f at h
 rw [hn] at h
 have HN := Aside0.mk hn
 have HH := Aside0.mk h
 clear hn h
 go_enter Tryz.func23, Tryz.ntmps23
 go_upto_region 2 with (first | ((with_reducible refine gate_dst (N := 1) rfl ?_); (try (refine gate_guard (by rfl) ?_; dsimp only)); refine box_event ?hg (N := 1) ?hd (cs := cs5 a0_0 a0_1 a0_2 a0_3 a0_4) (t := 24) ?hr ?_; (case hd => rfl); (case hg => rfl); (case hr => first | (go_simp; done) | (go_simp; rfl)); intro gV hg wV hbox hb; have n0_ := Aside0.mk (below_step (by repeat (first | (with_reducible first | exact HB.out | apply bA | apply below_drew | apply bN | apply bD | refine below_set ?_ GES.out) | exact HB.out)) hb); have n1_ := Aside0.mk hbox; clear HB; have HB := n0_; have BKV := n1_; clear n0_ n1_; clear hb hbox hg; have hcz0 : wV.cell? ⟨gV, 0, none⟩ = some (.int .i64 a0_0) := (blk_cell BKV.out 0).trans rfl; have hcz1 : wV.cell? ⟨gV, 1, none⟩ = some (.int .i64 a0_1) := (blk_cell BKV.out 1).trans rfl; have hcz2 : wV.cell? ⟨gV, 2, none⟩ = some (.string a0_2) := (blk_cell BKV.out 2).trans rfl; have hcz3 : wV.cell? ⟨gV, 3, none⟩ = some (.bool a0_3) := (blk_cell BKV.out 3).trans rfl; have hcz4 : wV.cell? ⟨gV, 4, none⟩ = some (.int .i64 a0_4) := (blk_cell BKV.out 4).trans rfl; have hfz0 := blk_frozen BKV.out 0; have hfz1 := blk_frozen BKV.out 1; have hfz2 := blk_frozen BKV.out 2; have hfz3 := blk_frozen BKV.out 3; have hfz4 := blk_frozen BKV.out 4) | ((with_reducible refine gate_dst (N := 3) rfl ?_); (try (refine gate_guard (by rfl) ?_; dsimp only)); refine box_event ?hg (N := 3) ?hd (cs := cs5 0 0 (⟨#[]⟩ : ByteArray) false 0) (t := 24) ?hr ?_; (case hd => rfl); (case hg => rfl); (case hr => first | (go_simp; done) | (go_simp; rfl)); intro gS hg wB hbox hb; have n0_ := Aside0.mk (below_step (by repeat (first | (with_reducible first | exact HB.out | apply bA | apply below_drew | apply bN | apply bD | refine below_set ?_ GES.out) | exact HB.out)) hb); have n1_ := Aside0.mk hbox; have n2_ := Aside0.mk (blk_below (by (with_reducible repeat (first | refine blk_drewN ?_ _ | refine blk_drew ?_ | refine blk_alloc ?_ _)); exact BKV.out) hb); have n3_ := Aside0.mk ((by rw [hg]; exact (below_size (by repeat (first | (with_reducible first | exact HB.out | apply bA | apply below_drew | apply bN | apply bD | refine below_set ?_ GES.out) | exact HB.out))) : w.heap.size ≤ gS)); have n4_ := Aside0.mk ((by rw [hg]; exact Nat.ne_of_lt (blk_lt (by (with_reducible repeat (first | refine blk_drewN ?_ _ | refine blk_drew ?_ | refine blk_alloc ?_ _)); exact BKV.out))) : gV ≠ gS); clear HB BKV; have HB := n0_; have BKS := n1_; have BKV := n2_; have GES := n3_; have NE := n4_; clear n0_ n1_ n2_ n3_ n4_; clear hb hbox hg; have hsz0 : wB.cell? ⟨gS, 0, none⟩ = some (.int .i64 0) := (blk_cell BKS.out 0).trans rfl; have hsz1 : wB.cell? ⟨gS, 1, none⟩ = some (.int .i64 0) := (blk_cell BKS.out 1).trans rfl; have hsz2 : wB.cell? ⟨gS, 2, none⟩ = some (.string (⟨#[]⟩ : ByteArray)) := (blk_cell BKS.out 2).trans rfl; have hsz3 : wB.cell? ⟨gS, 3, none⟩ = some (.bool false) := (blk_cell BKS.out 3).trans rfl; have hsz4 : wB.cell? ⟨gS, 4, none⟩ = some (.int .i64 0) := (blk_cell BKS.out 4).trans rfl; have hgz0 := blk_frozen BKS.out 0; have hgz1 := blk_frozen BKS.out 1; have hgz2 := blk_frozen BKS.out 2; have hgz3 := blk_frozen BKS.out 3; have hgz4 := blk_frozen BKS.out 4))
 (try simp only [Act.put, List.setIfInBounds_toArray, List.set_cons_zero, List.set_cons_succ])
 generalize hW : World.setCell _ ⟨gS, 4, none⟩ _ = wS
 have nV_ : Aside0 (wS.heap[gV]? = some (.cells (cs5 a0_0 a0_1 a0_2 a0_3 a0_4) 24 (0, 0))) := ⟨by rw [← hW]; exact vfar BKV.out NE.out _ _ _ _ _⟩
 have nS_ : Aside0 (wS.heap[gS]? = some (.cells (cs5 a0_0 0 (⟨#[]⟩ : ByteArray) false 0) 24 (0, 0))) := ⟨by rw [← hW]; exact vput BKS.out _ _ _ _ _⟩
 have nB_ : Aside0 (Below w.heap.size w wS) := ⟨by rw [← hW]; exact vbel HB.out GES.out _ _ _ _ _⟩
 clear BKV BKS HB hW hcz0 hfz0 hsz0 hgz0 hcz1 hfz1 hsz1 hgz1 hcz2 hfz2 hsz2 hgz2 hcz3 hfz3 hsz3 hgz3 hcz4 hfz4 hsz4 hgz4
 have BKV := nV_
 have BKS := nS_
 have HB := nB_
 clear nV_ nS_ nB_
 have cv0 : wS.cell? ⟨gV, 0, none⟩ = some (.int .i64 a0_0) := (blk_cell BKV.out 0).trans rfl
 have cvf0 := blk_frozen BKV.out 0
 have cv1 : wS.cell? ⟨gV, 1, none⟩ = some (.int .i64 a0_1) := (blk_cell BKV.out 1).trans rfl
 have cvf1 := blk_frozen BKV.out 1
 have cv2 : wS.cell? ⟨gV, 2, none⟩ = some (.string a0_2) := (blk_cell BKV.out 2).trans rfl
 have cvf2 := blk_frozen BKV.out 2
 have cv3 : wS.cell? ⟨gV, 3, none⟩ = some (.bool a0_3) := (blk_cell BKV.out 3).trans rfl
 have cvf3 := blk_frozen BKV.out 3
 have cv4 : wS.cell? ⟨gV, 4, none⟩ = some (.int .i64 a0_4) := (blk_cell BKV.out 4).trans rfl
 have cvf4 := blk_frozen BKV.out 4
 have cs0 : wS.cell? ⟨gS, 0, none⟩ = some (.int .i64 a0_0) := (blk_cell BKS.out 0).trans rfl
 have csf0 := blk_frozen BKS.out 0
 have cs1 : wS.cell? ⟨gS, 1, none⟩ = some (.int .i64 0) := (blk_cell BKS.out 1).trans rfl
 have csf1 := blk_frozen BKS.out 1
 have cs2 : wS.cell? ⟨gS, 2, none⟩ = some (.string (⟨#[]⟩ : ByteArray)) := (blk_cell BKS.out 2).trans rfl
 have csf2 := blk_frozen BKS.out 2
 have cs3 : wS.cell? ⟨gS, 3, none⟩ = some (.bool false) := (blk_cell BKS.out 3).trans rfl
 have csf3 := blk_frozen BKS.out 3
 have cs4 : wS.cell? ⟨gS, 4, none⟩ = some (.int .i64 0) := (blk_cell BKS.out 4).trans rfl
 have csf4 := blk_frozen BKS.out 4
 have ne1 := NE.out
 have ne2 := Ne.symm ne1
 have h := HH.out
 clear HH
 by_cases k0 : a0_0 = 0
 ·rw [if_pos k0] at h
  have kb0 : (a0_0 == 0) = true := beq_iff_eq.mpr k0
  clear k0
  obtain ⟨q, hq0⟩ : ∃ q, (a0_1 == 0 && (a0_2.toList == ([] : List UInt8) && (!a0_3 && (a0_4 == 0)))) = q := ⟨_, rfl⟩
  rw [hq0] at h
  have hq : ∀ d W, (Op.equalIn (d + 2) 24 (.agg #[.int .i64 a0_0, .int .i64 a0_1, .string a0_2, .bool a0_3, .int .i64 a0_4]) (.agg #[.int .i64 a0_0, .int .i64 0, .string (⟨#[]⟩ : ByteArray), .bool false, .int .i64 0])).run Tryz.prog W = .ok q W := fun d W => by rw [eqA24]; rw [show (a0_0 == a0_0 && (a0_1 == 0 && (a0_2.toList == ((⟨#[]⟩ : ByteArray)).toList && (a0_3 == false && (a0_4 == 0))))) = q from by rw [← hq0]; cases a0_3 <;> simp]
  clear hq0
  cases q with
  | false =>
   rw [if_neg (by decide)] at h
   obtain rfl := Option.some.inj h
   go_wp2
   go_ret
   exact ⟨by first | rfl | (simp; done) | (simp [*]; done), (by repeat (first | (with_reducible first | exact HB.out | apply bA | apply below_drew | apply bN | apply bD | refine below_set ?_ GES.out) | exact HB.out))⟩
  | true =>
   rw [if_pos rfl] at h
   by_cases c4 : (a0_2.size : Int) ≤ 200
   ·rw [if_pos c4] at h
    have c4b0 : decide ((a0_2.size : Int) ≤ 200) = true := decide_eq_true c4
    have c4b1 : decide (a0_2.size ≤ 200) = true := decide_eq_true (by omega)
    clear c4
    obtain ⟨t, ht, h⟩ := Option.bind_eq_some_iff.mp h
    obtain rfl := Option.some.inj h
    have HT := Aside0.mk ht
    clear ht
    go_wp2_with (first | (go_at_call 49; refine (utf8_ValidString.calls a0_2 t _ ⟨hL.out.below (by repeat (first | (with_reducible first | exact HB.out | apply bA | apply below_drew | apply bN | apply bD | refine below_set ?_ GES.out) | exact HB.out))⟩ HT.out).mono ?_; rintro e w' ⟨rfl, hb⟩; have n1_ := Aside0.mk (below_step (by repeat (first | (with_reducible first | exact HB.out | apply bA | apply below_drew | apply bN | apply bD | refine below_set ?_ GES.out) | exact HB.out)) hb); clear HB; have HB := n1_; clear n1_; clear hb))
    go_ret
    exact ⟨by first | rfl | (simp; done) | (simp [*]; done), (by repeat (first | (with_reducible first | exact HB.out | apply bA | apply below_drew | apply bN | apply bD | refine below_set ?_ GES.out) | exact HB.out))⟩
   ·rw [if_neg c4] at h
    have c4b0 : decide ((a0_2.size : Int) ≤ 200) = false := decide_eq_false c4
    have c4b1 : decide (a0_2.size ≤ 200) = false := decide_eq_false (by omega)
    clear c4
    obtain rfl := Option.some.inj h
    go_wp2
    go_ret
    exact ⟨by first | rfl | (simp; done) | (simp [*]; done), (by repeat (first | (with_reducible first | exact HB.out | apply bA | apply below_drew | apply bN | apply bD | refine below_set ?_ GES.out) | exact HB.out))⟩
 rw [if_neg k0] at h
 have kb0 : (a0_0 == 0) = false := beq_eq_false_iff_ne.mpr k0
 by_cases k1 : a0_0 = 1
 ·rw [if_pos k1] at h
  have kb1 : (a0_0 == 1) = true := beq_iff_eq.mpr k1
  clear k1
  obtain ⟨q, hq0⟩ : ∃ q, (a0_2.toList == ([] : List UInt8) && (!a0_3 && (a0_4 == 0))) = q := ⟨_, rfl⟩
  rw [hq0] at h
  have hq : ∀ d W, (Op.equalIn (d + 2) 24 (.agg #[.int .i64 a0_0, .int .i64 a0_1, .string a0_2, .bool a0_3, .int .i64 a0_4]) (.agg #[.int .i64 a0_0, .int .i64 a0_1, .string (⟨#[]⟩ : ByteArray), .bool false, .int .i64 0])).run Tryz.prog W = .ok q W := fun d W => by rw [eqA24]; rw [show (a0_0 == a0_0 && (a0_1 == a0_1 && (a0_2.toList == ((⟨#[]⟩ : ByteArray)).toList && (a0_3 == false && (a0_4 == 0))))) = q from by rw [← hq0]; cases a0_3 <;> simp]
  clear hq0
  cases q with
  | false =>
   rw [if_neg (by decide)] at h
   obtain rfl := Option.some.inj h
   go_wp2
   go_ret
   exact ⟨by first | rfl | (simp; done) | (simp [*]; done), (by repeat (first | (with_reducible first | exact HB.out | apply bA | apply below_drew | apply bN | apply bD | refine below_set ?_ GES.out) | exact HB.out))⟩
  | true =>
   rw [if_pos rfl] at h
   by_cases c4 : (a0_2.size : Int) ≤ 200
   ·rw [if_pos c4] at h
    have c4b0 : decide ((a0_2.size : Int) ≤ 200) = true := decide_eq_true c4
    have c4b1 : decide (a0_2.size ≤ 200) = true := decide_eq_true (by omega)
    clear c4
    obtain ⟨t, ht, h⟩ := Option.bind_eq_some_iff.mp h
    obtain rfl := Option.some.inj h
    have HT := Aside0.mk ht
    clear ht
    go_wp2_with (first | (go_at_call 49; refine (utf8_ValidString.calls a0_2 t _ ⟨hL.out.below (by repeat (first | (with_reducible first | exact HB.out | apply bA | apply below_drew | apply bN | apply bD | refine below_set ?_ GES.out) | exact HB.out))⟩ HT.out).mono ?_; rintro e w' ⟨rfl, hb⟩; have n1_ := Aside0.mk (below_step (by repeat (first | (with_reducible first | exact HB.out | apply bA | apply below_drew | apply bN | apply bD | refine below_set ?_ GES.out) | exact HB.out)) hb); clear HB; have HB := n1_; clear n1_; clear hb))
    go_ret
    exact ⟨by first | rfl | (simp; done) | (simp [*]; done), (by repeat (first | (with_reducible first | exact HB.out | apply bA | apply below_drew | apply bN | apply bD | refine below_set ?_ GES.out) | exact HB.out))⟩
   ·rw [if_neg c4] at h
    have c4b0 : decide ((a0_2.size : Int) ≤ 200) = false := decide_eq_false c4
    have c4b1 : decide (a0_2.size ≤ 200) = false := decide_eq_false (by omega)
    clear c4
    obtain rfl := Option.some.inj h
    go_wp2
    go_ret
    exact ⟨by first | rfl | (simp; done) | (simp [*]; done), (by repeat (first | (with_reducible first | exact HB.out | apply bA | apply below_drew | apply bN | apply bD | refine below_set ?_ GES.out) | exact HB.out))⟩
 rw [if_neg k1] at h
 have kb1 : (a0_0 == 1) = false := beq_eq_false_iff_ne.mpr k1
 by_cases k2 : a0_0 = 2
 ·rw [if_pos k2] at h
  have kb2 : (a0_0 == 2) = true := beq_iff_eq.mpr k2
  clear k2
  obtain ⟨q, hq0⟩ : ∃ q, (a0_1 == 0 && (!a0_3 && (a0_4 == 0))) = q := ⟨_, rfl⟩
  rw [hq0] at h
  have hq : ∀ d W, (Op.equalIn (d + 2) 24 (.agg #[.int .i64 a0_0, .int .i64 a0_1, .string a0_2, .bool a0_3, .int .i64 a0_4]) (.agg #[.int .i64 a0_0, .int .i64 0, .string a0_2, .bool false, .int .i64 0])).run Tryz.prog W = .ok q W := fun d W => by rw [eqA24]; rw [show (a0_0 == a0_0 && (a0_1 == 0 && (a0_2.toList == (a0_2).toList && (a0_3 == false && (a0_4 == 0))))) = q from by rw [← hq0]; cases a0_3 <;> simp]
  clear hq0
  cases q with
  | false =>
   rw [if_neg (by decide)] at h
   obtain rfl := Option.some.inj h
   go_wp2
   go_ret
   exact ⟨by first | rfl | (simp; done) | (simp [*]; done), (by repeat (first | (with_reducible first | exact HB.out | apply bA | apply below_drew | apply bN | apply bD | refine below_set ?_ GES.out) | exact HB.out))⟩
  | true =>
   rw [if_pos rfl] at h
   by_cases c4 : (a0_2.size : Int) ≤ 200
   ·rw [if_pos c4] at h
    have c4b0 : decide ((a0_2.size : Int) ≤ 200) = true := decide_eq_true c4
    have c4b1 : decide (a0_2.size ≤ 200) = true := decide_eq_true (by omega)
    clear c4
    obtain ⟨t, ht, h⟩ := Option.bind_eq_some_iff.mp h
    obtain rfl := Option.some.inj h
    have HT := Aside0.mk ht
    clear ht
    go_wp2_with (first | (go_at_call 49; refine (utf8_ValidString.calls a0_2 t _ ⟨hL.out.below (by repeat (first | (with_reducible first | exact HB.out | apply bA | apply below_drew | apply bN | apply bD | refine below_set ?_ GES.out) | exact HB.out))⟩ HT.out).mono ?_; rintro e w' ⟨rfl, hb⟩; have n1_ := Aside0.mk (below_step (by repeat (first | (with_reducible first | exact HB.out | apply bA | apply below_drew | apply bN | apply bD | refine below_set ?_ GES.out) | exact HB.out)) hb); clear HB; have HB := n1_; clear n1_; clear hb))
    go_ret
    exact ⟨by first | rfl | (simp; done) | (simp [*]; done), (by repeat (first | (with_reducible first | exact HB.out | apply bA | apply below_drew | apply bN | apply bD | refine below_set ?_ GES.out) | exact HB.out))⟩
   ·rw [if_neg c4] at h
    have c4b0 : decide ((a0_2.size : Int) ≤ 200) = false := decide_eq_false c4
    have c4b1 : decide (a0_2.size ≤ 200) = false := decide_eq_false (by omega)
    clear c4
    obtain rfl := Option.some.inj h
    go_wp2
    go_ret
    exact ⟨by first | rfl | (simp; done) | (simp [*]; done), (by repeat (first | (with_reducible first | exact HB.out | apply bA | apply below_drew | apply bN | apply bD | refine below_set ?_ GES.out) | exact HB.out))⟩
 rw [if_neg k2] at h
 have kb2 : (a0_0 == 2) = false := beq_eq_false_iff_ne.mpr k2
 by_cases k3 : a0_0 = 3
 ·rw [if_pos k3] at h
  have kb3 : (a0_0 == 3) = true := beq_iff_eq.mpr k3
  clear k3
  obtain ⟨q, hq0⟩ : ∃ q, (a0_1 == 0 && (a0_2.toList == ([] : List UInt8) && (a0_4 == 0))) = q := ⟨_, rfl⟩
  rw [hq0] at h
  have hq : ∀ d W, (Op.equalIn (d + 2) 24 (.agg #[.int .i64 a0_0, .int .i64 a0_1, .string a0_2, .bool a0_3, .int .i64 a0_4]) (.agg #[.int .i64 a0_0, .int .i64 0, .string (⟨#[]⟩ : ByteArray), .bool a0_3, .int .i64 0])).run Tryz.prog W = .ok q W := fun d W => by rw [eqA24]; rw [show (a0_0 == a0_0 && (a0_1 == 0 && (a0_2.toList == ((⟨#[]⟩ : ByteArray)).toList && (a0_3 == a0_3 && (a0_4 == 0))))) = q from by rw [← hq0]; cases a0_3 <;> simp]
  clear hq0
  cases q with
  | false =>
   rw [if_neg (by decide)] at h
   obtain rfl := Option.some.inj h
   go_wp2
   go_ret
   exact ⟨by first | rfl | (simp; done) | (simp [*]; done), (by repeat (first | (with_reducible first | exact HB.out | apply bA | apply below_drew | apply bN | apply bD | refine below_set ?_ GES.out) | exact HB.out))⟩
  | true =>
   rw [if_pos rfl] at h
   by_cases c4 : (a0_2.size : Int) ≤ 200
   ·rw [if_pos c4] at h
    have c4b0 : decide ((a0_2.size : Int) ≤ 200) = true := decide_eq_true c4
    have c4b1 : decide (a0_2.size ≤ 200) = true := decide_eq_true (by omega)
    clear c4
    obtain ⟨t, ht, h⟩ := Option.bind_eq_some_iff.mp h
    obtain rfl := Option.some.inj h
    have HT := Aside0.mk ht
    clear ht
    go_wp2_with (first | (go_at_call 49; refine (utf8_ValidString.calls a0_2 t _ ⟨hL.out.below (by repeat (first | (with_reducible first | exact HB.out | apply bA | apply below_drew | apply bN | apply bD | refine below_set ?_ GES.out) | exact HB.out))⟩ HT.out).mono ?_; rintro e w' ⟨rfl, hb⟩; have n1_ := Aside0.mk (below_step (by repeat (first | (with_reducible first | exact HB.out | apply bA | apply below_drew | apply bN | apply bD | refine below_set ?_ GES.out) | exact HB.out)) hb); clear HB; have HB := n1_; clear n1_; clear hb))
    go_ret
    exact ⟨by first | rfl | (simp; done) | (simp [*]; done), (by repeat (first | (with_reducible first | exact HB.out | apply bA | apply below_drew | apply bN | apply bD | refine below_set ?_ GES.out) | exact HB.out))⟩
   ·rw [if_neg c4] at h
    have c4b0 : decide ((a0_2.size : Int) ≤ 200) = false := decide_eq_false c4
    have c4b1 : decide (a0_2.size ≤ 200) = false := decide_eq_false (by omega)
    clear c4
    obtain rfl := Option.some.inj h
    go_wp2
    go_ret
    exact ⟨by first | rfl | (simp; done) | (simp [*]; done), (by repeat (first | (with_reducible first | exact HB.out | apply bA | apply below_drew | apply bN | apply bD | refine below_set ?_ GES.out) | exact HB.out))⟩
 rw [if_neg k3] at h
 have kb3 : (a0_0 == 3) = false := beq_eq_false_iff_ne.mpr k3
 by_cases k4 : a0_0 = 4
 ·rw [if_pos k4] at h
  have kb4 : (a0_0 == 4) = true := beq_iff_eq.mpr k4
  clear k4
  rw [Option.bind_some] at h
  by_cases cn : nm.toList = ([] : List UInt8)
  ·rw [if_pos cn] at h
   have cn0 : (nm.toList == ([] : List UInt8)) = true := beq_iff_eq.mpr cn
   have cn1 : nm.toList.isEmpty = true := by rw [cn]; rfl
   clear cn
   obtain rfl := Option.some.inj h
   go_wp2_with (first | ((with_reducible refine gate_callee (f := 15) rfl ?_); refine goesL_ (some 33) rfl rfl Tryz.func15 (by kernel_rfl) rfl #[.int .i64 a0_4] rfl (by (try simp only [List.map_toArray, List.map_cons, List.map_nil]); first | done | rfl) ?_; (refine (value_Name.calls a0_4 nm _ HN.out).mono ?_); rintro e w' ⟨rfl, ⟨nd, rfl⟩⟩; refine ⟨_, rfl, ?_⟩))
   go_ret
   exact ⟨by first | rfl | (simp; done) | (simp [*]; done), (by repeat (first | (with_reducible first | exact HB.out | apply bA | apply below_drew | apply bN | apply bD | refine below_set ?_ GES.out) | exact HB.out))⟩
  ·rw [if_neg cn] at h
   have cn0 : (nm.toList == ([] : List UInt8)) = false := beq_eq_false_iff_ne.mpr cn
   have cn1 : nm.toList.isEmpty = false := by cases hnm : nm.toList with | nil => exact absurd hnm cn | cons _ _ => rfl
   clear cn
   obtain ⟨q, hq0⟩ : ∃ q, (a0_1 == 0 && (a0_2.toList == ([] : List UInt8) && (!a0_3))) = q := ⟨_, rfl⟩
   rw [hq0] at h
   have hq : ∀ d W, (Op.equalIn (d + 2) 24 (.agg #[.int .i64 a0_0, .int .i64 a0_1, .string a0_2, .bool a0_3, .int .i64 a0_4]) (.agg #[.int .i64 a0_0, .int .i64 0, .string (⟨#[]⟩ : ByteArray), .bool false, .int .i64 a0_4])).run Tryz.prog W = .ok q W := fun d W => by rw [eqA24]; rw [show (a0_0 == a0_0 && (a0_1 == 0 && (a0_2.toList == ((⟨#[]⟩ : ByteArray)).toList && (a0_3 == false && (a0_4 == a0_4))))) = q from by rw [← hq0]; cases a0_3 <;> simp]
   clear hq0
   cases q with
   | false =>
    rw [if_neg (by decide)] at h
    obtain rfl := Option.some.inj h
    go_wp2_with (first | ((with_reducible refine gate_callee (f := 15) rfl ?_); refine goesL_ (some 33) rfl rfl Tryz.func15 (by kernel_rfl) rfl #[.int .i64 a0_4] rfl (by (try simp only [List.map_toArray, List.map_cons, List.map_nil]); first | done | rfl) ?_; (refine (value_Name.calls a0_4 nm _ HN.out).mono ?_); rintro e w' ⟨rfl, ⟨nd, rfl⟩⟩; refine ⟨_, rfl, ?_⟩))
    go_ret
    exact ⟨by first | rfl | (simp; done) | (simp [*]; done), (by repeat (first | (with_reducible first | exact HB.out | apply bA | apply below_drew | apply bN | apply bD | refine below_set ?_ GES.out) | exact HB.out))⟩
   | true =>
    rw [if_pos rfl] at h
    by_cases c4 : (a0_2.size : Int) ≤ 200
    ·rw [if_pos c4] at h
     have c4b0 : decide ((a0_2.size : Int) ≤ 200) = true := decide_eq_true c4
     have c4b1 : decide (a0_2.size ≤ 200) = true := decide_eq_true (by omega)
     clear c4
     obtain ⟨t, ht, h⟩ := Option.bind_eq_some_iff.mp h
     obtain rfl := Option.some.inj h
     have HT := Aside0.mk ht
     clear ht
     go_wp2_with (first | ((with_reducible refine gate_callee (f := 15) rfl ?_); refine goesL_ (some 33) rfl rfl Tryz.func15 (by kernel_rfl) rfl #[.int .i64 a0_4] rfl (by (try simp only [List.map_toArray, List.map_cons, List.map_nil]); first | done | rfl) ?_; (refine (value_Name.calls a0_4 nm _ HN.out).mono ?_); rintro e w' ⟨rfl, ⟨nd, rfl⟩⟩; refine ⟨_, rfl, ?_⟩) | (go_at_call 49; refine (utf8_ValidString.calls a0_2 t _ ⟨hL.out.below (by repeat (first | (with_reducible first | exact HB.out | apply bA | apply below_drew | apply bN | apply bD | refine below_set ?_ GES.out) | exact HB.out))⟩ HT.out).mono ?_; rintro e w' ⟨rfl, hb⟩; have n1_ := Aside0.mk (below_step (by repeat (first | (with_reducible first | exact HB.out | apply bA | apply below_drew | apply bN | apply bD | refine below_set ?_ GES.out) | exact HB.out)) hb); clear HB; have HB := n1_; clear n1_; clear hb))
     go_ret
     exact ⟨by first | rfl | (simp; done) | (simp [*]; done), (by repeat (first | (with_reducible first | exact HB.out | apply bA | apply below_drew | apply bN | apply bD | refine below_set ?_ GES.out) | exact HB.out))⟩
    ·rw [if_neg c4] at h
     have c4b0 : decide ((a0_2.size : Int) ≤ 200) = false := decide_eq_false c4
     have c4b1 : decide (a0_2.size ≤ 200) = false := decide_eq_false (by omega)
     clear c4
     obtain rfl := Option.some.inj h
     go_wp2_with (first | ((with_reducible refine gate_callee (f := 15) rfl ?_); refine goesL_ (some 33) rfl rfl Tryz.func15 (by kernel_rfl) rfl #[.int .i64 a0_4] rfl (by (try simp only [List.map_toArray, List.map_cons, List.map_nil]); first | done | rfl) ?_; (refine (value_Name.calls a0_4 nm _ HN.out).mono ?_); rintro e w' ⟨rfl, ⟨nd, rfl⟩⟩; refine ⟨_, rfl, ?_⟩))
     go_ret
     exact ⟨by first | rfl | (simp; done) | (simp [*]; done), (by repeat (first | (with_reducible first | exact HB.out | apply bA | apply below_drew | apply bN | apply bD | refine below_set ?_ GES.out) | exact HB.out))⟩
 rw [if_neg k4] at h
 have kb4 : (a0_0 == 4) = false := beq_eq_false_iff_ne.mpr k4
 obtain rfl := Option.some.inj h
 go_wp2
 go_ret
 exact ⟨by first | rfl | (simp; done) | (simp [*]; done), (by repeat (first | (with_reducible first | exact HB.out | apply bA | apply below_drew | apply bN | apply bD | refine below_set ?_ GES.out) | exact HB.out))⟩
end Go.Proofs.YtfnbflhoaemmeaaGreatDoor.EVal
end
section
namespace Go.Proofs.YtfnbflhoaemmeaaGreatDoor.EVal
open Go.RowKit Go.Proofs.YtfnbflhoaemmeaaGreatDoor.Ext Go.Proofs.YtfnbflhoaemmeaaGreatDoor.EFxA Go.Proofs.YtfnbflhoaemmeaaGreatDoor.EFix Go.Proofs.YtfnbflhoaemmeaaGreatDoorW.PrintWords Go.Proofs.YtfnbflhoaemmeaaGreatDoorW.PrintLast Go.Proofs.YtfnbflhoaemmeaaGreatDoorW.PrintMore
attribute [local go_sem] max2_int min2_int max_two min_two max_three min_three max_four min_four   
set_option linter.unusedVariables false
set_option linter.unusedSimpArgs false
attribute [local go_sem high] eqA24
end Go.Proofs.YtfnbflhoaemmeaaGreatDoor.EVal
end
section
namespace Go.Proofs.YtfnbflhoaemmeaaGreatDoor.EVal
open Go.RowKit Go.Proofs.YtfnbflhoaemmeaaGreatDoor.Ext Go.Proofs.YtfnbflhoaemmeaaGreatDoor.EFxA Go.Proofs.YtfnbflhoaemmeaaGreatDoor.EFix Go.Proofs.YtfnbflhoaemmeaaGreatDoorW.PrintWords Go.Proofs.YtfnbflhoaemmeaaGreatDoorW.PrintLast Go.Proofs.YtfnbflhoaemmeaaGreatDoorW.PrintMore
attribute [local go_sem] max2_int min2_int max_two min_two max_three min_three max_four min_four   
set_option linter.unusedVariables false
set_option linter.unusedSimpArgs false
def value_wrong.f (a0_0 : Int) (a0_1 : Int) (a0_2 : ByteArray) (a0_3 : Bool) (a0_4 : Int) : Option (Int) := (value_May.f a0_0 a0_1 a0_2 a0_3 a0_4).bind fun t131 => (if t131 = true then (if a0_0 = 4 then (some a0_4) else (some 0)) else (some 5))
set_option maxHeartbeats 8000000 in
set_option maxRecDepth 100000 in
theorem value_wrong.calls (a0_0 : Int) (a0_1 : Int) (a0_2 : ByteArray) (a0_3 : Bool) (a0_4 : Int) (r : Int) (w : World) (hL : Aside0 (Lq w)) (h : value_wrong.f a0_0 a0_1 a0_2 a0_3 a0_4 = some r) :
  Calls Tryz.prog 43 #[.agg #[.int .i64 a0_0, .int .i64 a0_1, .string a0_2, .bool a0_3, .int .i64 a0_4]] w fun e w' => e = .returned (.int .i64 r) ∧ Below w.heap.size w w' := by
 have hu24 := Tryz.underlying24
 have HB := Aside0.mk (Below.refl w.heap.size w)
 have H : ((value_May.f a0_0 a0_1 a0_2 a0_3 a0_4).bind fun t131 => (if t131 = true then (if a0_0 = 4 then (some a0_4) else (some 0)) else (some 5))) = some r := h
 clear h
 replace H := Option.bind_eq_some_iff.mp H
 obtain ⟨t131, A20, H⟩ := H
 replace H : (if t131 = true then (if a0_0 = 4 then (some a0_4) else (some 0)) else (some 5)) = some r := H
 have A2 := Aside0.mk A20
 clear A20
 by_cases c3 : t131 = true
 ·subst c3
  have H1 : (if a0_0 = 4 then (some a0_4) else (some 0)) = some r := by rw [if_pos rfl] at H; exact H
  clear H
  have H := H1
  clear H1
  by_cases c4 : a0_0 = 4
  ·rw [if_pos c4] at H
   have c4b0 : (a0_0 == 4) = true := beq_iff_eq.mpr c4
   have c4b1 : (a0_0 != 4) = false := bne_eq_false_iff_eq.mpr c4
   clear c4
   obtain rfl := Option.some.inj H
   go_enter Tryz.func43, Tryz.ntmps43
   go_wp2_with (first | ((with_reducible refine gate_dst (N := 1) rfl ?_); refine box_event ?hg (N := 1) ?hd (cs := #[.int .i64 a0_0, .int .i64 a0_1, .string a0_2, .bool a0_3, .int .i64 a0_4]) (t := 24) ?hr ?_; (case hd => rfl); (case hg => rfl); (case hr => first | (go_simp; done) | (go_simp; rfl)); intro gb130 hg w5 hbox hb; have n0_ := Aside0.mk (below_step (by repeat (first | (with_reducible first | exact HB.out | apply bA | apply bN | apply bD) | exact HB.out)) hb); have n1_ := Aside0.mk (hbox); have n2_ := Aside0.mk ((by rw [hg]; exact (below_size (by repeat (first | (with_reducible first | exact HB.out | apply bA | apply bN | apply bD) | exact HB.out))) : w.heap.size ≤ gb130)); have n3_ := Aside0.mk ((by rw [hg]; exact (below_size (by repeat (first | (with_reducible first | exact HB.out | apply bA | apply bN | apply bD) | exact HB.out))) : w.heap.size ≤ gb130)); clear HB; have HB := n0_; have BK130 := n1_; have GW130 := n2_; have GE130 := n3_; clear n0_ n1_ n2_ n3_; clear hb hbox hg; obtain ⟨hcz6_0, hcz6_1, hcz6_2, hcz6_3, hcz6_4, hfz6_0, hfz6_1, hfz6_2, hfz6_3, hfz6_4⟩ := five BK130.out) | ((with_reducible refine gate_callee (f := 23) rfl ?_); refine goesL_ (some 5) rfl rfl Tryz.func23 (by kernel_rfl) rfl #[.agg #[.int .i64 a0_0, .int .i64 a0_1, .string a0_2, .bool a0_3, .int .i64 a0_4]] rfl (by (try simp only [List.map_toArray, List.map_cons, List.map_nil]); first | done | rfl) ?_; (with_reducible refine (value_May.calls (hL := ⟨by first | exact hL.out | (refine hL.out.drawn ?_; (repeat (first | exact Drawn0.refl _ | apply Drawn0.step)); done) | (refine hL.out.below ?_; (repeat (first | (with_reducible first | exact HB.out | apply bA | apply bN | apply bD | refine below_set ?_ GE130.out) | exact HB.out)); done)⟩) a0_0 a0_1 a0_2 a0_3 a0_4 true _ A2.out).mono ?_); rintro e w7 ⟨rfl, hb⟩; refine ⟨_, rfl, ?_⟩; have n0_ := Aside0.mk (blk_below (g := gb130) (o := .cells #[.int .i64 a0_0, .int .i64 a0_1, .string a0_2, .bool a0_3, .int .i64 a0_4] 24 (0, 0)) (by (with_reducible repeat (first | refine blk_drewN ?_ _ | refine blk_drew ?_ | refine blk_alloc ?_ _)); exact BK130.out) hb); have n1_ := Aside0.mk (below_step (by repeat (first | (with_reducible first | exact HB.out | apply bA | apply bN | apply bD | refine below_set ?_ GE130.out) | exact HB.out)) hb); clear BK130; clear HB; have BK130 := n0_; have HB := n1_; clear n0_ n1_; (try clear hb); (try clear hb2); (try clear hk); (try clear hi); obtain ⟨hcz8_0, hcz8_1, hcz8_2, hcz8_3, hcz8_4, hfz8_0, hfz8_1, hfz8_2, hfz8_3, hfz8_4⟩ := five BK130.out))
   go_ret
   exact ⟨by first | rfl | (simp; done) | (simp [*]; done) | (simp <;> rfl) | (simp [*] <;> rfl), by repeat (first | (with_reducible first | exact HB.out | apply bA | apply bN | apply bD | refine below_set ?_ GE130.out) | exact HB.out)⟩
  ·rw [if_neg c4] at H
   have c4b0 : (a0_0 == 4) = false := beq_eq_false_iff_ne.mpr c4
   have c4b1 : (a0_0 != 4) = true := bne_iff_ne.mpr c4
   obtain rfl := Option.some.inj H
   go_enter Tryz.func43, Tryz.ntmps43
   go_wp2_with (first | ((with_reducible refine gate_dst (N := 1) rfl ?_); refine box_event ?hg (N := 1) ?hd (cs := #[.int .i64 a0_0, .int .i64 a0_1, .string a0_2, .bool a0_3, .int .i64 a0_4]) (t := 24) ?hr ?_; (case hd => rfl); (case hg => rfl); (case hr => first | (go_simp; done) | (go_simp; rfl)); intro gb130 hg w9 hbox hb; have n0_ := Aside0.mk (below_step (by repeat (first | (with_reducible first | exact HB.out | apply bA | apply bN | apply bD) | exact HB.out)) hb); have n1_ := Aside0.mk (hbox); have n2_ := Aside0.mk ((by rw [hg]; exact (below_size (by repeat (first | (with_reducible first | exact HB.out | apply bA | apply bN | apply bD) | exact HB.out))) : w.heap.size ≤ gb130)); have n3_ := Aside0.mk ((by rw [hg]; exact (below_size (by repeat (first | (with_reducible first | exact HB.out | apply bA | apply bN | apply bD) | exact HB.out))) : w.heap.size ≤ gb130)); clear HB; have HB := n0_; have BK130 := n1_; have GW130 := n2_; have GE130 := n3_; clear n0_ n1_ n2_ n3_; clear hb hbox hg; obtain ⟨hcz10_0, hcz10_1, hcz10_2, hcz10_3, hcz10_4, hfz10_0, hfz10_1, hfz10_2, hfz10_3, hfz10_4⟩ := five BK130.out) | ((with_reducible refine gate_callee (f := 23) rfl ?_); refine goesL_ (some 5) rfl rfl Tryz.func23 (by kernel_rfl) rfl #[.agg #[.int .i64 a0_0, .int .i64 a0_1, .string a0_2, .bool a0_3, .int .i64 a0_4]] rfl (by (try simp only [List.map_toArray, List.map_cons, List.map_nil]); first | done | rfl) ?_; (with_reducible refine (value_May.calls (hL := ⟨by first | exact hL.out | (refine hL.out.drawn ?_; (repeat (first | exact Drawn0.refl _ | apply Drawn0.step)); done) | (refine hL.out.below ?_; (repeat (first | (with_reducible first | exact HB.out | apply bA | apply bN | apply bD | refine below_set ?_ GE130.out) | exact HB.out)); done)⟩) a0_0 a0_1 a0_2 a0_3 a0_4 true _ A2.out).mono ?_); rintro e w11 ⟨rfl, hb⟩; refine ⟨_, rfl, ?_⟩; have n0_ := Aside0.mk (blk_below (g := gb130) (o := .cells #[.int .i64 a0_0, .int .i64 a0_1, .string a0_2, .bool a0_3, .int .i64 a0_4] 24 (0, 0)) (by (with_reducible repeat (first | refine blk_drewN ?_ _ | refine blk_drew ?_ | refine blk_alloc ?_ _)); exact BK130.out) hb); have n1_ := Aside0.mk (below_step (by repeat (first | (with_reducible first | exact HB.out | apply bA | apply bN | apply bD | refine below_set ?_ GE130.out) | exact HB.out)) hb); clear BK130; clear HB; have BK130 := n0_; have HB := n1_; clear n0_ n1_; (try clear hb); (try clear hb2); (try clear hk); (try clear hi); obtain ⟨hcz12_0, hcz12_1, hcz12_2, hcz12_3, hcz12_4, hfz12_0, hfz12_1, hfz12_2, hfz12_3, hfz12_4⟩ := five BK130.out))
   go_ret
   exact ⟨by first | rfl | (simp; done) | (simp [*]; done) | (simp <;> rfl) | (simp [*] <;> rfl), by repeat (first | (with_reducible first | exact HB.out | apply bA | apply bN | apply bD | refine below_set ?_ GE130.out) | exact HB.out)⟩
 ·replace c3 := Bool.eq_false_iff.mpr c3
  subst c3
  have H1 : (some 5) = some r := by rw [if_neg (show ¬ (false = true) by decide)] at H; exact H
  clear H
  have H := H1
  clear H1
  obtain rfl := Option.some.inj H
  go_enter Tryz.func43, Tryz.ntmps43
  go_wp2_with (first | ((with_reducible refine gate_dst (N := 1) rfl ?_); refine box_event ?hg (N := 1) ?hd (cs := #[.int .i64 a0_0, .int .i64 a0_1, .string a0_2, .bool a0_3, .int .i64 a0_4]) (t := 24) ?hr ?_; (case hd => rfl); (case hg => rfl); (case hr => first | (go_simp; done) | (go_simp; rfl)); intro gb130 hg w13 hbox hb; have n0_ := Aside0.mk (below_step (by repeat (first | (with_reducible first | exact HB.out | apply bA | apply bN | apply bD) | exact HB.out)) hb); have n1_ := Aside0.mk (hbox); have n2_ := Aside0.mk ((by rw [hg]; exact (below_size (by repeat (first | (with_reducible first | exact HB.out | apply bA | apply bN | apply bD) | exact HB.out))) : w.heap.size ≤ gb130)); have n3_ := Aside0.mk ((by rw [hg]; exact (below_size (by repeat (first | (with_reducible first | exact HB.out | apply bA | apply bN | apply bD) | exact HB.out))) : w.heap.size ≤ gb130)); clear HB; have HB := n0_; have BK130 := n1_; have GW130 := n2_; have GE130 := n3_; clear n0_ n1_ n2_ n3_; clear hb hbox hg; obtain ⟨hcz14_0, hcz14_1, hcz14_2, hcz14_3, hcz14_4, hfz14_0, hfz14_1, hfz14_2, hfz14_3, hfz14_4⟩ := five BK130.out) | ((with_reducible refine gate_callee (f := 23) rfl ?_); refine goesL_ (some 5) rfl rfl Tryz.func23 (by kernel_rfl) rfl #[.agg #[.int .i64 a0_0, .int .i64 a0_1, .string a0_2, .bool a0_3, .int .i64 a0_4]] rfl (by (try simp only [List.map_toArray, List.map_cons, List.map_nil]); first | done | rfl) ?_; (with_reducible refine (value_May.calls (hL := ⟨by first | exact hL.out | (refine hL.out.drawn ?_; (repeat (first | exact Drawn0.refl _ | apply Drawn0.step)); done) | (refine hL.out.below ?_; (repeat (first | (with_reducible first | exact HB.out | apply bA | apply bN | apply bD | refine below_set ?_ GE130.out) | exact HB.out)); done)⟩) a0_0 a0_1 a0_2 a0_3 a0_4 false _ A2.out).mono ?_); rintro e w15 ⟨rfl, hb⟩; refine ⟨_, rfl, ?_⟩; have n0_ := Aside0.mk (blk_below (g := gb130) (o := .cells #[.int .i64 a0_0, .int .i64 a0_1, .string a0_2, .bool a0_3, .int .i64 a0_4] 24 (0, 0)) (by (with_reducible repeat (first | refine blk_drewN ?_ _ | refine blk_drew ?_ | refine blk_alloc ?_ _)); exact BK130.out) hb); have n1_ := Aside0.mk (below_step (by repeat (first | (with_reducible first | exact HB.out | apply bA | apply bN | apply bD | refine below_set ?_ GE130.out) | exact HB.out)) hb); clear BK130; clear HB; have BK130 := n0_; have HB := n1_; clear n0_ n1_; (try clear hb); (try clear hb2); (try clear hk); (try clear hi)))
  go_ret
  exact ⟨by first | rfl | (simp; done) | (simp [*]; done) | (simp <;> rfl) | (simp [*] <;> rfl), by repeat (first | (with_reducible first | exact HB.out | apply bA | apply bN | apply bD | refine below_set ?_ GE130.out) | exact HB.out)⟩
def value_Number.f (a0_0 : Int) (a0_1 : Int) (a0_2 : ByteArray) (a0_3 : Bool) (a0_4 : Int) : Option (Int × Int) := (value_wrong.f a0_0 a0_1 a0_2 a0_3 a0_4).bind fun t133 => (if t133 > 0 then (some (0, t133)) else (if a0_0 = 1 then (some (a0_1, 0)) else (if a0_0 = 3 then (if a0_3 = true then ((fixnum_Int.f 1).bind fun bt134 => (some (bt134.1, 0))) else (some (0, 0))) else (if a0_0 = 2 then ((fixnum_Parse.f a0_2).bind fun bt136 => (if bt136.2 = true then (some (bt136.1, 0)) else (some (0, 5)))) else (some (0, 0))))))
set_option maxHeartbeats 8000000 in
set_option maxRecDepth 100000 in
theorem value_Number.calls (a0_0 : Int) (a0_1 : Int) (a0_2 : ByteArray) (a0_3 : Bool) (a0_4 : Int) (r1 : Int) (r2 : Int) (w : World) (hL : Aside0 (Lq w)) (h : value_Number.f a0_0 a0_1 a0_2 a0_3 a0_4 = some (r1, r2)) :
  Calls Tryz.prog 17 #[.agg #[.int .i64 a0_0, .int .i64 a0_1, .string a0_2, .bool a0_3, .int .i64 a0_4]] w fun e w' => e = .returned (.tuple #[.int .i64 r1, .int .i64 r2]) ∧ Below w.heap.size w w' := by
 have hu24 := Tryz.underlying24
 have HB := Aside0.mk (Below.refl w.heap.size w)
 have H : ((value_wrong.f a0_0 a0_1 a0_2 a0_3 a0_4).bind fun t133 => (if t133 > 0 then (some (0, t133)) else (if a0_0 = 1 then (some (a0_1, 0)) else (if a0_0 = 3 then (if a0_3 = true then ((fixnum_Int.f 1).bind fun bt134 => (some (bt134.1, 0))) else (some (0, 0))) else (if a0_0 = 2 then ((fixnum_Parse.f a0_2).bind fun bt136 => (if bt136.2 = true then (some (bt136.1, 0)) else (some (0, 5)))) else (some (0, 0))))))) = some (r1, r2) := h
 clear h
 replace H := Option.bind_eq_some_iff.mp H
 obtain ⟨t133, A20, H⟩ := H
 replace H : (if t133 > 0 then (some (0, t133)) else (if a0_0 = 1 then (some (a0_1, 0)) else (if a0_0 = 3 then (if a0_3 = true then ((fixnum_Int.f 1).bind fun bt134 => (some (bt134.1, 0))) else (some (0, 0))) else (if a0_0 = 2 then ((fixnum_Parse.f a0_2).bind fun bt136 => (if bt136.2 = true then (some (bt136.1, 0)) else (some (0, 5)))) else (some (0, 0)))))) = some (r1, r2) := H
 have A2 := Aside0.mk A20
 clear A20
 by_cases c3 : t133 > 0
 ·rw [if_pos c3] at H
  have c3b0 : decide (0 < t133) = true := decide_eq_true c3
  clear c3
  simp only [Option.some.injEq, Prod.mk.injEq] at H
  obtain ⟨rfl, rfl⟩ := H
  go_enter Tryz.func17, Tryz.ntmps17
  go_wp2_with (first | ((with_reducible refine gate_dst (N := 1) rfl ?_); refine box_event ?hg (N := 1) ?hd (cs := #[.int .i64 a0_0, .int .i64 a0_1, .string a0_2, .bool a0_3, .int .i64 a0_4]) (t := 24) ?hr ?_; (case hd => rfl); (case hg => rfl); (case hr => first | (go_simp; done) | (go_simp; rfl)); intro gb132 hg w4 hbox hb; have n0_ := Aside0.mk (below_step (by repeat (first | (with_reducible first | exact HB.out | apply bA | apply bN | apply bD) | exact HB.out)) hb); have n1_ := Aside0.mk (hbox); have n2_ := Aside0.mk ((by rw [hg]; exact (below_size (by repeat (first | (with_reducible first | exact HB.out | apply bA | apply bN | apply bD) | exact HB.out))) : w.heap.size ≤ gb132)); have n3_ := Aside0.mk ((by rw [hg]; exact (below_size (by repeat (first | (with_reducible first | exact HB.out | apply bA | apply bN | apply bD) | exact HB.out))) : w.heap.size ≤ gb132)); clear HB; have HB := n0_; have BK132 := n1_; have GW132 := n2_; have GE132 := n3_; clear n0_ n1_ n2_ n3_; clear hb hbox hg; obtain ⟨hcz5_0, hcz5_1, hcz5_2, hcz5_3, hcz5_4, hfz5_0, hfz5_1, hfz5_2, hfz5_3, hfz5_4⟩ := five BK132.out) | ((with_reducible refine gate_callee (f := 43) rfl ?_); refine goesL_ (some 10) rfl rfl Tryz.func43 (by kernel_rfl) rfl #[.agg #[.int .i64 a0_0, .int .i64 a0_1, .string a0_2, .bool a0_3, .int .i64 a0_4]] rfl (by (try simp only [List.map_toArray, List.map_cons, List.map_nil]); first | done | rfl) ?_; (with_reducible refine (value_wrong.calls (hL := ⟨by first | exact hL.out | (refine hL.out.drawn ?_; (repeat (first | exact Drawn0.refl _ | apply Drawn0.step)); done) | (refine hL.out.below ?_; (repeat (first | (with_reducible first | exact HB.out | apply bA | apply bN | apply bD | refine below_set ?_ GE132.out) | exact HB.out)); done)⟩) a0_0 a0_1 a0_2 a0_3 a0_4 t133 _ A2.out).mono ?_); rintro e w6 ⟨rfl, hb⟩; refine ⟨_, rfl, ?_⟩; have n0_ := Aside0.mk (blk_below (g := gb132) (o := .cells #[.int .i64 a0_0, .int .i64 a0_1, .string a0_2, .bool a0_3, .int .i64 a0_4] 24 (0, 0)) (by (with_reducible repeat (first | refine blk_drewN ?_ _ | refine blk_drew ?_ | refine blk_alloc ?_ _)); exact BK132.out) hb); have n1_ := Aside0.mk (below_step (by repeat (first | (with_reducible first | exact HB.out | apply bA | apply bN | apply bD | refine below_set ?_ GE132.out) | exact HB.out)) hb); clear BK132; clear HB; have BK132 := n0_; have HB := n1_; clear n0_ n1_; (try clear hb); (try clear hb2); (try clear hk); (try clear hi)))
  go_ret2
  exact ⟨by first | rfl | (simp; done) | (simp [*]; done) | (simp <;> rfl) | (simp [*] <;> rfl), by repeat (first | (with_reducible first | exact HB.out | apply bA | apply bN | apply bD | refine below_set ?_ GE132.out) | exact HB.out)⟩
 ·rw [if_neg c3] at H
  have c3b0 : decide (0 < t133) = false := decide_eq_false c3
  clear c3
  by_cases c7 : a0_0 = 1
  ·rw [if_pos c7] at H
   have c7b0 : (a0_0 == 1) = true := beq_iff_eq.mpr c7
   have c7b1 : (a0_0 != 1) = false := bne_eq_false_iff_eq.mpr c7
   clear c7
   simp only [Option.some.injEq, Prod.mk.injEq] at H
   obtain ⟨rfl, rfl⟩ := H
   go_enter Tryz.func17, Tryz.ntmps17
   go_wp2_with (first | ((with_reducible refine gate_dst (N := 1) rfl ?_); refine box_event ?hg (N := 1) ?hd (cs := #[.int .i64 a0_0, .int .i64 a0_1, .string a0_2, .bool a0_3, .int .i64 a0_4]) (t := 24) ?hr ?_; (case hd => rfl); (case hg => rfl); (case hr => first | (go_simp; done) | (go_simp; rfl)); intro gb132 hg w8 hbox hb; have n0_ := Aside0.mk (below_step (by repeat (first | (with_reducible first | exact HB.out | apply bA | apply bN | apply bD) | exact HB.out)) hb); have n1_ := Aside0.mk (hbox); have n2_ := Aside0.mk ((by rw [hg]; exact (below_size (by repeat (first | (with_reducible first | exact HB.out | apply bA | apply bN | apply bD) | exact HB.out))) : w.heap.size ≤ gb132)); have n3_ := Aside0.mk ((by rw [hg]; exact (below_size (by repeat (first | (with_reducible first | exact HB.out | apply bA | apply bN | apply bD) | exact HB.out))) : w.heap.size ≤ gb132)); clear HB; have HB := n0_; have BK132 := n1_; have GW132 := n2_; have GE132 := n3_; clear n0_ n1_ n2_ n3_; clear hb hbox hg; obtain ⟨hcz9_0, hcz9_1, hcz9_2, hcz9_3, hcz9_4, hfz9_0, hfz9_1, hfz9_2, hfz9_3, hfz9_4⟩ := five BK132.out) | ((with_reducible refine gate_callee (f := 43) rfl ?_); refine goesL_ (some 10) rfl rfl Tryz.func43 (by kernel_rfl) rfl #[.agg #[.int .i64 a0_0, .int .i64 a0_1, .string a0_2, .bool a0_3, .int .i64 a0_4]] rfl (by (try simp only [List.map_toArray, List.map_cons, List.map_nil]); first | done | rfl) ?_; (with_reducible refine (value_wrong.calls (hL := ⟨by first | exact hL.out | (refine hL.out.drawn ?_; (repeat (first | exact Drawn0.refl _ | apply Drawn0.step)); done) | (refine hL.out.below ?_; (repeat (first | (with_reducible first | exact HB.out | apply bA | apply bN | apply bD | refine below_set ?_ GE132.out) | exact HB.out)); done)⟩) a0_0 a0_1 a0_2 a0_3 a0_4 t133 _ A2.out).mono ?_); rintro e w10 ⟨rfl, hb⟩; refine ⟨_, rfl, ?_⟩; have n0_ := Aside0.mk (blk_below (g := gb132) (o := .cells #[.int .i64 a0_0, .int .i64 a0_1, .string a0_2, .bool a0_3, .int .i64 a0_4] 24 (0, 0)) (by (with_reducible repeat (first | refine blk_drewN ?_ _ | refine blk_drew ?_ | refine blk_alloc ?_ _)); exact BK132.out) hb); have n1_ := Aside0.mk (below_step (by repeat (first | (with_reducible first | exact HB.out | apply bA | apply bN | apply bD | refine below_set ?_ GE132.out) | exact HB.out)) hb); clear BK132; clear HB; have BK132 := n0_; have HB := n1_; clear n0_ n1_; (try clear hb); (try clear hb2); (try clear hk); (try clear hi); obtain ⟨hcz11_0, hcz11_1, hcz11_2, hcz11_3, hcz11_4, hfz11_0, hfz11_1, hfz11_2, hfz11_3, hfz11_4⟩ := five BK132.out))
   go_ret2
   exact ⟨by first | rfl | (simp; done) | (simp [*]; done) | (simp <;> rfl) | (simp [*] <;> rfl), by repeat (first | (with_reducible first | exact HB.out | apply bA | apply bN | apply bD | refine below_set ?_ GE132.out) | exact HB.out)⟩
  ·rw [if_neg c7] at H
   have c7b0 : (a0_0 == 1) = false := beq_eq_false_iff_ne.mpr c7
   have c7b1 : (a0_0 != 1) = true := bne_iff_ne.mpr c7
   by_cases c12 : a0_0 = 3
   ·rw [if_pos c12] at H
    have c12b0 : (a0_0 == 3) = true := beq_iff_eq.mpr c12
    have c12b1 : (a0_0 != 3) = false := bne_eq_false_iff_eq.mpr c12
    clear c12
    by_cases c13 : a0_3 = true
    ·subst c13
     have H1 : ((fixnum_Int.f 1).bind fun bt134 => (some (bt134.1, 0))) = some (r1, r2) := by rw [if_pos rfl] at H; exact H
     clear H
     have H := H1
     clear H1
     replace H := Option.bind_eq_some_iff.mp H
     obtain ⟨⟨t134, t135⟩, A140, H⟩ := H
     replace H : (some (t134, 0)) = some (r1, r2) := H
     have A14 := Aside0.mk A140
     clear A140
     simp only [Option.some.injEq, Prod.mk.injEq] at H
     obtain ⟨rfl, rfl⟩ := H
     go_enter Tryz.func17, Tryz.ntmps17
     go_wp2_with (first | ((with_reducible refine gate_dst (N := 1) rfl ?_); refine box_event ?hg (N := 1) ?hd (cs := #[.int .i64 a0_0, .int .i64 a0_1, .string a0_2, .bool true, .int .i64 a0_4]) (t := 24) ?hr ?_; (case hd => rfl); (case hg => rfl); (case hr => first | (go_simp; done) | (go_simp; rfl)); intro gb132 hg w15 hbox hb; have n0_ := Aside0.mk (below_step (by repeat (first | (with_reducible first | exact HB.out | apply bA | apply bN | apply bD) | exact HB.out)) hb); have n1_ := Aside0.mk (hbox); have n2_ := Aside0.mk ((by rw [hg]; exact (below_size (by repeat (first | (with_reducible first | exact HB.out | apply bA | apply bN | apply bD) | exact HB.out))) : w.heap.size ≤ gb132)); have n3_ := Aside0.mk ((by rw [hg]; exact (below_size (by repeat (first | (with_reducible first | exact HB.out | apply bA | apply bN | apply bD) | exact HB.out))) : w.heap.size ≤ gb132)); clear HB; have HB := n0_; have BK132 := n1_; have GW132 := n2_; have GE132 := n3_; clear n0_ n1_ n2_ n3_; clear hb hbox hg; obtain ⟨hcz16_0, hcz16_1, hcz16_2, hcz16_3, hcz16_4, hfz16_0, hfz16_1, hfz16_2, hfz16_3, hfz16_4⟩ := five BK132.out) | ((with_reducible refine gate_callee (f := 43) rfl ?_); refine goesL_ (some 10) rfl rfl Tryz.func43 (by kernel_rfl) rfl #[.agg #[.int .i64 a0_0, .int .i64 a0_1, .string a0_2, .bool true, .int .i64 a0_4]] rfl (by (try simp only [List.map_toArray, List.map_cons, List.map_nil]); first | done | rfl) ?_; (with_reducible refine (value_wrong.calls (hL := ⟨by first | exact hL.out | (refine hL.out.drawn ?_; (repeat (first | exact Drawn0.refl _ | apply Drawn0.step)); done) | (refine hL.out.below ?_; (repeat (first | (with_reducible first | exact HB.out | apply bA | apply bN | apply bD | refine below_set ?_ GE132.out) | exact HB.out)); done)⟩) a0_0 a0_1 a0_2 true a0_4 t133 _ A2.out).mono ?_); rintro e w17 ⟨rfl, hb⟩; refine ⟨_, rfl, ?_⟩; have n0_ := Aside0.mk (blk_below (g := gb132) (o := .cells #[.int .i64 a0_0, .int .i64 a0_1, .string a0_2, .bool true, .int .i64 a0_4] 24 (0, 0)) (by (with_reducible repeat (first | refine blk_drewN ?_ _ | refine blk_drew ?_ | refine blk_alloc ?_ _)); exact BK132.out) hb); have n1_ := Aside0.mk (below_step (by repeat (first | (with_reducible first | exact HB.out | apply bA | apply bN | apply bD | refine below_set ?_ GE132.out) | exact HB.out)) hb); clear BK132; clear HB; have BK132 := n0_; have HB := n1_; clear n0_ n1_; (try clear hb); (try clear hb2); (try clear hk); (try clear hi); obtain ⟨hcz18_0, hcz18_1, hcz18_2, hcz18_3, hcz18_4, hfz18_0, hfz18_1, hfz18_2, hfz18_3, hfz18_4⟩ := five BK132.out) | ((with_reducible refine gate_callee (f := 44) rfl ?_); refine goesL_ (some 25) rfl rfl Tryz.func44 (by kernel_rfl) rfl #[.int .i64 1] rfl (by (try simp only [List.map_toArray, List.map_cons, List.map_nil]); first | done | rfl) ?_; (with_reducible refine (fixnum_Int.calls 1 t134 t135 _ A14.out).mono ?_); rintro e w' ⟨rfl, ⟨nd, rfl⟩⟩; refine ⟨_, rfl, ?_⟩))
     go_ret2
     exact ⟨by first | rfl | (simp; done) | (simp [*]; done) | (simp <;> rfl) | (simp [*] <;> rfl), by repeat (first | (with_reducible first | exact HB.out | apply bA | apply bN | apply bD | refine below_set ?_ GE132.out) | exact HB.out)⟩
    ·replace c13 := Bool.eq_false_iff.mpr c13
     subst c13
     have H1 : (some (0, 0)) = some (r1, r2) := by rw [if_neg (show ¬ (false = true) by decide)] at H; exact H
     clear H
     have H := H1
     clear H1
     simp only [Option.some.injEq, Prod.mk.injEq] at H
     obtain ⟨rfl, rfl⟩ := H
     go_enter Tryz.func17, Tryz.ntmps17
     go_wp2_with (first | ((with_reducible refine gate_dst (N := 1) rfl ?_); refine box_event ?hg (N := 1) ?hd (cs := #[.int .i64 a0_0, .int .i64 a0_1, .string a0_2, .bool false, .int .i64 a0_4]) (t := 24) ?hr ?_; (case hd => rfl); (case hg => rfl); (case hr => first | (go_simp; done) | (go_simp; rfl)); intro gb132 hg w19 hbox hb; have n0_ := Aside0.mk (below_step (by repeat (first | (with_reducible first | exact HB.out | apply bA | apply bN | apply bD) | exact HB.out)) hb); have n1_ := Aside0.mk (hbox); have n2_ := Aside0.mk ((by rw [hg]; exact (below_size (by repeat (first | (with_reducible first | exact HB.out | apply bA | apply bN | apply bD) | exact HB.out))) : w.heap.size ≤ gb132)); have n3_ := Aside0.mk ((by rw [hg]; exact (below_size (by repeat (first | (with_reducible first | exact HB.out | apply bA | apply bN | apply bD) | exact HB.out))) : w.heap.size ≤ gb132)); clear HB; have HB := n0_; have BK132 := n1_; have GW132 := n2_; have GE132 := n3_; clear n0_ n1_ n2_ n3_; clear hb hbox hg; obtain ⟨hcz20_0, hcz20_1, hcz20_2, hcz20_3, hcz20_4, hfz20_0, hfz20_1, hfz20_2, hfz20_3, hfz20_4⟩ := five BK132.out) | ((with_reducible refine gate_callee (f := 43) rfl ?_); refine goesL_ (some 10) rfl rfl Tryz.func43 (by kernel_rfl) rfl #[.agg #[.int .i64 a0_0, .int .i64 a0_1, .string a0_2, .bool false, .int .i64 a0_4]] rfl (by (try simp only [List.map_toArray, List.map_cons, List.map_nil]); first | done | rfl) ?_; (with_reducible refine (value_wrong.calls (hL := ⟨by first | exact hL.out | (refine hL.out.drawn ?_; (repeat (first | exact Drawn0.refl _ | apply Drawn0.step)); done) | (refine hL.out.below ?_; (repeat (first | (with_reducible first | exact HB.out | apply bA | apply bN | apply bD | refine below_set ?_ GE132.out) | exact HB.out)); done)⟩) a0_0 a0_1 a0_2 false a0_4 t133 _ A2.out).mono ?_); rintro e w21 ⟨rfl, hb⟩; refine ⟨_, rfl, ?_⟩; have n0_ := Aside0.mk (blk_below (g := gb132) (o := .cells #[.int .i64 a0_0, .int .i64 a0_1, .string a0_2, .bool false, .int .i64 a0_4] 24 (0, 0)) (by (with_reducible repeat (first | refine blk_drewN ?_ _ | refine blk_drew ?_ | refine blk_alloc ?_ _)); exact BK132.out) hb); have n1_ := Aside0.mk (below_step (by repeat (first | (with_reducible first | exact HB.out | apply bA | apply bN | apply bD | refine below_set ?_ GE132.out) | exact HB.out)) hb); clear BK132; clear HB; have BK132 := n0_; have HB := n1_; clear n0_ n1_; (try clear hb); (try clear hb2); (try clear hk); (try clear hi); obtain ⟨hcz22_0, hcz22_1, hcz22_2, hcz22_3, hcz22_4, hfz22_0, hfz22_1, hfz22_2, hfz22_3, hfz22_4⟩ := five BK132.out))
     go_ret2
     exact ⟨by first | rfl | (simp; done) | (simp [*]; done) | (simp <;> rfl) | (simp [*] <;> rfl), by repeat (first | (with_reducible first | exact HB.out | apply bA | apply bN | apply bD | refine below_set ?_ GE132.out) | exact HB.out)⟩
   ·rw [if_neg c12] at H
    have c12b0 : (a0_0 == 3) = false := beq_eq_false_iff_ne.mpr c12
    have c12b1 : (a0_0 != 3) = true := bne_iff_ne.mpr c12
    by_cases c23 : a0_0 = 2
    ·rw [if_pos c23] at H
     have c23b0 : (a0_0 == 2) = true := beq_iff_eq.mpr c23
     have c23b1 : (a0_0 != 2) = false := bne_eq_false_iff_eq.mpr c23
     clear c23
     replace H := Option.bind_eq_some_iff.mp H
     obtain ⟨⟨t136, t137⟩, A240, H⟩ := H
     replace H : (if t137 = true then (some (t136, 0)) else (some (0, 5))) = some (r1, r2) := H
     have A24 := Aside0.mk A240
     clear A240
     by_cases c25 : t137 = true
     ·subst c25
      have H1 : (some (t136, 0)) = some (r1, r2) := by rw [if_pos rfl] at H; exact H
      clear H
      have H := H1
      clear H1
      simp only [Option.some.injEq, Prod.mk.injEq] at H
      obtain ⟨rfl, rfl⟩ := H
      go_enter Tryz.func17, Tryz.ntmps17
      go_wp2_with (first | ((with_reducible refine gate_dst (N := 1) rfl ?_); refine box_event ?hg (N := 1) ?hd (cs := #[.int .i64 a0_0, .int .i64 a0_1, .string a0_2, .bool a0_3, .int .i64 a0_4]) (t := 24) ?hr ?_; (case hd => rfl); (case hg => rfl); (case hr => first | (go_simp; done) | (go_simp; rfl)); intro gb132 hg w26 hbox hb; have n0_ := Aside0.mk (below_step (by repeat (first | (with_reducible first | exact HB.out | apply bA | apply bN | apply bD) | exact HB.out)) hb); have n1_ := Aside0.mk (hbox); have n2_ := Aside0.mk ((by rw [hg]; exact (below_size (by repeat (first | (with_reducible first | exact HB.out | apply bA | apply bN | apply bD) | exact HB.out))) : w.heap.size ≤ gb132)); have n3_ := Aside0.mk ((by rw [hg]; exact (below_size (by repeat (first | (with_reducible first | exact HB.out | apply bA | apply bN | apply bD) | exact HB.out))) : w.heap.size ≤ gb132)); clear HB; have HB := n0_; have BK132 := n1_; have GW132 := n2_; have GE132 := n3_; clear n0_ n1_ n2_ n3_; clear hb hbox hg; obtain ⟨hcz27_0, hcz27_1, hcz27_2, hcz27_3, hcz27_4, hfz27_0, hfz27_1, hfz27_2, hfz27_3, hfz27_4⟩ := five BK132.out) | ((with_reducible refine gate_callee (f := 43) rfl ?_); refine goesL_ (some 10) rfl rfl Tryz.func43 (by kernel_rfl) rfl #[.agg #[.int .i64 a0_0, .int .i64 a0_1, .string a0_2, .bool a0_3, .int .i64 a0_4]] rfl (by (try simp only [List.map_toArray, List.map_cons, List.map_nil]); first | done | rfl) ?_; (with_reducible refine (value_wrong.calls (hL := ⟨by first | exact hL.out | (refine hL.out.drawn ?_; (repeat (first | exact Drawn0.refl _ | apply Drawn0.step)); done) | (refine hL.out.below ?_; (repeat (first | (with_reducible first | exact HB.out | apply bA | apply bN | apply bD | refine below_set ?_ GE132.out) | exact HB.out)); done)⟩) a0_0 a0_1 a0_2 a0_3 a0_4 t133 _ A2.out).mono ?_); rintro e w28 ⟨rfl, hb⟩; refine ⟨_, rfl, ?_⟩; have n0_ := Aside0.mk (blk_below (g := gb132) (o := .cells #[.int .i64 a0_0, .int .i64 a0_1, .string a0_2, .bool a0_3, .int .i64 a0_4] 24 (0, 0)) (by (with_reducible repeat (first | refine blk_drewN ?_ _ | refine blk_drew ?_ | refine blk_alloc ?_ _)); exact BK132.out) hb); have n1_ := Aside0.mk (below_step (by repeat (first | (with_reducible first | exact HB.out | apply bA | apply bN | apply bD | refine below_set ?_ GE132.out) | exact HB.out)) hb); clear BK132; clear HB; have BK132 := n0_; have HB := n1_; clear n0_ n1_; (try clear hb); (try clear hb2); (try clear hk); (try clear hi); obtain ⟨hcz29_0, hcz29_1, hcz29_2, hcz29_3, hcz29_4, hfz29_0, hfz29_1, hfz29_2, hfz29_3, hfz29_4⟩ := five BK132.out) | ((with_reducible refine gate_callee (f := 45) rfl ?_); refine goesL_ (some 34) rfl rfl Tryz.func45 (by kernel_rfl) rfl #[.string a0_2] rfl (by (try simp only [List.map_toArray, List.map_cons, List.map_nil]); first | done | rfl) ?_; (with_reducible refine (fixnum_Parse.calls (hL := ⟨by first | exact hL.out | (refine hL.out.drawn ?_; (repeat (first | exact Drawn0.refl _ | apply Drawn0.step)); done) | (refine hL.out.below ?_; (repeat (first | (with_reducible first | exact HB.out | apply bA | apply bN | apply bD | refine below_set ?_ GE132.out) | exact HB.out)); done)⟩) a0_2 t136 true _ A24.out).mono ?_); rintro e w30 ⟨rfl, hb⟩; refine ⟨_, rfl, ?_⟩; have n0_ := Aside0.mk (blk_below (g := gb132) (o := .cells #[.int .i64 a0_0, .int .i64 a0_1, .string a0_2, .bool a0_3, .int .i64 a0_4] 24 (0, 0)) (by (with_reducible repeat (first | refine blk_drewN ?_ _ | refine blk_drew ?_ | refine blk_alloc ?_ _)); exact BK132.out) hb); have n1_ := Aside0.mk (below_step (by repeat (first | (with_reducible first | exact HB.out | apply bA | apply bN | apply bD | refine below_set ?_ GE132.out) | exact HB.out)) hb); clear BK132; clear HB; have BK132 := n0_; have HB := n1_; clear n0_ n1_; (try clear hb); (try clear hb2); (try clear hk); (try clear hi)))
      go_ret2
      exact ⟨by first | rfl | (simp; done) | (simp [*]; done) | (simp <;> rfl) | (simp [*] <;> rfl), by repeat (first | (with_reducible first | exact HB.out | apply bA | apply bN | apply bD | refine below_set ?_ GE132.out) | exact HB.out)⟩
     ·replace c25 := Bool.eq_false_iff.mpr c25
      subst c25
      have H1 : (some (0, 5)) = some (r1, r2) := by rw [if_neg (show ¬ (false = true) by decide)] at H; exact H
      clear H
      have H := H1
      clear H1
      simp only [Option.some.injEq, Prod.mk.injEq] at H
      obtain ⟨rfl, rfl⟩ := H
      go_enter Tryz.func17, Tryz.ntmps17
      go_wp2_with (first | ((with_reducible refine gate_dst (N := 1) rfl ?_); refine box_event ?hg (N := 1) ?hd (cs := #[.int .i64 a0_0, .int .i64 a0_1, .string a0_2, .bool a0_3, .int .i64 a0_4]) (t := 24) ?hr ?_; (case hd => rfl); (case hg => rfl); (case hr => first | (go_simp; done) | (go_simp; rfl)); intro gb132 hg w31 hbox hb; have n0_ := Aside0.mk (below_step (by repeat (first | (with_reducible first | exact HB.out | apply bA | apply bN | apply bD) | exact HB.out)) hb); have n1_ := Aside0.mk (hbox); have n2_ := Aside0.mk ((by rw [hg]; exact (below_size (by repeat (first | (with_reducible first | exact HB.out | apply bA | apply bN | apply bD) | exact HB.out))) : w.heap.size ≤ gb132)); have n3_ := Aside0.mk ((by rw [hg]; exact (below_size (by repeat (first | (with_reducible first | exact HB.out | apply bA | apply bN | apply bD) | exact HB.out))) : w.heap.size ≤ gb132)); clear HB; have HB := n0_; have BK132 := n1_; have GW132 := n2_; have GE132 := n3_; clear n0_ n1_ n2_ n3_; clear hb hbox hg; obtain ⟨hcz32_0, hcz32_1, hcz32_2, hcz32_3, hcz32_4, hfz32_0, hfz32_1, hfz32_2, hfz32_3, hfz32_4⟩ := five BK132.out) | ((with_reducible refine gate_callee (f := 43) rfl ?_); refine goesL_ (some 10) rfl rfl Tryz.func43 (by kernel_rfl) rfl #[.agg #[.int .i64 a0_0, .int .i64 a0_1, .string a0_2, .bool a0_3, .int .i64 a0_4]] rfl (by (try simp only [List.map_toArray, List.map_cons, List.map_nil]); first | done | rfl) ?_; (with_reducible refine (value_wrong.calls (hL := ⟨by first | exact hL.out | (refine hL.out.drawn ?_; (repeat (first | exact Drawn0.refl _ | apply Drawn0.step)); done) | (refine hL.out.below ?_; (repeat (first | (with_reducible first | exact HB.out | apply bA | apply bN | apply bD | refine below_set ?_ GE132.out) | exact HB.out)); done)⟩) a0_0 a0_1 a0_2 a0_3 a0_4 t133 _ A2.out).mono ?_); rintro e w33 ⟨rfl, hb⟩; refine ⟨_, rfl, ?_⟩; have n0_ := Aside0.mk (blk_below (g := gb132) (o := .cells #[.int .i64 a0_0, .int .i64 a0_1, .string a0_2, .bool a0_3, .int .i64 a0_4] 24 (0, 0)) (by (with_reducible repeat (first | refine blk_drewN ?_ _ | refine blk_drew ?_ | refine blk_alloc ?_ _)); exact BK132.out) hb); have n1_ := Aside0.mk (below_step (by repeat (first | (with_reducible first | exact HB.out | apply bA | apply bN | apply bD | refine below_set ?_ GE132.out) | exact HB.out)) hb); clear BK132; clear HB; have BK132 := n0_; have HB := n1_; clear n0_ n1_; (try clear hb); (try clear hb2); (try clear hk); (try clear hi); obtain ⟨hcz34_0, hcz34_1, hcz34_2, hcz34_3, hcz34_4, hfz34_0, hfz34_1, hfz34_2, hfz34_3, hfz34_4⟩ := five BK132.out) | ((with_reducible refine gate_callee (f := 45) rfl ?_); refine goesL_ (some 34) rfl rfl Tryz.func45 (by kernel_rfl) rfl #[.string a0_2] rfl (by (try simp only [List.map_toArray, List.map_cons, List.map_nil]); first | done | rfl) ?_; (with_reducible refine (fixnum_Parse.calls (hL := ⟨by first | exact hL.out | (refine hL.out.drawn ?_; (repeat (first | exact Drawn0.refl _ | apply Drawn0.step)); done) | (refine hL.out.below ?_; (repeat (first | (with_reducible first | exact HB.out | apply bA | apply bN | apply bD | refine below_set ?_ GE132.out) | exact HB.out)); done)⟩) a0_2 t136 false _ A24.out).mono ?_); rintro e w35 ⟨rfl, hb⟩; refine ⟨_, rfl, ?_⟩; have n0_ := Aside0.mk (blk_below (g := gb132) (o := .cells #[.int .i64 a0_0, .int .i64 a0_1, .string a0_2, .bool a0_3, .int .i64 a0_4] 24 (0, 0)) (by (with_reducible repeat (first | refine blk_drewN ?_ _ | refine blk_drew ?_ | refine blk_alloc ?_ _)); exact BK132.out) hb); have n1_ := Aside0.mk (below_step (by repeat (first | (with_reducible first | exact HB.out | apply bA | apply bN | apply bD | refine below_set ?_ GE132.out) | exact HB.out)) hb); clear BK132; clear HB; have BK132 := n0_; have HB := n1_; clear n0_ n1_; (try clear hb); (try clear hb2); (try clear hk); (try clear hi)))
      go_ret2
      exact ⟨by first | rfl | (simp; done) | (simp [*]; done) | (simp <;> rfl) | (simp [*] <;> rfl), by repeat (first | (with_reducible first | exact HB.out | apply bA | apply bN | apply bD | refine below_set ?_ GE132.out) | exact HB.out)⟩
    ·rw [if_neg c23] at H
     have c23b0 : (a0_0 == 2) = false := beq_eq_false_iff_ne.mpr c23
     have c23b1 : (a0_0 != 2) = true := bne_iff_ne.mpr c23
     simp only [Option.some.injEq, Prod.mk.injEq] at H
     obtain ⟨rfl, rfl⟩ := H
     go_enter Tryz.func17, Tryz.ntmps17
     go_wp2_with (first | ((with_reducible refine gate_dst (N := 1) rfl ?_); refine box_event ?hg (N := 1) ?hd (cs := #[.int .i64 a0_0, .int .i64 a0_1, .string a0_2, .bool a0_3, .int .i64 a0_4]) (t := 24) ?hr ?_; (case hd => rfl); (case hg => rfl); (case hr => first | (go_simp; done) | (go_simp; rfl)); intro gb132 hg w36 hbox hb; have n0_ := Aside0.mk (below_step (by repeat (first | (with_reducible first | exact HB.out | apply bA | apply bN | apply bD) | exact HB.out)) hb); have n1_ := Aside0.mk (hbox); have n2_ := Aside0.mk ((by rw [hg]; exact (below_size (by repeat (first | (with_reducible first | exact HB.out | apply bA | apply bN | apply bD) | exact HB.out))) : w.heap.size ≤ gb132)); have n3_ := Aside0.mk ((by rw [hg]; exact (below_size (by repeat (first | (with_reducible first | exact HB.out | apply bA | apply bN | apply bD) | exact HB.out))) : w.heap.size ≤ gb132)); clear HB; have HB := n0_; have BK132 := n1_; have GW132 := n2_; have GE132 := n3_; clear n0_ n1_ n2_ n3_; clear hb hbox hg; obtain ⟨hcz37_0, hcz37_1, hcz37_2, hcz37_3, hcz37_4, hfz37_0, hfz37_1, hfz37_2, hfz37_3, hfz37_4⟩ := five BK132.out) | ((with_reducible refine gate_callee (f := 43) rfl ?_); refine goesL_ (some 10) rfl rfl Tryz.func43 (by kernel_rfl) rfl #[.agg #[.int .i64 a0_0, .int .i64 a0_1, .string a0_2, .bool a0_3, .int .i64 a0_4]] rfl (by (try simp only [List.map_toArray, List.map_cons, List.map_nil]); first | done | rfl) ?_; (with_reducible refine (value_wrong.calls (hL := ⟨by first | exact hL.out | (refine hL.out.drawn ?_; (repeat (first | exact Drawn0.refl _ | apply Drawn0.step)); done) | (refine hL.out.below ?_; (repeat (first | (with_reducible first | exact HB.out | apply bA | apply bN | apply bD | refine below_set ?_ GE132.out) | exact HB.out)); done)⟩) a0_0 a0_1 a0_2 a0_3 a0_4 t133 _ A2.out).mono ?_); rintro e w38 ⟨rfl, hb⟩; refine ⟨_, rfl, ?_⟩; have n0_ := Aside0.mk (blk_below (g := gb132) (o := .cells #[.int .i64 a0_0, .int .i64 a0_1, .string a0_2, .bool a0_3, .int .i64 a0_4] 24 (0, 0)) (by (with_reducible repeat (first | refine blk_drewN ?_ _ | refine blk_drew ?_ | refine blk_alloc ?_ _)); exact BK132.out) hb); have n1_ := Aside0.mk (below_step (by repeat (first | (with_reducible first | exact HB.out | apply bA | apply bN | apply bD | refine below_set ?_ GE132.out) | exact HB.out)) hb); clear BK132; clear HB; have BK132 := n0_; have HB := n1_; clear n0_ n1_; (try clear hb); (try clear hb2); (try clear hk); (try clear hi); obtain ⟨hcz39_0, hcz39_1, hcz39_2, hcz39_3, hcz39_4, hfz39_0, hfz39_1, hfz39_2, hfz39_3, hfz39_4⟩ := five BK132.out))
     go_ret2
     exact ⟨by first | rfl | (simp; done) | (simp [*]; done) | (simp <;> rfl) | (simp [*] <;> rfl), by repeat (first | (with_reducible first | exact HB.out | apply bA | apply bN | apply bD | refine below_set ?_ GE132.out) | exact HB.out)⟩
def value_Text.f (a0_0 : Int) (a0_1 : Int) (a0_2 : ByteArray) (a0_3 : Bool) (a0_4 : Int) : Option (ByteArray × Int) := (value_wrong.f a0_0 a0_1 a0_2 a0_3 a0_4).bind fun t139 => (if t139 > 0 then (some ((⟨#[]⟩ : ByteArray), t139)) else (if a0_0 = 1 then ((fixnum_Print.f a0_1).bind fun t140 => (some (t140, 0))) else (if a0_0 = 3 then (if a0_3 = true then (some ((⟨#[84, 82, 85, 69]⟩ : ByteArray), 0)) else (some ((⟨#[70, 65, 76, 83, 69]⟩ : ByteArray), 0))) else (some (a0_2, 0)))))
set_option maxHeartbeats 8000000 in
set_option maxRecDepth 100000 in
theorem value_Text.calls (a0_0 : Int) (a0_1 : Int) (a0_2 : ByteArray) (a0_3 : Bool) (a0_4 : Int) (r1 : ByteArray) (r2 : Int) (w : World) (hL : Aside0 (Lq w)) (h : value_Text.f a0_0 a0_1 a0_2 a0_3 a0_4 = some (r1, r2)) :
  Calls Tryz.prog 19 #[.agg #[.int .i64 a0_0, .int .i64 a0_1, .string a0_2, .bool a0_3, .int .i64 a0_4]] w fun e w' => e = .returned (.tuple #[.string r1, .int .i64 r2]) ∧ Below w.heap.size w w' := by
 have hu24 := Tryz.underlying24
 have HB := Aside0.mk (Below.refl w.heap.size w)
 have H : ((value_wrong.f a0_0 a0_1 a0_2 a0_3 a0_4).bind fun t139 => (if t139 > 0 then (some ((⟨#[]⟩ : ByteArray), t139)) else (if a0_0 = 1 then ((fixnum_Print.f a0_1).bind fun t140 => (some (t140, 0))) else (if a0_0 = 3 then (if a0_3 = true then (some ((⟨#[84, 82, 85, 69]⟩ : ByteArray), 0)) else (some ((⟨#[70, 65, 76, 83, 69]⟩ : ByteArray), 0))) else (some (a0_2, 0)))))) = some (r1, r2) := h
 clear h
 replace H := Option.bind_eq_some_iff.mp H
 obtain ⟨t139, A20, H⟩ := H
 replace H : (if t139 > 0 then (some ((⟨#[]⟩ : ByteArray), t139)) else (if a0_0 = 1 then ((fixnum_Print.f a0_1).bind fun t140 => (some (t140, 0))) else (if a0_0 = 3 then (if a0_3 = true then (some ((⟨#[84, 82, 85, 69]⟩ : ByteArray), 0)) else (some ((⟨#[70, 65, 76, 83, 69]⟩ : ByteArray), 0))) else (some (a0_2, 0))))) = some (r1, r2) := H
 have A2 := Aside0.mk A20
 clear A20
 by_cases c3 : t139 > 0
 ·rw [if_pos c3] at H
  have c3b0 : decide (0 < t139) = true := decide_eq_true c3
  clear c3
  simp only [Option.some.injEq, Prod.mk.injEq] at H
  obtain ⟨rfl, rfl⟩ := H
  go_enter Tryz.func19, Tryz.ntmps19
  go_wp2_with (first | ((with_reducible refine gate_dst (N := 1) rfl ?_); refine box_event ?hg (N := 1) ?hd (cs := #[.int .i64 a0_0, .int .i64 a0_1, .string a0_2, .bool a0_3, .int .i64 a0_4]) (t := 24) ?hr ?_; (case hd => rfl); (case hg => rfl); (case hr => first | (go_simp; done) | (go_simp; rfl)); intro gb138 hg w4 hbox hb; have n0_ := Aside0.mk (below_step (by repeat (first | (with_reducible first | exact HB.out | apply bA | apply bN | apply bD) | exact HB.out)) hb); have n1_ := Aside0.mk (hbox); have n2_ := Aside0.mk ((by rw [hg]; exact (below_size (by repeat (first | (with_reducible first | exact HB.out | apply bA | apply bN | apply bD) | exact HB.out))) : w.heap.size ≤ gb138)); have n3_ := Aside0.mk ((by rw [hg]; exact (below_size (by repeat (first | (with_reducible first | exact HB.out | apply bA | apply bN | apply bD) | exact HB.out))) : w.heap.size ≤ gb138)); clear HB; have HB := n0_; have BK138 := n1_; have GW138 := n2_; have GE138 := n3_; clear n0_ n1_ n2_ n3_; clear hb hbox hg; obtain ⟨hcz5_0, hcz5_1, hcz5_2, hcz5_3, hcz5_4, hfz5_0, hfz5_1, hfz5_2, hfz5_3, hfz5_4⟩ := five BK138.out) | ((with_reducible refine gate_callee (f := 43) rfl ?_); refine goesL_ (some 6) rfl rfl Tryz.func43 (by kernel_rfl) rfl #[.agg #[.int .i64 a0_0, .int .i64 a0_1, .string a0_2, .bool a0_3, .int .i64 a0_4]] rfl (by (try simp only [List.map_toArray, List.map_cons, List.map_nil]); first | done | rfl) ?_; (with_reducible refine (value_wrong.calls (hL := ⟨by first | exact hL.out | (refine hL.out.drawn ?_; (repeat (first | exact Drawn0.refl _ | apply Drawn0.step)); done) | (refine hL.out.below ?_; (repeat (first | (with_reducible first | exact HB.out | apply bA | apply bN | apply bD | refine below_set ?_ GE138.out) | exact HB.out)); done)⟩) a0_0 a0_1 a0_2 a0_3 a0_4 t139 _ A2.out).mono ?_); rintro e w6 ⟨rfl, hb⟩; refine ⟨_, rfl, ?_⟩; have n0_ := Aside0.mk (blk_below (g := gb138) (o := .cells #[.int .i64 a0_0, .int .i64 a0_1, .string a0_2, .bool a0_3, .int .i64 a0_4] 24 (0, 0)) (by (with_reducible repeat (first | refine blk_drewN ?_ _ | refine blk_drew ?_ | refine blk_alloc ?_ _)); exact BK138.out) hb); have n1_ := Aside0.mk (below_step (by repeat (first | (with_reducible first | exact HB.out | apply bA | apply bN | apply bD | refine below_set ?_ GE138.out) | exact HB.out)) hb); clear BK138; clear HB; have BK138 := n0_; have HB := n1_; clear n0_ n1_; (try clear hb); (try clear hb2); (try clear hk); (try clear hi)))
  go_ret2
  exact ⟨by first | rfl | (simp; done) | (simp [*]; done) | (simp <;> rfl) | (simp [*] <;> rfl), by repeat (first | (with_reducible first | exact HB.out | apply bA | apply bN | apply bD | refine below_set ?_ GE138.out) | exact HB.out)⟩
 ·rw [if_neg c3] at H
  have c3b0 : decide (0 < t139) = false := decide_eq_false c3
  clear c3
  by_cases c7 : a0_0 = 1
  ·rw [if_pos c7] at H
   have c7b0 : (a0_0 == 1) = true := beq_iff_eq.mpr c7
   have c7b1 : (a0_0 != 1) = false := bne_eq_false_iff_eq.mpr c7
   clear c7
   replace H := Option.bind_eq_some_iff.mp H
   obtain ⟨t140, A80, H⟩ := H
   replace H : (some (t140, 0)) = some (r1, r2) := H
   have A8 := Aside0.mk A80
   clear A80
   simp only [Option.some.injEq, Prod.mk.injEq] at H
   obtain ⟨rfl, rfl⟩ := H
   go_enter Tryz.func19, Tryz.ntmps19
   go_wp2_with (first | ((with_reducible refine gate_dst (N := 1) rfl ?_); refine box_event ?hg (N := 1) ?hd (cs := #[.int .i64 a0_0, .int .i64 a0_1, .string a0_2, .bool a0_3, .int .i64 a0_4]) (t := 24) ?hr ?_; (case hd => rfl); (case hg => rfl); (case hr => first | (go_simp; done) | (go_simp; rfl)); intro gb138 hg w9 hbox hb; have n0_ := Aside0.mk (below_step (by repeat (first | (with_reducible first | exact HB.out | apply bA | apply bN | apply bD) | exact HB.out)) hb); have n1_ := Aside0.mk (hbox); have n2_ := Aside0.mk ((by rw [hg]; exact (below_size (by repeat (first | (with_reducible first | exact HB.out | apply bA | apply bN | apply bD) | exact HB.out))) : w.heap.size ≤ gb138)); have n3_ := Aside0.mk ((by rw [hg]; exact (below_size (by repeat (first | (with_reducible first | exact HB.out | apply bA | apply bN | apply bD) | exact HB.out))) : w.heap.size ≤ gb138)); clear HB; have HB := n0_; have BK138 := n1_; have GW138 := n2_; have GE138 := n3_; clear n0_ n1_ n2_ n3_; clear hb hbox hg; obtain ⟨hcz10_0, hcz10_1, hcz10_2, hcz10_3, hcz10_4, hfz10_0, hfz10_1, hfz10_2, hfz10_3, hfz10_4⟩ := five BK138.out) | ((with_reducible refine gate_callee (f := 43) rfl ?_); refine goesL_ (some 6) rfl rfl Tryz.func43 (by kernel_rfl) rfl #[.agg #[.int .i64 a0_0, .int .i64 a0_1, .string a0_2, .bool a0_3, .int .i64 a0_4]] rfl (by (try simp only [List.map_toArray, List.map_cons, List.map_nil]); first | done | rfl) ?_; (with_reducible refine (value_wrong.calls (hL := ⟨by first | exact hL.out | (refine hL.out.drawn ?_; (repeat (first | exact Drawn0.refl _ | apply Drawn0.step)); done) | (refine hL.out.below ?_; (repeat (first | (with_reducible first | exact HB.out | apply bA | apply bN | apply bD | refine below_set ?_ GE138.out) | exact HB.out)); done)⟩) a0_0 a0_1 a0_2 a0_3 a0_4 t139 _ A2.out).mono ?_); rintro e w11 ⟨rfl, hb⟩; refine ⟨_, rfl, ?_⟩; have n0_ := Aside0.mk (blk_below (g := gb138) (o := .cells #[.int .i64 a0_0, .int .i64 a0_1, .string a0_2, .bool a0_3, .int .i64 a0_4] 24 (0, 0)) (by (with_reducible repeat (first | refine blk_drewN ?_ _ | refine blk_drew ?_ | refine blk_alloc ?_ _)); exact BK138.out) hb); have n1_ := Aside0.mk (below_step (by repeat (first | (with_reducible first | exact HB.out | apply bA | apply bN | apply bD | refine below_set ?_ GE138.out) | exact HB.out)) hb); clear BK138; clear HB; have BK138 := n0_; have HB := n1_; clear n0_ n1_; (try clear hb); (try clear hb2); (try clear hk); (try clear hi); obtain ⟨hcz12_0, hcz12_1, hcz12_2, hcz12_3, hcz12_4, hfz12_0, hfz12_1, hfz12_2, hfz12_3, hfz12_4⟩ := five BK138.out) | ((with_reducible refine gate_callee (f := 47) rfl ?_); refine goesL_ (some 16) rfl rfl Tryz.func47 (by kernel_rfl) rfl #[.int .i64 a0_1] rfl (by (try simp only [List.map_toArray, List.map_cons, List.map_nil]); first | done | rfl) ?_; (with_reducible refine (fixnum_Print.calls (hL := ⟨by first | exact hL.out | (refine hL.out.drawn ?_; (repeat (first | exact Drawn0.refl _ | apply Drawn0.step)); done) | (refine hL.out.below ?_; (repeat (first | (with_reducible first | exact HB.out | apply bA | apply bN | apply bD | refine below_set ?_ GE138.out) | exact HB.out)); done)⟩) a0_1 t140 _ A8.out).mono ?_); rintro e w13 ⟨rfl, hb⟩; refine ⟨_, rfl, ?_⟩; have n0_ := Aside0.mk (blk_below (g := gb138) (o := .cells #[.int .i64 a0_0, .int .i64 a0_1, .string a0_2, .bool a0_3, .int .i64 a0_4] 24 (0, 0)) (by (with_reducible repeat (first | refine blk_drewN ?_ _ | refine blk_drew ?_ | refine blk_alloc ?_ _)); exact BK138.out) hb); have n1_ := Aside0.mk (below_step (by repeat (first | (with_reducible first | exact HB.out | apply bA | apply bN | apply bD | refine below_set ?_ GE138.out) | exact HB.out)) hb); clear BK138; clear HB; have BK138 := n0_; have HB := n1_; clear n0_ n1_; (try clear hb); (try clear hb2); (try clear hk); (try clear hi)))
   go_ret2
   exact ⟨by first | rfl | (simp; done) | (simp [*]; done) | (simp <;> rfl) | (simp [*] <;> rfl), by repeat (first | (with_reducible first | exact HB.out | apply bA | apply bN | apply bD | refine below_set ?_ GE138.out) | exact HB.out)⟩
  ·rw [if_neg c7] at H
   have c7b0 : (a0_0 == 1) = false := beq_eq_false_iff_ne.mpr c7
   have c7b1 : (a0_0 != 1) = true := bne_iff_ne.mpr c7
   by_cases c14 : a0_0 = 3
   ·rw [if_pos c14] at H
    have c14b0 : (a0_0 == 3) = true := beq_iff_eq.mpr c14
    have c14b1 : (a0_0 != 3) = false := bne_eq_false_iff_eq.mpr c14
    clear c14
    by_cases c15 : a0_3 = true
    ·subst c15
     have H1 : (some ((⟨#[84, 82, 85, 69]⟩ : ByteArray), 0)) = some (r1, r2) := by rw [if_pos rfl] at H; exact H
     clear H
     have H := H1
     clear H1
     simp only [Option.some.injEq, Prod.mk.injEq] at H
     obtain ⟨rfl, rfl⟩ := H
     go_enter Tryz.func19, Tryz.ntmps19
     go_wp2_with (first | ((with_reducible refine gate_dst (N := 1) rfl ?_); refine box_event ?hg (N := 1) ?hd (cs := #[.int .i64 a0_0, .int .i64 a0_1, .string a0_2, .bool true, .int .i64 a0_4]) (t := 24) ?hr ?_; (case hd => rfl); (case hg => rfl); (case hr => first | (go_simp; done) | (go_simp; rfl)); intro gb138 hg w16 hbox hb; have n0_ := Aside0.mk (below_step (by repeat (first | (with_reducible first | exact HB.out | apply bA | apply bN | apply bD) | exact HB.out)) hb); have n1_ := Aside0.mk (hbox); have n2_ := Aside0.mk ((by rw [hg]; exact (below_size (by repeat (first | (with_reducible first | exact HB.out | apply bA | apply bN | apply bD) | exact HB.out))) : w.heap.size ≤ gb138)); have n3_ := Aside0.mk ((by rw [hg]; exact (below_size (by repeat (first | (with_reducible first | exact HB.out | apply bA | apply bN | apply bD) | exact HB.out))) : w.heap.size ≤ gb138)); clear HB; have HB := n0_; have BK138 := n1_; have GW138 := n2_; have GE138 := n3_; clear n0_ n1_ n2_ n3_; clear hb hbox hg; obtain ⟨hcz17_0, hcz17_1, hcz17_2, hcz17_3, hcz17_4, hfz17_0, hfz17_1, hfz17_2, hfz17_3, hfz17_4⟩ := five BK138.out) | ((with_reducible refine gate_callee (f := 43) rfl ?_); refine goesL_ (some 6) rfl rfl Tryz.func43 (by kernel_rfl) rfl #[.agg #[.int .i64 a0_0, .int .i64 a0_1, .string a0_2, .bool true, .int .i64 a0_4]] rfl (by (try simp only [List.map_toArray, List.map_cons, List.map_nil]); first | done | rfl) ?_; (with_reducible refine (value_wrong.calls (hL := ⟨by first | exact hL.out | (refine hL.out.drawn ?_; (repeat (first | exact Drawn0.refl _ | apply Drawn0.step)); done) | (refine hL.out.below ?_; (repeat (first | (with_reducible first | exact HB.out | apply bA | apply bN | apply bD | refine below_set ?_ GE138.out) | exact HB.out)); done)⟩) a0_0 a0_1 a0_2 true a0_4 t139 _ A2.out).mono ?_); rintro e w18 ⟨rfl, hb⟩; refine ⟨_, rfl, ?_⟩; have n0_ := Aside0.mk (blk_below (g := gb138) (o := .cells #[.int .i64 a0_0, .int .i64 a0_1, .string a0_2, .bool true, .int .i64 a0_4] 24 (0, 0)) (by (with_reducible repeat (first | refine blk_drewN ?_ _ | refine blk_drew ?_ | refine blk_alloc ?_ _)); exact BK138.out) hb); have n1_ := Aside0.mk (below_step (by repeat (first | (with_reducible first | exact HB.out | apply bA | apply bN | apply bD | refine below_set ?_ GE138.out) | exact HB.out)) hb); clear BK138; clear HB; have BK138 := n0_; have HB := n1_; clear n0_ n1_; (try clear hb); (try clear hb2); (try clear hk); (try clear hi); obtain ⟨hcz19_0, hcz19_1, hcz19_2, hcz19_3, hcz19_4, hfz19_0, hfz19_1, hfz19_2, hfz19_3, hfz19_4⟩ := five BK138.out))
     go_ret2
     exact ⟨by first | rfl | (simp; done) | (simp [*]; done) | (simp <;> rfl) | (simp [*] <;> rfl), by repeat (first | (with_reducible first | exact HB.out | apply bA | apply bN | apply bD | refine below_set ?_ GE138.out) | exact HB.out)⟩
    ·replace c15 := Bool.eq_false_iff.mpr c15
     subst c15
     have H1 : (some ((⟨#[70, 65, 76, 83, 69]⟩ : ByteArray), 0)) = some (r1, r2) := by rw [if_neg (show ¬ (false = true) by decide)] at H; exact H
     clear H
     have H := H1
     clear H1
     simp only [Option.some.injEq, Prod.mk.injEq] at H
     obtain ⟨rfl, rfl⟩ := H
     go_enter Tryz.func19, Tryz.ntmps19
     go_wp2_with (first | ((with_reducible refine gate_dst (N := 1) rfl ?_); refine box_event ?hg (N := 1) ?hd (cs := #[.int .i64 a0_0, .int .i64 a0_1, .string a0_2, .bool false, .int .i64 a0_4]) (t := 24) ?hr ?_; (case hd => rfl); (case hg => rfl); (case hr => first | (go_simp; done) | (go_simp; rfl)); intro gb138 hg w20 hbox hb; have n0_ := Aside0.mk (below_step (by repeat (first | (with_reducible first | exact HB.out | apply bA | apply bN | apply bD) | exact HB.out)) hb); have n1_ := Aside0.mk (hbox); have n2_ := Aside0.mk ((by rw [hg]; exact (below_size (by repeat (first | (with_reducible first | exact HB.out | apply bA | apply bN | apply bD) | exact HB.out))) : w.heap.size ≤ gb138)); have n3_ := Aside0.mk ((by rw [hg]; exact (below_size (by repeat (first | (with_reducible first | exact HB.out | apply bA | apply bN | apply bD) | exact HB.out))) : w.heap.size ≤ gb138)); clear HB; have HB := n0_; have BK138 := n1_; have GW138 := n2_; have GE138 := n3_; clear n0_ n1_ n2_ n3_; clear hb hbox hg; obtain ⟨hcz21_0, hcz21_1, hcz21_2, hcz21_3, hcz21_4, hfz21_0, hfz21_1, hfz21_2, hfz21_3, hfz21_4⟩ := five BK138.out) | ((with_reducible refine gate_callee (f := 43) rfl ?_); refine goesL_ (some 6) rfl rfl Tryz.func43 (by kernel_rfl) rfl #[.agg #[.int .i64 a0_0, .int .i64 a0_1, .string a0_2, .bool false, .int .i64 a0_4]] rfl (by (try simp only [List.map_toArray, List.map_cons, List.map_nil]); first | done | rfl) ?_; (with_reducible refine (value_wrong.calls (hL := ⟨by first | exact hL.out | (refine hL.out.drawn ?_; (repeat (first | exact Drawn0.refl _ | apply Drawn0.step)); done) | (refine hL.out.below ?_; (repeat (first | (with_reducible first | exact HB.out | apply bA | apply bN | apply bD | refine below_set ?_ GE138.out) | exact HB.out)); done)⟩) a0_0 a0_1 a0_2 false a0_4 t139 _ A2.out).mono ?_); rintro e w22 ⟨rfl, hb⟩; refine ⟨_, rfl, ?_⟩; have n0_ := Aside0.mk (blk_below (g := gb138) (o := .cells #[.int .i64 a0_0, .int .i64 a0_1, .string a0_2, .bool false, .int .i64 a0_4] 24 (0, 0)) (by (with_reducible repeat (first | refine blk_drewN ?_ _ | refine blk_drew ?_ | refine blk_alloc ?_ _)); exact BK138.out) hb); have n1_ := Aside0.mk (below_step (by repeat (first | (with_reducible first | exact HB.out | apply bA | apply bN | apply bD | refine below_set ?_ GE138.out) | exact HB.out)) hb); clear BK138; clear HB; have BK138 := n0_; have HB := n1_; clear n0_ n1_; (try clear hb); (try clear hb2); (try clear hk); (try clear hi); obtain ⟨hcz23_0, hcz23_1, hcz23_2, hcz23_3, hcz23_4, hfz23_0, hfz23_1, hfz23_2, hfz23_3, hfz23_4⟩ := five BK138.out))
     go_ret2
     exact ⟨by first | rfl | (simp; done) | (simp [*]; done) | (simp <;> rfl) | (simp [*] <;> rfl), by repeat (first | (with_reducible first | exact HB.out | apply bA | apply bN | apply bD | refine below_set ?_ GE138.out) | exact HB.out)⟩
   ·rw [if_neg c14] at H
    have c14b0 : (a0_0 == 3) = false := beq_eq_false_iff_ne.mpr c14
    have c14b1 : (a0_0 != 3) = true := bne_iff_ne.mpr c14
    simp only [Option.some.injEq, Prod.mk.injEq] at H
    obtain ⟨rfl, rfl⟩ := H
    go_enter Tryz.func19, Tryz.ntmps19
    go_wp2_with (first | ((with_reducible refine gate_dst (N := 1) rfl ?_); refine box_event ?hg (N := 1) ?hd (cs := #[.int .i64 a0_0, .int .i64 a0_1, .string a0_2, .bool a0_3, .int .i64 a0_4]) (t := 24) ?hr ?_; (case hd => rfl); (case hg => rfl); (case hr => first | (go_simp; done) | (go_simp; rfl)); intro gb138 hg w24 hbox hb; have n0_ := Aside0.mk (below_step (by repeat (first | (with_reducible first | exact HB.out | apply bA | apply bN | apply bD) | exact HB.out)) hb); have n1_ := Aside0.mk (hbox); have n2_ := Aside0.mk ((by rw [hg]; exact (below_size (by repeat (first | (with_reducible first | exact HB.out | apply bA | apply bN | apply bD) | exact HB.out))) : w.heap.size ≤ gb138)); have n3_ := Aside0.mk ((by rw [hg]; exact (below_size (by repeat (first | (with_reducible first | exact HB.out | apply bA | apply bN | apply bD) | exact HB.out))) : w.heap.size ≤ gb138)); clear HB; have HB := n0_; have BK138 := n1_; have GW138 := n2_; have GE138 := n3_; clear n0_ n1_ n2_ n3_; clear hb hbox hg; obtain ⟨hcz25_0, hcz25_1, hcz25_2, hcz25_3, hcz25_4, hfz25_0, hfz25_1, hfz25_2, hfz25_3, hfz25_4⟩ := five BK138.out) | ((with_reducible refine gate_callee (f := 43) rfl ?_); refine goesL_ (some 6) rfl rfl Tryz.func43 (by kernel_rfl) rfl #[.agg #[.int .i64 a0_0, .int .i64 a0_1, .string a0_2, .bool a0_3, .int .i64 a0_4]] rfl (by (try simp only [List.map_toArray, List.map_cons, List.map_nil]); first | done | rfl) ?_; (with_reducible refine (value_wrong.calls (hL := ⟨by first | exact hL.out | (refine hL.out.drawn ?_; (repeat (first | exact Drawn0.refl _ | apply Drawn0.step)); done) | (refine hL.out.below ?_; (repeat (first | (with_reducible first | exact HB.out | apply bA | apply bN | apply bD | refine below_set ?_ GE138.out) | exact HB.out)); done)⟩) a0_0 a0_1 a0_2 a0_3 a0_4 t139 _ A2.out).mono ?_); rintro e w26 ⟨rfl, hb⟩; refine ⟨_, rfl, ?_⟩; have n0_ := Aside0.mk (blk_below (g := gb138) (o := .cells #[.int .i64 a0_0, .int .i64 a0_1, .string a0_2, .bool a0_3, .int .i64 a0_4] 24 (0, 0)) (by (with_reducible repeat (first | refine blk_drewN ?_ _ | refine blk_drew ?_ | refine blk_alloc ?_ _)); exact BK138.out) hb); have n1_ := Aside0.mk (below_step (by repeat (first | (with_reducible first | exact HB.out | apply bA | apply bN | apply bD | refine below_set ?_ GE138.out) | exact HB.out)) hb); clear BK138; clear HB; have BK138 := n0_; have HB := n1_; clear n0_ n1_; (try clear hb); (try clear hb2); (try clear hk); (try clear hi); obtain ⟨hcz27_0, hcz27_1, hcz27_2, hcz27_3, hcz27_4, hfz27_0, hfz27_1, hfz27_2, hfz27_3, hfz27_4⟩ := five BK138.out))
    go_ret2
    exact ⟨by first | rfl | (simp; done) | (simp [*]; done) | (simp <;> rfl) | (simp [*] <;> rfl), by repeat (first | (with_reducible first | exact HB.out | apply bA | apply bN | apply bD | refine below_set ?_ GE138.out) | exact HB.out)⟩
def counterpaneref1_Boo.f (a0 : Bool) : Option (Int × Int × ByteArray × Bool × Int) := some (3, 0, (⟨#[]⟩ : ByteArray), a0, 0)
set_option maxHeartbeats 8000000 in
set_option maxRecDepth 100000 in
theorem counterpaneref1_Boo.calls (a0 : Bool) (r1 : Int) (r2 : Int) (r3 : ByteArray) (r4 : Bool) (r5 : Int) (w : World) (h : counterpaneref1_Boo.f a0 = some (r1, r2, r3, r4, r5)) :
  Calls Tryz.prog 30 #[.bool a0] w fun e w' => e = .returned (.agg #[.int .i64 r1, .int .i64 r2, .string r3, .bool r4, .int .i64 r5]) ∧ Below w.heap.size w w' := by
 have hu24 := Tryz.underlying24
 have HB := Aside0.mk (Below.refl w.heap.size w)
 have H : (some (3, 0, (⟨#[]⟩ : ByteArray), a0, 0)) = some (r1, r2, r3, r4, r5) := h
 clear h
 simp only [Option.some.injEq, Prod.mk.injEq] at H
 obtain ⟨rfl, rfl, rfl, rfl, rfl⟩ := H
 go_enter Tryz.func30, Tryz.ntmps30
 go_wp2_with (first | ((with_reducible refine gate_dst (N := 2) rfl ?_); refine box_event ?hg (N := 2) ?hd (cs := #[.int .i64 0, .int .i64 0, .string (⟨#[]⟩ : ByteArray), .bool false, .int .i64 0]) (t := 24) ?hr ?_; (case hd => rfl); (case hg => rfl); (case hr => first | (go_simp; done) | (go_simp; rfl)); intro gb141 hg w2 hbox hb; have n0_ := Aside0.mk (below_step (by repeat (first | (with_reducible first | exact HB.out | apply bA | apply bN | apply bD) | exact HB.out)) hb); have n1_ := Aside0.mk (hbox); have n2_ := Aside0.mk ((by rw [hg]; exact (below_size (by repeat (first | (with_reducible first | exact HB.out | apply bA | apply bN | apply bD) | exact HB.out))) : w.heap.size ≤ gb141)); have n3_ := Aside0.mk ((by rw [hg]; exact (below_size (by repeat (first | (with_reducible first | exact HB.out | apply bA | apply bN | apply bD) | exact HB.out))) : w.heap.size ≤ gb141)); clear HB; have HB := n0_; have BK141 := n1_; have GW141 := n2_; have GE141 := n3_; clear n0_ n1_ n2_ n3_; clear hb hbox hg; obtain ⟨hcz3_0, hcz3_1, hcz3_2, hcz3_3, hcz3_4, hfz3_0, hfz3_1, hfz3_2, hfz3_3, hfz3_4⟩ := five BK141.out))
 refine bodyPost_ret (results_cell_row rfl _ _ gb141 24 #[.int .i64 3, .int .i64 0, .string (⟨#[]⟩ : ByteArray), .bool a0, .int .i64 0] (0, 0) _ rfl (by (with_reducible repeat (first | refine blk_drewN ?_ _ | refine blk_drew ?_ | refine blk_alloc ?_ _)); refine blk_put (cs := #[.int .i64 3, .int .i64 0, .string (⟨#[]⟩ : ByteArray), .bool a0, .int .i64 0]) ?_ 4 _ rfl; (with_reducible repeat (first | refine blk_drewN ?_ _ | refine blk_drew ?_ | refine blk_alloc ?_ _)); refine blk_put (cs := #[.int .i64 3, .int .i64 0, .string (⟨#[]⟩ : ByteArray), .bool false, .int .i64 0]) ?_ 3 _ rfl; (with_reducible repeat (first | refine blk_drewN ?_ _ | refine blk_drew ?_ | refine blk_alloc ?_ _)); refine blk_put (cs := #[.int .i64 3, .int .i64 0, .string (⟨#[]⟩ : ByteArray), .bool false, .int .i64 0]) ?_ 2 _ rfl; (with_reducible repeat (first | refine blk_drewN ?_ _ | refine blk_drew ?_ | refine blk_alloc ?_ _)); refine blk_put (cs := #[.int .i64 3, .int .i64 0, .string (⟨#[]⟩ : ByteArray), .bool false, .int .i64 0]) ?_ 1 _ rfl; (with_reducible repeat (first | refine blk_drewN ?_ _ | refine blk_drew ?_ | refine blk_alloc ?_ _)); refine blk_put (cs := #[.int .i64 0, .int .i64 0, .string (⟨#[]⟩ : ByteArray), .bool false, .int .i64 0]) ?_ 0 _ rfl; (with_reducible repeat (first | refine blk_drewN ?_ _ | refine blk_drew ?_ | refine blk_alloc ?_ _)); exact BK141.out) Tryz.underlying24 rfl (by kernel_rfl)) rfl ?_
 exact ⟨by first | rfl | (simp; done) | (simp [*]; done) | (simp <;> rfl) | (simp [*] <;> rfl), by repeat (first | (with_reducible first | exact HB.out | apply bA | apply bN | apply bD | refine below_set ?_ GE141.out) | exact HB.out)⟩
def counterpaneref1_Txt.f (a0 : ByteArray) : Option (Int × Int × ByteArray × Bool × Int) := some (2, 0, a0, false, 0)
set_option maxHeartbeats 8000000 in
set_option maxRecDepth 100000 in
theorem counterpaneref1_Txt.calls (a0 : ByteArray) (r1 : Int) (r2 : Int) (r3 : ByteArray) (r4 : Bool) (r5 : Int) (w : World) (h : counterpaneref1_Txt.f a0 = some (r1, r2, r3, r4, r5)) :
  Calls Tryz.prog 33 #[.string a0] w fun e w' => e = .returned (.agg #[.int .i64 r1, .int .i64 r2, .string r3, .bool r4, .int .i64 r5]) ∧ Below w.heap.size w w' := by
 have hu24 := Tryz.underlying24
 have HB := Aside0.mk (Below.refl w.heap.size w)
 have H : (some (2, 0, a0, false, 0)) = some (r1, r2, r3, r4, r5) := h
 clear h
 simp only [Option.some.injEq, Prod.mk.injEq] at H
 obtain ⟨rfl, rfl, rfl, rfl, rfl⟩ := H
 go_enter Tryz.func33, Tryz.ntmps33
 go_wp2_with (first | ((with_reducible refine gate_dst (N := 2) rfl ?_); refine box_event ?hg (N := 2) ?hd (cs := #[.int .i64 0, .int .i64 0, .string (⟨#[]⟩ : ByteArray), .bool false, .int .i64 0]) (t := 24) ?hr ?_; (case hd => rfl); (case hg => rfl); (case hr => first | (go_simp; done) | (go_simp; rfl)); intro gb143 hg w2 hbox hb; have n0_ := Aside0.mk (below_step (by repeat (first | (with_reducible first | exact HB.out | apply bA | apply bN | apply bD) | exact HB.out)) hb); have n1_ := Aside0.mk (hbox); have n2_ := Aside0.mk ((by rw [hg]; exact (below_size (by repeat (first | (with_reducible first | exact HB.out | apply bA | apply bN | apply bD) | exact HB.out))) : w.heap.size ≤ gb143)); have n3_ := Aside0.mk ((by rw [hg]; exact (below_size (by repeat (first | (with_reducible first | exact HB.out | apply bA | apply bN | apply bD) | exact HB.out))) : w.heap.size ≤ gb143)); clear HB; have HB := n0_; have BK143 := n1_; have GW143 := n2_; have GE143 := n3_; clear n0_ n1_ n2_ n3_; clear hb hbox hg; obtain ⟨hcz3_0, hcz3_1, hcz3_2, hcz3_3, hcz3_4, hfz3_0, hfz3_1, hfz3_2, hfz3_3, hfz3_4⟩ := five BK143.out))
 refine bodyPost_ret (results_cell_row rfl _ _ gb143 24 #[.int .i64 2, .int .i64 0, .string a0, .bool false, .int .i64 0] (0, 0) _ rfl (by (with_reducible repeat (first | refine blk_drewN ?_ _ | refine blk_drew ?_ | refine blk_alloc ?_ _)); refine blk_put (cs := #[.int .i64 2, .int .i64 0, .string a0, .bool false, .int .i64 0]) ?_ 4 _ rfl; (with_reducible repeat (first | refine blk_drewN ?_ _ | refine blk_drew ?_ | refine blk_alloc ?_ _)); refine blk_put (cs := #[.int .i64 2, .int .i64 0, .string a0, .bool false, .int .i64 0]) ?_ 3 _ rfl; (with_reducible repeat (first | refine blk_drewN ?_ _ | refine blk_drew ?_ | refine blk_alloc ?_ _)); refine blk_put (cs := #[.int .i64 2, .int .i64 0, .string (⟨#[]⟩ : ByteArray), .bool false, .int .i64 0]) ?_ 2 _ rfl; (with_reducible repeat (first | refine blk_drewN ?_ _ | refine blk_drew ?_ | refine blk_alloc ?_ _)); refine blk_put (cs := #[.int .i64 2, .int .i64 0, .string (⟨#[]⟩ : ByteArray), .bool false, .int .i64 0]) ?_ 1 _ rfl; (with_reducible repeat (first | refine blk_drewN ?_ _ | refine blk_drew ?_ | refine blk_alloc ?_ _)); refine blk_put (cs := #[.int .i64 0, .int .i64 0, .string (⟨#[]⟩ : ByteArray), .bool false, .int .i64 0]) ?_ 0 _ rfl; (with_reducible repeat (first | refine blk_drewN ?_ _ | refine blk_drew ?_ | refine blk_alloc ?_ _)); exact BK143.out) Tryz.underlying24 rfl (by kernel_rfl)) rfl ?_
 exact ⟨by first | rfl | (simp; done) | (simp [*]; done) | (simp <;> rfl) | (simp [*] <;> rfl), by repeat (first | (with_reducible first | exact HB.out | apply bA | apply bN | apply bD | refine below_set ?_ GE143.out) | exact HB.out)⟩
def counterpaneref1_Num.f (a0 : Int) : Option (Int × Int × ByteArray × Bool × Int) := some (1, a0, (⟨#[]⟩ : ByteArray), false, 0)
set_option maxHeartbeats 8000000 in
set_option maxRecDepth 100000 in
theorem counterpaneref1_Num.calls (a0 : Int) (r1 : Int) (r2 : Int) (r3 : ByteArray) (r4 : Bool) (r5 : Int) (w : World) (h : counterpaneref1_Num.f a0 = some (r1, r2, r3, r4, r5)) :
  Calls Tryz.prog 34 #[.int .i64 a0] w fun e w' => e = .returned (.agg #[.int .i64 r1, .int .i64 r2, .string r3, .bool r4, .int .i64 r5]) ∧ Below w.heap.size w w' := by
 have hu24 := Tryz.underlying24
 have HB := Aside0.mk (Below.refl w.heap.size w)
 have H : (some (1, a0, (⟨#[]⟩ : ByteArray), false, 0)) = some (r1, r2, r3, r4, r5) := h
 clear h
 simp only [Option.some.injEq, Prod.mk.injEq] at H
 obtain ⟨rfl, rfl, rfl, rfl, rfl⟩ := H
 go_enter Tryz.func34, Tryz.ntmps34
 go_wp2_with (first | ((with_reducible refine gate_dst (N := 2) rfl ?_); refine box_event ?hg (N := 2) ?hd (cs := #[.int .i64 0, .int .i64 0, .string (⟨#[]⟩ : ByteArray), .bool false, .int .i64 0]) (t := 24) ?hr ?_; (case hd => rfl); (case hg => rfl); (case hr => first | (go_simp; done) | (go_simp; rfl)); intro gb144 hg w2 hbox hb; have n0_ := Aside0.mk (below_step (by repeat (first | (with_reducible first | exact HB.out | apply bA | apply bN | apply bD) | exact HB.out)) hb); have n1_ := Aside0.mk (hbox); have n2_ := Aside0.mk ((by rw [hg]; exact (below_size (by repeat (first | (with_reducible first | exact HB.out | apply bA | apply bN | apply bD) | exact HB.out))) : w.heap.size ≤ gb144)); have n3_ := Aside0.mk ((by rw [hg]; exact (below_size (by repeat (first | (with_reducible first | exact HB.out | apply bA | apply bN | apply bD) | exact HB.out))) : w.heap.size ≤ gb144)); clear HB; have HB := n0_; have BK144 := n1_; have GW144 := n2_; have GE144 := n3_; clear n0_ n1_ n2_ n3_; clear hb hbox hg; obtain ⟨hcz3_0, hcz3_1, hcz3_2, hcz3_3, hcz3_4, hfz3_0, hfz3_1, hfz3_2, hfz3_3, hfz3_4⟩ := five BK144.out))
 refine bodyPost_ret (results_cell_row rfl _ _ gb144 24 #[.int .i64 1, .int .i64 a0, .string (⟨#[]⟩ : ByteArray), .bool false, .int .i64 0] (0, 0) _ rfl (by (with_reducible repeat (first | refine blk_drewN ?_ _ | refine blk_drew ?_ | refine blk_alloc ?_ _)); refine blk_put (cs := #[.int .i64 1, .int .i64 a0, .string (⟨#[]⟩ : ByteArray), .bool false, .int .i64 0]) ?_ 4 _ rfl; (with_reducible repeat (first | refine blk_drewN ?_ _ | refine blk_drew ?_ | refine blk_alloc ?_ _)); refine blk_put (cs := #[.int .i64 1, .int .i64 a0, .string (⟨#[]⟩ : ByteArray), .bool false, .int .i64 0]) ?_ 3 _ rfl; (with_reducible repeat (first | refine blk_drewN ?_ _ | refine blk_drew ?_ | refine blk_alloc ?_ _)); refine blk_put (cs := #[.int .i64 1, .int .i64 a0, .string (⟨#[]⟩ : ByteArray), .bool false, .int .i64 0]) ?_ 2 _ rfl; (with_reducible repeat (first | refine blk_drewN ?_ _ | refine blk_drew ?_ | refine blk_alloc ?_ _)); refine blk_put (cs := #[.int .i64 1, .int .i64 0, .string (⟨#[]⟩ : ByteArray), .bool false, .int .i64 0]) ?_ 1 _ rfl; (with_reducible repeat (first | refine blk_drewN ?_ _ | refine blk_drew ?_ | refine blk_alloc ?_ _)); refine blk_put (cs := #[.int .i64 0, .int .i64 0, .string (⟨#[]⟩ : ByteArray), .bool false, .int .i64 0]) ?_ 0 _ rfl; (with_reducible repeat (first | refine blk_drewN ?_ _ | refine blk_drew ?_ | refine blk_alloc ?_ _)); exact BK144.out) Tryz.underlying24 rfl (by kernel_rfl)) rfl ?_
 exact ⟨by first | rfl | (simp; done) | (simp [*]; done) | (simp <;> rfl) | (simp [*] <;> rfl), by repeat (first | (with_reducible first | exact HB.out | apply bA | apply bN | apply bD | refine below_set ?_ GE144.out) | exact HB.out)⟩
end Go.Proofs.YtfnbflhoaemmeaaGreatDoor.EVal
end
