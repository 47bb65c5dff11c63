/- Part 2 of what the claim's proof stands on: contracts of the program's functions, by walks, and plain laws. -/
import Derived.Test.YtpabggjnkoehfaaDoorLb1
import Derived.ArgAppend
import Derived.Below
import Derived.BigQuiet
import Derived.Deep.AppendLies
import Derived.Deep.CutBlock
import Derived.Deep.DeepCutAuto
import Derived.Deep.Draws
import Derived.Deep.LoopGhost
import Derived.Deep.OwnRows
import Derived.Deep.QuietTactic
import Derived.Deep.RegionHeld3
import Derived.KernelRfl
import Derived.Laws.BitsLemmas
import Derived.Laws.BytesArg
import Derived.Laws.IdiomCopy
import Derived.Laws.MakeOwn
import Derived.Laws.OwnMore
import Derived.Laws.Rows
import Derived.Laws.Slices
import Derived.Lib.AppendStr
import Derived.Lib.ConvBytes
import Derived.Maps.AppendAt
import Derived.OrdersHeld
import Derived.OwnWalk
import Derived.RowKit
import Derived.RowKit3
import Derived.Tactics
import Derived.Test.YtpabggjnkoehfaaDoorProg
import Derived.WalkKit
import Derived.WideLaws
section
namespace Go.Proofs.YtpabggjnkoehfaaDoor.ERef
open Go.RowKit Go.Proofs.YtpabggjnkoehfaaDoor.Ext Go.Proofs.YtpabggjnkoehfaaDoorW.PrintWords Go.Proofs.YtpabggjnkoehfaaDoorW.PrintLast Go.Proofs.YtpabggjnkoehfaaDoorW.PrintMore
attribute [local go_sem] max2_int min2_int max_two min_two max_three min_three max_four min_four   
set_option linter.unusedVariables false
set_option linter.unusedSimpArgs false
mutual
def a1_Col.j0 : Nat → ByteArray → Bool → Option (Int × Bool)
  | 0, _, _ => none
  | k + 1, x0, x12 => if x12 = true then (some (0, false)) else (a1_Col.l0 k x0 0 (x0.size : Int) 0)
def a1_Col.l0 : Nat → ByteArray → Int → Int → Int → Option (Int × Bool)
  | 0, _, _, _, _ => none
  | k + 1, x0, x4, x14, x15 => if x15 < x14 then (if 0 ≤ x15 then (if x15 < (x0.size : Int) then (if (bt x0 x15) < 65 then (some (0, false)) else (if (bt x0 x15) > 90 then (some (0, false)) else (a1_Col.l0 k x0 (wrap64 ((wrap64 ((wrap64 (26 * x4)) + (((bt x0 x15) - 65) % 256))) + 1)) x14 (wrap64 (x15 + 1))))) else (none)) else (none)) else (if x4 > 2199023255552 then (some (0, false)) else (some (wrap64 (x4 - 1), true)))
end
def a1_Col.f (k : Nat) (a0 : ByteArray) : Option (Int × Bool) := if a0.toList = ([] : List UInt8) then (a1_Col.j0 k a0 true) else (a1_Col.j0 k a0 (decide ((a0.size : Int) > 9)))
set_option maxHeartbeats 8000000 in
set_option maxRecDepth 100000 in
theorem a1_Col.calls (k : Nat) (a0 : ByteArray) (r1 : Int) (r2 : Bool) (w : World) (h : a1_Col.f k a0 = some (r1, r2)) :
    Calls Tryd.prog 11 #[.string a0] w fun e w' => e = .returned (.tuple #[.int .i64 r1, .bool r2]) ∧ Drawn0 w w' := by
  have H : (if a0.toList = ([] : List UInt8) then (a1_Col.j0 k a0 true) else (a1_Col.j0 k a0 (decide ((a0.size : Int) > 9)))) = some (r1, r2) := h
  clear h
  have HC2 := Aside0.mk H
  clear H
  go_enter Tryd.func11, Tryd.ntmps11
  go_upto_region 1 with (fail)
  go_cut [12] (fun v12 wc => ∃ (kq : Nat) (x12_1 : Bool), v12 = .bool x12_1 ∧ Aside0 (a1_Col.j0 kq a0 x12_1 = some (r1, r2)) ∧ Aside0 (kq ≤ k) ∧ Drawn0 w wc)
  case first =>
    have H := HC2.out
    clear HC2
    by_cases c3 : a0.toList = ([] : List UInt8)
    · rw [if_pos c3] at H
      have c3b0 : (a0.toList == ([] : List UInt8)) = true := beq_iff_eq.mpr c3
      have c3b1 : (a0.toList != ([] : List UInt8)) = false := bne_eq_false_iff_eq.mpr c3
      try (have c3be : a0.toList.isEmpty = true := List.isEmpty_iff.mpr c3)
      try simp only [c3be, Bool.not_true, Bool.not_false]
      clear c3
      (first | rw [c3b0] | (simp only [i64_w, i32_w]; rw [c3b0]) | skip)
      have H' := Aside0.mk H
      clear H
      go_wp2
      go_meet
      case rel => exact ⟨_, (true), (by first | rfl | (simp; done) | (simp [*]; done)), H', ⟨by first | omega | exact Nat.le_refl _⟩, by repeat (first | exact Drawn0.refl _ | apply Drawn0.step)⟩
    · rw [if_neg c3] at H
      have c3b0 : (a0.toList == ([] : List UInt8)) = false := beq_eq_false_iff_ne.mpr c3
      have c3b1 : (a0.toList != ([] : List UInt8)) = true := bne_iff_ne.mpr c3
      try (have c3be : a0.toList.isEmpty = false := List.isEmpty_eq_false_iff.mpr c3)
      try simp only [c3be, Bool.not_true, Bool.not_false]
      (first | rw [c3b0] | (simp only [i64_w, i32_w]; rw [c3b0]) | skip)
      have H' := Aside0.mk H
      clear H
      go_wp2
      go_meet
      case rel => exact ⟨_, (decide ((a0.size : Int) > 9)), (by first | rfl | (simp; done) | (simp [*]; done)), H', ⟨by first | omega | exact Nat.le_refl _⟩, by repeat (first | exact Drawn0.refl _ | apply Drawn0.step)⟩
  case rest =>
    clear HC2
    try clear c1
    try clear p2
    try clear c3
    try clear c3b0
    try clear c3b1
    obtain ⟨kq, x12_1, rfl, HA, HJ1, ⟨mc1, rfl⟩⟩ := hcut
    cases kq with
    | zero => exact absurd HA.out (by simp [a1_Col.j0])
    | succ kj1 =>
      have H := HA.out
      clear HA
      simp only [a1_Col.j0] at H
      by_cases c4 : x12_1 = true
      · subst c4
        have H1 : (some (0, false)) = some (r1, r2) := by rw [if_pos rfl] at H; exact H
        clear H
        have H := H1
        clear H1
        simp only [Option.some.injEq, Prod.mk.injEq] at H
        obtain ⟨rfl, rfl⟩ := H
        go_wp2
        go_ret2
        exact ⟨by first | rfl | (simp; done) | (simp [*]; done), by repeat (first | exact Drawn0.refl _ | apply Drawn0.step)⟩
      · replace c4 := Bool.eq_false_iff.mpr c4
        subst c4
        have H1 : (a1_Col.l0 kj1 a0 0 (a0.size : Int) 0) = some (r1, r2) := by rw [if_neg (show ¬ (false = true) by decide)] at H; exact H
        clear H
        have H := H1
        clear H1
        have H' := Aside0.mk H
        clear H
        go_wp2
        go_loopg [4, 15] kj1 (fun kq v4 v15 w' => ∃ (x4_2 : Int) (x15_2 : Int), v4 = .int .i64 x4_2 ∧ v15 = .int .i64 x15_2 ∧ Aside0 (a1_Col.l0 kq a0 x4_2 (a0.size : Int) x15_2 = some (r1, r2)) ∧ Aside0 (kq ≤ kj1) ∧ Drawn0 w w')
        case atStart => exact ⟨(0), (0), (by first | rfl | (simp; done) | (simp [*]; done)), (by first | rfl | (simp; done) | (simp [*]; done)), H', ⟨Nat.le_refl _⟩, by repeat (first | exact Drawn0.refl _ | apply Drawn0.step)⟩
        case round =>
          clear H'
          try clear c1
          try clear p2
          try clear c3
          try clear c3b0
          try clear c3b1
          try clear c4
          try clear p2
          obtain ⟨x4_2, x15_2, rfl, rfl, HA, HK2, ⟨m2, rfl⟩⟩ := hrel
          cases gk with
          | zero => exact absurd HA.out (by simp [a1_Col.l0])
          | succ k2 =>
            have H := HA.out
            clear HA
            simp only [a1_Col.l0] at H
            by_cases c5 : x15_2 < (a0.size : Int)
            · rw [if_pos c5] at H
              have c5b0 : decide (x15_2 < (a0.size : Int)) = true := decide_eq_true c5
              clear c5
              by_cases c6 : 0 ≤ x15_2
              · rw [if_pos c6] at H
                have c6b0 : decide (0 ≤ x15_2) = true := decide_eq_true c6
                clear c6
                by_cases c7 : x15_2 < (a0.size : Int)
                · rw [if_pos c7] at H
                  have c7b0 : decide (x15_2 < (a0.size : Int)) = true := decide_eq_true c7
                  clear c7
                  by_cases c9 : (bt a0 x15_2) < 65
                  · rw [if_pos c9] at H
                    have c9b0 : decide ((bt a0 x15_2) < 65) = true := decide_eq_true c9
                    clear c9
                    simp only [Option.some.injEq, Prod.mk.injEq] at H
                    obtain ⟨rfl, rfl⟩ := H
                    have p8 : 0 ≤ (x15_2 : Int) := of_decide_eq_true (by first | (with_reducible assumption) | assumption)
                    have q8 : x15_2 < (a0.size : Int) := of_decide_eq_true (by first | (with_reducible assumption) | assumption)
                    have hx8 := bt_at a0 x15_2
                    replace p8 := eq_true p8
                    replace q8 := eq_true q8
                    try (have q8z := q8; simp only [ByteArray.size_extract, Nat.min_self] at q8z)
                    go_wp2
                    go_ret2
                    exact ⟨by first | rfl | (simp; done) | (simp [*]; done), by repeat (first | exact Drawn0.refl _ | apply Drawn0.step)⟩
                  · rw [if_neg c9] at H
                    have c9b0 : decide ((bt a0 x15_2) < 65) = false := decide_eq_false c9
                    clear c9
                    by_cases c11 : (bt a0 x15_2) > 90
                    · rw [if_pos c11] at H
                      have c11b0 : decide (90 < (bt a0 x15_2)) = true := decide_eq_true c11
                      clear c11
                      simp only [Option.some.injEq, Prod.mk.injEq] at H
                      obtain ⟨rfl, rfl⟩ := H
                      have p8 : 0 ≤ (x15_2 : Int) := of_decide_eq_true (by first | (with_reducible assumption) | assumption)
                      have q8 : x15_2 < (a0.size : Int) := of_decide_eq_true (by first | (with_reducible assumption) | assumption)
                      have hx8 := bt_at a0 x15_2
                      replace p8 := eq_true p8
                      replace q8 := eq_true q8
                      try (have q8z := q8; simp only [ByteArray.size_extract, Nat.min_self] at q8z)
                      have p10 : 0 ≤ (x15_2 : Int) := of_decide_eq_true (by first | (with_reducible assumption) | assumption)
                      have q10 : x15_2 < (a0.size : Int) := of_decide_eq_true (by first | (with_reducible assumption) | assumption)
                      have hx10 := bt_at a0 x15_2
                      replace p10 := eq_true p10
                      replace q10 := eq_true q10
                      try (have q10z := q10; simp only [ByteArray.size_extract, Nat.min_self] at q10z)
                      go_wp2
                      go_ret2
                      exact ⟨by first | rfl | (simp; done) | (simp [*]; done), by repeat (first | exact Drawn0.refl _ | apply Drawn0.step)⟩
                    · rw [if_neg c11] at H
                      have c11b0 : decide (90 < (bt a0 x15_2)) = false := decide_eq_false c11
                      clear c11
                      have H' := Aside0.mk H
                      clear H
                      have p8 : 0 ≤ (x15_2 : Int) := of_decide_eq_true (by first | (with_reducible assumption) | assumption)
                      have q8 : x15_2 < (a0.size : Int) := of_decide_eq_true (by first | (with_reducible assumption) | assumption)
                      have hx8 := bt_at a0 x15_2
                      replace p8 := eq_true p8
                      replace q8 := eq_true q8
                      try (have q8z := q8; simp only [ByteArray.size_extract, Nat.min_self] at q8z)
                      have p10 : 0 ≤ (x15_2 : Int) := of_decide_eq_true (by first | (with_reducible assumption) | assumption)
                      have q10 : x15_2 < (a0.size : Int) := of_decide_eq_true (by first | (with_reducible assumption) | assumption)
                      have hx10 := bt_at a0 x15_2
                      replace p10 := eq_true p10
                      replace q10 := eq_true q10
                      try (have q10z := q10; simp only [ByteArray.size_extract, Nat.min_self] at q10z)
                      have p12 : 0 ≤ (x15_2 : Int) := of_decide_eq_true (by first | (with_reducible assumption) | assumption)
                      have q12 : x15_2 < (a0.size : Int) := of_decide_eq_true (by first | (with_reducible assumption) | assumption)
                      have hx12 := bt_at a0 x15_2
                      replace p12 := eq_true p12
                      replace q12 := eq_true q12
                      try (have q12z := q12; simp only [ByteArray.size_extract, Nat.min_self] at q12z)
                      go_wp2
                      go_roundg k2
                      case measure => have := HJ1.out; have := HK2.out; omega
                      case rel => exact ⟨(wrap64 ((wrap64 ((wrap64 (26 * x4_2)) + (((bt a0 x15_2) - 65) % 256))) + 1)), (wrap64 (x15_2 + 1)), (by first | rfl | (simp; done) | (simp [*]; done)), (by first | rfl | (simp; done) | (simp [*]; done)), H', ⟨by have := HJ1.out; have := HK2.out; omega⟩, by repeat (first | exact Drawn0.refl _ | apply Drawn0.step)⟩
                · rw [if_neg c7] at H
                  exact absurd H (by simp)
              · rw [if_neg c6] at H
                exact absurd H (by simp)
            · rw [if_neg c5] at H
              have c5b0 : decide (x15_2 < (a0.size : Int)) = false := decide_eq_false c5
              clear c5
              by_cases c13 : x4_2 > 2199023255552
              · rw [if_pos c13] at H
                have c13b0 : decide (2199023255552 < x4_2) = true := decide_eq_true c13
                clear c13
                simp only [Option.some.injEq, Prod.mk.injEq] at H
                obtain ⟨rfl, rfl⟩ := H
                go_wp2
                go_ret2
                exact ⟨by first | rfl | (simp; done) | (simp [*]; done), by repeat (first | exact Drawn0.refl _ | apply Drawn0.step)⟩
              · rw [if_neg c13] at H
                have c13b0 : decide (2199023255552 < x4_2) = false := decide_eq_false c13
                clear c13
                simp only [Option.some.injEq, Prod.mk.injEq] at H
                obtain ⟨rfl, rfl⟩ := H
                go_wp2
                go_ret2
                exact ⟨by first | rfl | (simp; done) | (simp [*]; done), by repeat (first | exact Drawn0.refl _ | apply Drawn0.step)⟩
def stringslite_HasPrefix.f (a0 : ByteArray) (a1 : ByteArray) : Option (Bool) := if (a0.size : Int) ≥ (a1.size : Int) then (if 0 ≤ (a1.size : Int) then (if (a1.size : Int) ≤ (a0.size : Int) then (some ((a0.extract 0 ((a1.size : Int) : Int).toNat).toList == a1.toList)) else (none)) else (none)) else (some false)
set_option maxHeartbeats 8000000 in
set_option maxRecDepth 100000 in
theorem stringslite_HasPrefix.calls (a0 : ByteArray) (a1 : ByteArray) (r : Bool) (w : World) (h : stringslite_HasPrefix.f a0 a1 = some r) :
    Calls Tryd.prog 59 #[.string a0, .string a1] w fun e w' => e = .returned (.bool r) ∧ Drawn0 w w' := by
  have H : (if (a0.size : Int) ≥ (a1.size : Int) then (if 0 ≤ (a1.size : Int) then (if (a1.size : Int) ≤ (a0.size : Int) then (some ((a0.extract 0 ((a1.size : Int) : Int).toNat).toList == a1.toList)) else (none)) else (none)) else (some false)) = some r := h
  clear h
  by_cases c3 : (a0.size : Int) ≥ (a1.size : Int)
  · rw [if_pos c3] at H
    have c3b0 : decide ((a1.size : Int) ≤ (a0.size : Int)) = true := decide_eq_true c3
    have c3b1 : decide (a1.size ≤ a0.size) = true := decide_eq_true (Int.ofNat_le.mp c3)
    clear c3
    by_cases c4 : 0 ≤ (a1.size : Int)
    · rw [if_pos c4] at H
      have c4b0 := eq_true c4
      have c4b1 : decide (0 ≤ (a1.size : Int)) = true := decide_eq_true c4
      clear c4
      by_cases c5 : (a1.size : Int) ≤ (a0.size : Int)
      · rw [if_pos c5] at H
        have c5b0 := eq_true c5
        have c5b1 : decide ((a1.size : Int) ≤ (a0.size : Int)) = true := decide_eq_true c5
        clear c5
        obtain rfl := Option.some.inj H
        go_enter Tryd.func59, Tryd.ntmps59
        go_wp2
        go_ret
        exact ⟨by first | rfl | (simp; done) | (simp [*]; done), by repeat (first | exact Drawn0.refl _ | apply Drawn0.step)⟩
      · rw [if_neg c5] at H
        exact absurd H (by simp)
    · rw [if_neg c4] at H
      exact absurd H (by simp)
  · rw [if_neg c3] at H
    have c3b0 : decide ((a1.size : Int) ≤ (a0.size : Int)) = false := decide_eq_false c3
    have c3b1 : decide (a1.size ≤ a0.size) = false := decide_eq_false (fun h => c3 (Int.ofNat_le.mpr h))
    clear c3
    obtain rfl := Option.some.inj H
    go_enter Tryd.func59, Tryd.ntmps59
    go_wp2
    go_ret
    exact ⟨by first | rfl | (simp; done) | (simp [*]; done), by repeat (first | exact Drawn0.refl _ | apply Drawn0.step)⟩
def stringslite_CutPrefix.f (a0 : ByteArray) (a1 : ByteArray) : Option (ByteArray × Bool) := (stringslite_HasPrefix.f a0 a1).bind fun t101 => (if t101 = true then (if 0 ≤ (a1.size : Int) then (if (a1.size : Int) ≤ (a0.size : Int) then (some (a0.extract ((a1.size : Int) : Int).toNat a0.size, true)) else (none)) else (none)) else (some (a0, false)))
set_option maxHeartbeats 8000000 in
set_option maxRecDepth 100000 in
theorem stringslite_CutPrefix.calls (a0 : ByteArray) (a1 : ByteArray) (r1 : ByteArray) (r2 : Bool) (w : World) (h : stringslite_CutPrefix.f a0 a1 = some (r1, r2)) :
    Calls Tryd.prog 47 #[.string a0, .string a1] w fun e w' => e = .returned (.tuple #[.string r1, .bool r2]) ∧ Drawn0 w w' := by
  have H : ((stringslite_HasPrefix.f a0 a1).bind fun t101 => (if t101 = true then (if 0 ≤ (a1.size : Int) then (if (a1.size : Int) ≤ (a0.size : Int) then (some (a0.extract ((a1.size : Int) : Int).toNat a0.size, true)) else (none)) else (none)) else (some (a0, false)))) = some (r1, r2) := h
  clear h
  replace H := Option.bind_eq_some_iff.mp H
  obtain ⟨t101, A30, H⟩ := H
  replace H : (if t101 = true then (if 0 ≤ (a1.size : Int) then (if (a1.size : Int) ≤ (a0.size : Int) then (some (a0.extract ((a1.size : Int) : Int).toNat a0.size, true)) else (none)) else (none)) else (some (a0, false))) = some (r1, r2) := H
  have A3 := Aside0.mk A30
  clear A30
  by_cases c4 : t101 = true
  · subst c4
    have H1 : (if 0 ≤ (a1.size : Int) then (if (a1.size : Int) ≤ (a0.size : Int) then (some (a0.extract ((a1.size : Int) : Int).toNat a0.size, true)) else (none)) else (none)) = some (r1, r2) := by rw [if_pos rfl] at H; exact H
    clear H
    have H := H1
    clear H1
    by_cases c5 : 0 ≤ (a1.size : Int)
    · rw [if_pos c5] at H
      have c5b0 := eq_true c5
      have c5b1 : decide (0 ≤ (a1.size : Int)) = true := decide_eq_true c5
      clear c5
      by_cases c6 : (a1.size : Int) ≤ (a0.size : Int)
      · rw [if_pos c6] at H
        have c6b0 := eq_true c6
        have c6b1 : decide ((a1.size : Int) ≤ (a0.size : Int)) = true := decide_eq_true c6
        clear c6
        simp only [Option.some.injEq, Prod.mk.injEq] at H
        obtain ⟨rfl, rfl⟩ := H
        go_enter Tryd.func47, Tryd.ntmps47
        go_wp2_with (first | ((with_reducible refine gate_callee (f := 59) rfl ?_); refine goesL_ (some 8) rfl rfl Tryd.func59 (by kernel_rfl) rfl #[.string a0, .string a1] rfl (by (try simp only [List.map_toArray, List.map_cons, List.map_nil]); first | done | rfl | (simp only [List.length_drop, List.length_take]; rfl)) ?_; (with_reducible refine (stringslite_HasPrefix.calls a0 a1 true _ A3.out).mono ?_); rintro e w' ⟨rfl, ⟨nd, rfl⟩⟩; refine ⟨_, rfl, ?_⟩))
        go_ret2
        exact ⟨by first | rfl | (simp; done) | (simp [*]; done), by repeat (first | exact Drawn0.refl _ | apply Drawn0.step)⟩
      · rw [if_neg c6] at H
        exact absurd H (by simp)
    · rw [if_neg c5] at H
      exact absurd H (by simp)
  · replace c4 := Bool.eq_false_iff.mpr c4
    subst c4
    have H1 : (some (a0, false)) = some (r1, r2) := by rw [if_neg (show ¬ (false = true) by decide)] at H; exact H
    clear H
    have H := H1
    clear H1
    simp only [Option.some.injEq, Prod.mk.injEq] at H
    obtain ⟨rfl, rfl⟩ := H
    go_enter Tryd.func47, Tryd.ntmps47
    go_wp2_with (first | ((with_reducible refine gate_callee (f := 59) rfl ?_); refine goesL_ (some 8) rfl rfl Tryd.func59 (by kernel_rfl) rfl #[.string a0, .string a1] rfl (by (try simp only [List.map_toArray, List.map_cons, List.map_nil]); first | done | rfl | (simp only [List.length_drop, List.length_take]; rfl)) ?_; (with_reducible refine (stringslite_HasPrefix.calls a0 a1 false _ A3.out).mono ?_); rintro e w' ⟨rfl, ⟨nd, rfl⟩⟩; refine ⟨_, rfl, ?_⟩))
    go_ret2
    exact ⟨by first | rfl | (simp; done) | (simp [*]; done), by repeat (first | exact Drawn0.refl _ | apply Drawn0.step)⟩
def strings_CutPrefix.f (a0 : ByteArray) (a1 : ByteArray) : Option (ByteArray × Bool) := (stringslite_CutPrefix.f a0 a1).bind fun bt102 => (some (bt102.1, bt102.2))
set_option maxHeartbeats 8000000 in
set_option maxRecDepth 100000 in
theorem strings_CutPrefix.calls (a0 : ByteArray) (a1 : ByteArray) (r1 : ByteArray) (r2 : Bool) (w : World) (h : strings_CutPrefix.f a0 a1 = some (r1, r2)) :
    Calls Tryd.prog 35 #[.string a0, .string a1] w fun e w' => e = .returned (.tuple #[.string r1, .bool r2]) ∧ Drawn0 w w' := by
  have H : ((stringslite_CutPrefix.f a0 a1).bind fun bt102 => (some (bt102.1, bt102.2))) = some (r1, r2) := h
  clear h
  replace H := Option.bind_eq_some_iff.mp H
  obtain ⟨⟨t102, t103⟩, A30, H⟩ := H
  replace H : (some (t102, t103)) = some (r1, r2) := H
  have A3 := Aside0.mk A30
  clear A30
  simp only [Option.some.injEq, Prod.mk.injEq] at H
  obtain ⟨rfl, rfl⟩ := H
  go_enter Tryd.func35, Tryd.ntmps35
  go_wp2_with (first | ((with_reducible refine gate_callee (f := 47) rfl ?_); refine goesL_ (some 8) rfl rfl Tryd.func47 (by kernel_rfl) rfl #[.string a0, .string a1] rfl (by (try simp only [List.map_toArray, List.map_cons, List.map_nil]); first | done | rfl | (simp only [List.length_drop, List.length_take]; rfl)) ?_; (with_reducible refine (stringslite_CutPrefix.calls a0 a1 t102 t103 _ A3.out).mono ?_); rintro e w' ⟨rfl, ⟨nd, rfl⟩⟩; refine ⟨_, rfl, ?_⟩))
  go_ret2
  exact ⟨by first | rfl | (simp; done) | (simp [*]; done), by repeat (first | exact Drawn0.refl _ | apply Drawn0.step)⟩
def a1_parts.f (a0 : ByteArray) : Option (Int × Int) := (strings_Cut.f a0 (⟨#[110]⟩ : ByteArray)).bind fun bt104 => ((strings_CutPrefix.f bt104.1 (⟨#[99]⟩ : ByteArray)).bind fun bt107 => ((a1_number.f bt107.1 15).bind fun t109 => ((a1_number.f bt104.2.1 999999).bind fun t110 => (if bt104.2.2 = true then (if bt107.2 = true then (if t109 < 0 then (some ((-1), (-1))) else (if t110 < 0 then (some ((-1), (-1))) else (some (t109, t110)))) else (some ((-1), (-1)))) else (some ((-1), (-1)))))))
set_option maxHeartbeats 8000000 in
set_option maxRecDepth 100000 in
theorem a1_parts.calls (a0 : ByteArray) (r1 : Int) (r2 : Int) (w : World) (hL : Aside0 (Lq w)) (h : a1_parts.f a0 = some (r1, r2)) :
    Calls Tryd.prog 29 #[.string a0] w fun e w' => e = .returned (.tuple #[.int .i64 r1, .int .i64 r2]) ∧ Below w.heap.size w w' := by
  have HB := Aside0.mk (Below.refl w.heap.size w)
  have H : ((strings_Cut.f a0 (⟨#[110]⟩ : ByteArray)).bind fun bt104 => ((strings_CutPrefix.f bt104.1 (⟨#[99]⟩ : ByteArray)).bind fun bt107 => ((a1_number.f bt107.1 15).bind fun t109 => ((a1_number.f bt104.2.1 999999).bind fun t110 => (if bt104.2.2 = true then (if bt107.2 = true then (if t109 < 0 then (some ((-1), (-1))) else (if t110 < 0 then (some ((-1), (-1))) else (some (t109, t110)))) else (some ((-1), (-1)))) else (some ((-1), (-1)))))))) = some (r1, r2) := h
  clear h
  replace H := Option.bind_eq_some_iff.mp H
  obtain ⟨⟨t104, t105, t106⟩, A20, H⟩ := H
  replace H : ((strings_CutPrefix.f t104 (⟨#[99]⟩ : ByteArray)).bind fun bt107 => ((a1_number.f bt107.1 15).bind fun t109 => ((a1_number.f t105 999999).bind fun t110 => (if t106 = true then (if bt107.2 = true then (if t109 < 0 then (some ((-1), (-1))) else (if t110 < 0 then (some ((-1), (-1))) else (some (t109, t110)))) else (some ((-1), (-1)))) else (some ((-1), (-1))))))) = some (r1, r2) := H
  have A2 := Aside0.mk A20
  clear A20
  replace H := Option.bind_eq_some_iff.mp H
  obtain ⟨⟨t107, t108⟩, A30, H⟩ := H
  replace H : ((a1_number.f t107 15).bind fun t109 => ((a1_number.f t105 999999).bind fun t110 => (if t106 = true then (if t108 = true then (if t109 < 0 then (some ((-1), (-1))) else (if t110 < 0 then (some ((-1), (-1))) else (some (t109, t110)))) else (some ((-1), (-1)))) else (some ((-1), (-1)))))) = some (r1, r2) := H
  have A3 := Aside0.mk A30
  clear A30
  replace H := Option.bind_eq_some_iff.mp H
  obtain ⟨t109, A40, H⟩ := H
  replace H : ((a1_number.f t105 999999).bind fun t110 => (if t106 = true then (if t108 = true then (if t109 < 0 then (some ((-1), (-1))) else (if t110 < 0 then (some ((-1), (-1))) else (some (t109, t110)))) else (some ((-1), (-1)))) else (some ((-1), (-1))))) = some (r1, r2) := H
  have A4 := Aside0.mk A40
  clear A40
  replace H := Option.bind_eq_some_iff.mp H
  obtain ⟨t110, A50, H⟩ := H
  replace H : (if t106 = true then (if t108 = true then (if t109 < 0 then (some ((-1), (-1))) else (if t110 < 0 then (some ((-1), (-1))) else (some (t109, t110)))) else (some ((-1), (-1)))) else (some ((-1), (-1)))) = some (r1, r2) := H
  have A5 := Aside0.mk A50
  clear A50
  by_cases c6 : t106 = true
  · subst c6
    have H1 : (if t108 = true then (if t109 < 0 then (some ((-1), (-1))) else (if t110 < 0 then (some ((-1), (-1))) else (some (t109, t110)))) else (some ((-1), (-1)))) = some (r1, r2) := by rw [if_pos rfl] at H; exact H
    clear H
    have H := H1
    clear H1
    by_cases c7 : t108 = true
    · subst c7
      have H1 : (if t109 < 0 then (some ((-1), (-1))) else (if t110 < 0 then (some ((-1), (-1))) else (some (t109, t110)))) = some (r1, r2) := by rw [if_pos rfl] at H; exact H
      clear H
      have H := H1
      clear H1
      by_cases c8 : t109 < 0
      · rw [if_pos c8] at H
        have c8b0 : decide (t109 < 0) = true := decide_eq_true c8
        clear c8
        simp only [Option.some.injEq, Prod.mk.injEq] at H
        obtain ⟨rfl, rfl⟩ := H
        go_enter Tryd.func29, Tryd.ntmps29
        go_wp2_with (first | ((with_reducible refine gate_callee (f := 25) rfl ?_); refine goesL_ (some 12) rfl rfl Tryd.func25 (by kernel_rfl) rfl #[.string a0, .string (⟨#[110]⟩ : ByteArray)] rfl (by (try simp only [List.map_toArray, List.map_cons, List.map_nil]); first | done | rfl | (simp only [List.length_drop, List.length_take]; rfl)) ?_; (with_reducible refine (strings_Cut.calls (hL := ⟨by first | exact hL.out | (refine hL.out.drawn ?_; (repeat (first | exact Drawn0.refl _ | apply Drawn0.step)); done) | (refine hL.out.below ?_; (repeat (first | (with_reducible first | exact HB.out | apply below_alloc | apply pw_below_drewN | apply below_drew1) | exact HB.out)); done)⟩) a0 (⟨#[110]⟩ : ByteArray) t104 t105 true _ A2.out).mono ?_); rintro e w' ⟨rfl, ⟨nd, rfl⟩⟩; refine ⟨_, rfl, ?_⟩) | ((with_reducible refine gate_callee (f := 35) rfl ?_); refine goesL_ (some 18) rfl rfl Tryd.func35 (by kernel_rfl) rfl #[.string t104, .string (⟨#[99]⟩ : ByteArray)] rfl (by (try simp only [List.map_toArray, List.map_cons, List.map_nil]); first | done | rfl | (simp only [List.length_drop, List.length_take]; rfl)) ?_; (with_reducible refine (strings_CutPrefix.calls t104 (⟨#[99]⟩ : ByteArray) t107 true _ A3.out).mono ?_); rintro e w' ⟨rfl, ⟨nd, rfl⟩⟩; refine ⟨_, rfl, ?_⟩) | ((with_reducible refine gate_callee (f := 27) rfl ?_); refine goesL_ (some 22) rfl rfl Tryd.func27 (by kernel_rfl) rfl #[.string t107, .int .i64 15] rfl (by (try simp only [List.map_toArray, List.map_cons, List.map_nil]); first | done | rfl | (simp only [List.length_drop, List.length_take]; rfl)) ?_; (with_reducible refine (a1_number.calls (hL := ⟨by first | exact hL.out | (refine hL.out.drawn ?_; (repeat (first | exact Drawn0.refl _ | apply Drawn0.step)); done) | (refine hL.out.below ?_; (repeat (first | (with_reducible first | exact HB.out | apply below_alloc | apply pw_below_drewN | apply below_drew1) | exact HB.out)); done)⟩) t107 15 t109 _ A4.out).mono ?_); rintro e w9 ⟨rfl, hb⟩; refine ⟨_, rfl, ?_⟩; have n0_ := Aside0.mk (below_step (by repeat (first | (with_reducible first | exact HB.out | apply below_alloc | apply pw_below_drewN | apply below_drew1) | exact HB.out)) hb); clear HB; have HB := n0_; clear n0_; (try clear hb); (try clear hb2); (try clear hk); (try clear hi)) | ((with_reducible refine gate_callee (f := 27) rfl ?_); refine goesL_ (some 24) rfl rfl Tryd.func27 (by kernel_rfl) rfl #[.string t105, .int .i64 999999] rfl (by (try simp only [List.map_toArray, List.map_cons, List.map_nil]); first | done | rfl | (simp only [List.length_drop, List.length_take]; rfl)) ?_; (with_reducible refine (a1_number.calls (hL := ⟨by first | exact hL.out | (refine hL.out.drawn ?_; (repeat (first | exact Drawn0.refl _ | apply Drawn0.step)); done) | (refine hL.out.below ?_; (repeat (first | (with_reducible first | exact HB.out | apply below_alloc | apply pw_below_drewN | apply below_drew1) | exact HB.out)); done)⟩) t105 999999 t110 _ A5.out).mono ?_); rintro e w10 ⟨rfl, hb⟩; refine ⟨_, rfl, ?_⟩; have n0_ := Aside0.mk (below_step (by repeat (first | (with_reducible first | exact HB.out | apply below_alloc | apply pw_below_drewN | apply below_drew1) | exact HB.out)) hb); clear HB; have HB := n0_; clear n0_; (try clear hb); (try clear hb2); (try clear hk); (try clear hi)))
        go_ret2
        exact ⟨by first | rfl | (simp [errW_none, errW_some] <;> rfl) | (simp [*, errW_none, errW_some] <;> rfl), by repeat (first | (with_reducible first | exact HB.out | apply below_alloc | apply pw_below_drewN | apply below_drew1) | exact HB.out)⟩
      · rw [if_neg c8] at H
        have c8b0 : decide (t109 < 0) = false := decide_eq_false c8
        clear c8
        by_cases c11 : t110 < 0
        · rw [if_pos c11] at H
          have c11b0 : decide (t110 < 0) = true := decide_eq_true c11
          clear c11
          simp only [Option.some.injEq, Prod.mk.injEq] at H
          obtain ⟨rfl, rfl⟩ := H
          go_enter Tryd.func29, Tryd.ntmps29
          go_wp2_with (first | ((with_reducible refine gate_callee (f := 25) rfl ?_); refine goesL_ (some 12) rfl rfl Tryd.func25 (by kernel_rfl) rfl #[.string a0, .string (⟨#[110]⟩ : ByteArray)] rfl (by (try simp only [List.map_toArray, List.map_cons, List.map_nil]); first | done | rfl | (simp only [List.length_drop, List.length_take]; rfl)) ?_; (with_reducible refine (strings_Cut.calls (hL := ⟨by first | exact hL.out | (refine hL.out.drawn ?_; (repeat (first | exact Drawn0.refl _ | apply Drawn0.step)); done) | (refine hL.out.below ?_; (repeat (first | (with_reducible first | exact HB.out | apply below_alloc | apply pw_below_drewN | apply below_drew1) | exact HB.out)); done)⟩) a0 (⟨#[110]⟩ : ByteArray) t104 t105 true _ A2.out).mono ?_); rintro e w' ⟨rfl, ⟨nd, rfl⟩⟩; refine ⟨_, rfl, ?_⟩) | ((with_reducible refine gate_callee (f := 35) rfl ?_); refine goesL_ (some 18) rfl rfl Tryd.func35 (by kernel_rfl) rfl #[.string t104, .string (⟨#[99]⟩ : ByteArray)] rfl (by (try simp only [List.map_toArray, List.map_cons, List.map_nil]); first | done | rfl | (simp only [List.length_drop, List.length_take]; rfl)) ?_; (with_reducible refine (strings_CutPrefix.calls t104 (⟨#[99]⟩ : ByteArray) t107 true _ A3.out).mono ?_); rintro e w' ⟨rfl, ⟨nd, rfl⟩⟩; refine ⟨_, rfl, ?_⟩) | ((with_reducible refine gate_callee (f := 27) rfl ?_); refine goesL_ (some 22) rfl rfl Tryd.func27 (by kernel_rfl) rfl #[.string t107, .int .i64 15] rfl (by (try simp only [List.map_toArray, List.map_cons, List.map_nil]); first | done | rfl | (simp only [List.length_drop, List.length_take]; rfl)) ?_; (with_reducible refine (a1_number.calls (hL := ⟨by first | exact hL.out | (refine hL.out.drawn ?_; (repeat (first | exact Drawn0.refl _ | apply Drawn0.step)); done) | (refine hL.out.below ?_; (repeat (first | (with_reducible first | exact HB.out | apply below_alloc | apply pw_below_drewN | apply below_drew1) | exact HB.out)); done)⟩) t107 15 t109 _ A4.out).mono ?_); rintro e w12 ⟨rfl, hb⟩; refine ⟨_, rfl, ?_⟩; have n0_ := Aside0.mk (below_step (by repeat (first | (with_reducible first | exact HB.out | apply below_alloc | apply pw_below_drewN | apply below_drew1) | exact HB.out)) hb); clear HB; have HB := n0_; clear n0_; (try clear hb); (try clear hb2); (try clear hk); (try clear hi)) | ((with_reducible refine gate_callee (f := 27) rfl ?_); refine goesL_ (some 24) rfl rfl Tryd.func27 (by kernel_rfl) rfl #[.string t105, .int .i64 999999] rfl (by (try simp only [List.map_toArray, List.map_cons, List.map_nil]); first | done | rfl | (simp only [List.length_drop, List.length_take]; rfl)) ?_; (with_reducible refine (a1_number.calls (hL := ⟨by first | exact hL.out | (refine hL.out.drawn ?_; (repeat (first | exact Drawn0.refl _ | apply Drawn0.step)); done) | (refine hL.out.below ?_; (repeat (first | (with_reducible first | exact HB.out | apply below_alloc | apply pw_below_drewN | apply below_drew1) | exact HB.out)); done)⟩) t105 999999 t110 _ A5.out).mono ?_); rintro e w13 ⟨rfl, hb⟩; refine ⟨_, rfl, ?_⟩; have n0_ := Aside0.mk (below_step (by repeat (first | (with_reducible first | exact HB.out | apply below_alloc | apply pw_below_drewN | apply below_drew1) | exact HB.out)) hb); clear HB; have HB := n0_; clear n0_; (try clear hb); (try clear hb2); (try clear hk); (try clear hi)))
          go_ret2
          exact ⟨by first | rfl | (simp [errW_none, errW_some] <;> rfl) | (simp [*, errW_none, errW_some] <;> rfl), by repeat (first | (with_reducible first | exact HB.out | apply below_alloc | apply pw_below_drewN | apply below_drew1) | exact HB.out)⟩
        · rw [if_neg c11] at H
          have c11b0 : decide (t110 < 0) = false := decide_eq_false c11
          clear c11
          simp only [Option.some.injEq, Prod.mk.injEq] at H
          obtain ⟨rfl, rfl⟩ := H
          go_enter Tryd.func29, Tryd.ntmps29
          go_wp2_with (first | ((with_reducible refine gate_callee (f := 25) rfl ?_); refine goesL_ (some 12) rfl rfl Tryd.func25 (by kernel_rfl) rfl #[.string a0, .string (⟨#[110]⟩ : ByteArray)] rfl (by (try simp only [List.map_toArray, List.map_cons, List.map_nil]); first | done | rfl | (simp only [List.length_drop, List.length_take]; rfl)) ?_; (with_reducible refine (strings_Cut.calls (hL := ⟨by first | exact hL.out | (refine hL.out.drawn ?_; (repeat (first | exact Drawn0.refl _ | apply Drawn0.step)); done) | (refine hL.out.below ?_; (repeat (first | (with_reducible first | exact HB.out | apply below_alloc | apply pw_below_drewN | apply below_drew1) | exact HB.out)); done)⟩) a0 (⟨#[110]⟩ : ByteArray) t104 t105 true _ A2.out).mono ?_); rintro e w' ⟨rfl, ⟨nd, rfl⟩⟩; refine ⟨_, rfl, ?_⟩) | ((with_reducible refine gate_callee (f := 35) rfl ?_); refine goesL_ (some 18) rfl rfl Tryd.func35 (by kernel_rfl) rfl #[.string t104, .string (⟨#[99]⟩ : ByteArray)] rfl (by (try simp only [List.map_toArray, List.map_cons, List.map_nil]); first | done | rfl | (simp only [List.length_drop, List.length_take]; rfl)) ?_; (with_reducible refine (strings_CutPrefix.calls t104 (⟨#[99]⟩ : ByteArray) t107 true _ A3.out).mono ?_); rintro e w' ⟨rfl, ⟨nd, rfl⟩⟩; refine ⟨_, rfl, ?_⟩) | ((with_reducible refine gate_callee (f := 27) rfl ?_); refine goesL_ (some 22) rfl rfl Tryd.func27 (by kernel_rfl) rfl #[.string t107, .int .i64 15] rfl (by (try simp only [List.map_toArray, List.map_cons, List.map_nil]); first | done | rfl | (simp only [List.length_drop, List.length_take]; rfl)) ?_; (with_reducible refine (a1_number.calls (hL := ⟨by first | exact hL.out | (refine hL.out.drawn ?_; (repeat (first | exact Drawn0.refl _ | apply Drawn0.step)); done) | (refine hL.out.below ?_; (repeat (first | (with_reducible first | exact HB.out | apply below_alloc | apply pw_below_drewN | apply below_drew1) | exact HB.out)); done)⟩) t107 15 t109 _ A4.out).mono ?_); rintro e w14 ⟨rfl, hb⟩; refine ⟨_, rfl, ?_⟩; have n0_ := Aside0.mk (below_step (by repeat (first | (with_reducible first | exact HB.out | apply below_alloc | apply pw_below_drewN | apply below_drew1) | exact HB.out)) hb); clear HB; have HB := n0_; clear n0_; (try clear hb); (try clear hb2); (try clear hk); (try clear hi)) | ((with_reducible refine gate_callee (f := 27) rfl ?_); refine goesL_ (some 24) rfl rfl Tryd.func27 (by kernel_rfl) rfl #[.string t105, .int .i64 999999] rfl (by (try simp only [List.map_toArray, List.map_cons, List.map_nil]); first | done | rfl | (simp only [List.length_drop, List.length_take]; rfl)) ?_; (with_reducible refine (a1_number.calls (hL := ⟨by first | exact hL.out | (refine hL.out.drawn ?_; (repeat (first | exact Drawn0.refl _ | apply Drawn0.step)); done) | (refine hL.out.below ?_; (repeat (first | (with_reducible first | exact HB.out | apply below_alloc | apply pw_below_drewN | apply below_drew1) | exact HB.out)); done)⟩) t105 999999 t110 _ A5.out).mono ?_); rintro e w15 ⟨rfl, hb⟩; refine ⟨_, rfl, ?_⟩; have n0_ := Aside0.mk (below_step (by repeat (first | (with_reducible first | exact HB.out | apply below_alloc | apply pw_below_drewN | apply below_drew1) | exact HB.out)) hb); clear HB; have HB := n0_; clear n0_; (try clear hb); (try clear hb2); (try clear hk); (try clear hi)))
          go_ret2
          exact ⟨by first | rfl | (simp [errW_none, errW_some] <;> rfl) | (simp [*, errW_none, errW_some] <;> rfl), by repeat (first | (with_reducible first | exact HB.out | apply below_alloc | apply pw_below_drewN | apply below_drew1) | exact HB.out)⟩
    · replace c7 := Bool.eq_false_iff.mpr c7
      subst c7
      have H1 : (some ((-1), (-1))) = some (r1, r2) := by rw [if_neg (show ¬ (false = true) by decide)] at H; exact H
      clear H
      have H := H1
      clear H1
      simp only [Option.some.injEq, Prod.mk.injEq] at H
      obtain ⟨rfl, rfl⟩ := H
      go_enter Tryd.func29, Tryd.ntmps29
      go_wp2_with (first | ((with_reducible refine gate_callee (f := 25) rfl ?_); refine goesL_ (some 12) rfl rfl Tryd.func25 (by kernel_rfl) rfl #[.string a0, .string (⟨#[110]⟩ : ByteArray)] rfl (by (try simp only [List.map_toArray, List.map_cons, List.map_nil]); first | done | rfl | (simp only [List.length_drop, List.length_take]; rfl)) ?_; (with_reducible refine (strings_Cut.calls (hL := ⟨by first | exact hL.out | (refine hL.out.drawn ?_; (repeat (first | exact Drawn0.refl _ | apply Drawn0.step)); done) | (refine hL.out.below ?_; (repeat (first | (with_reducible first | exact HB.out | apply below_alloc | apply pw_below_drewN | apply below_drew1) | exact HB.out)); done)⟩) a0 (⟨#[110]⟩ : ByteArray) t104 t105 true _ A2.out).mono ?_); rintro e w' ⟨rfl, ⟨nd, rfl⟩⟩; refine ⟨_, rfl, ?_⟩) | ((with_reducible refine gate_callee (f := 35) rfl ?_); refine goesL_ (some 18) rfl rfl Tryd.func35 (by kernel_rfl) rfl #[.string t104, .string (⟨#[99]⟩ : ByteArray)] rfl (by (try simp only [List.map_toArray, List.map_cons, List.map_nil]); first | done | rfl | (simp only [List.length_drop, List.length_take]; rfl)) ?_; (with_reducible refine (strings_CutPrefix.calls t104 (⟨#[99]⟩ : ByteArray) t107 false _ A3.out).mono ?_); rintro e w' ⟨rfl, ⟨nd, rfl⟩⟩; refine ⟨_, rfl, ?_⟩) | ((with_reducible refine gate_callee (f := 27) rfl ?_); refine goesL_ (some 22) rfl rfl Tryd.func27 (by kernel_rfl) rfl #[.string t107, .int .i64 15] rfl (by (try simp only [List.map_toArray, List.map_cons, List.map_nil]); first | done | rfl | (simp only [List.length_drop, List.length_take]; rfl)) ?_; (with_reducible refine (a1_number.calls (hL := ⟨by first | exact hL.out | (refine hL.out.drawn ?_; (repeat (first | exact Drawn0.refl _ | apply Drawn0.step)); done) | (refine hL.out.below ?_; (repeat (first | (with_reducible first | exact HB.out | apply below_alloc | apply pw_below_drewN | apply below_drew1) | exact HB.out)); done)⟩) t107 15 t109 _ A4.out).mono ?_); rintro e w16 ⟨rfl, hb⟩; refine ⟨_, rfl, ?_⟩; have n0_ := Aside0.mk (below_step (by repeat (first | (with_reducible first | exact HB.out | apply below_alloc | apply pw_below_drewN | apply below_drew1) | exact HB.out)) hb); clear HB; have HB := n0_; clear n0_; (try clear hb); (try clear hb2); (try clear hk); (try clear hi)) | ((with_reducible refine gate_callee (f := 27) rfl ?_); refine goesL_ (some 24) rfl rfl Tryd.func27 (by kernel_rfl) rfl #[.string t105, .int .i64 999999] rfl (by (try simp only [List.map_toArray, List.map_cons, List.map_nil]); first | done | rfl | (simp only [List.length_drop, List.length_take]; rfl)) ?_; (with_reducible refine (a1_number.calls (hL := ⟨by first | exact hL.out | (refine hL.out.drawn ?_; (repeat (first | exact Drawn0.refl _ | apply Drawn0.step)); done) | (refine hL.out.below ?_; (repeat (first | (with_reducible first | exact HB.out | apply below_alloc | apply pw_below_drewN | apply below_drew1) | exact HB.out)); done)⟩) t105 999999 t110 _ A5.out).mono ?_); rintro e w17 ⟨rfl, hb⟩; refine ⟨_, rfl, ?_⟩; have n0_ := Aside0.mk (below_step (by repeat (first | (with_reducible first | exact HB.out | apply below_alloc | apply pw_below_drewN | apply below_drew1) | exact HB.out)) hb); clear HB; have HB := n0_; clear n0_; (try clear hb); (try clear hb2); (try clear hk); (try clear hi)))
      go_ret2
      exact ⟨by first | rfl | (simp [errW_none, errW_some] <;> rfl) | (simp [*, errW_none, errW_some] <;> rfl), by repeat (first | (with_reducible first | exact HB.out | apply below_alloc | apply pw_below_drewN | apply below_drew1) | exact HB.out)⟩
  · replace c6 := Bool.eq_false_iff.mpr c6
    subst c6
    have H1 : (some ((-1), (-1))) = some (r1, r2) := by rw [if_neg (show ¬ (false = true) by decide)] at H; exact H
    clear H
    have H := H1
    clear H1
    simp only [Option.some.injEq, Prod.mk.injEq] at H
    obtain ⟨rfl, rfl⟩ := H
    go_enter Tryd.func29, Tryd.ntmps29
    go_wp2_with (first | ((with_reducible refine gate_callee (f := 25) rfl ?_); refine goesL_ (some 12) rfl rfl Tryd.func25 (by kernel_rfl) rfl #[.string a0, .string (⟨#[110]⟩ : ByteArray)] rfl (by (try simp only [List.map_toArray, List.map_cons, List.map_nil]); first | done | rfl | (simp only [List.length_drop, List.length_take]; rfl)) ?_; (with_reducible refine (strings_Cut.calls (hL := ⟨by first | exact hL.out | (refine hL.out.drawn ?_; (repeat (first | exact Drawn0.refl _ | apply Drawn0.step)); done) | (refine hL.out.below ?_; (repeat (first | (with_reducible first | exact HB.out | apply below_alloc | apply pw_below_drewN | apply below_drew1) | exact HB.out)); done)⟩) a0 (⟨#[110]⟩ : ByteArray) t104 t105 false _ A2.out).mono ?_); rintro e w' ⟨rfl, ⟨nd, rfl⟩⟩; refine ⟨_, rfl, ?_⟩) | ((with_reducible refine gate_callee (f := 35) rfl ?_); refine goesL_ (some 18) rfl rfl Tryd.func35 (by kernel_rfl) rfl #[.string t104, .string (⟨#[99]⟩ : ByteArray)] rfl (by (try simp only [List.map_toArray, List.map_cons, List.map_nil]); first | done | rfl | (simp only [List.length_drop, List.length_take]; rfl)) ?_; (with_reducible refine (strings_CutPrefix.calls t104 (⟨#[99]⟩ : ByteArray) t107 t108 _ A3.out).mono ?_); rintro e w' ⟨rfl, ⟨nd, rfl⟩⟩; refine ⟨_, rfl, ?_⟩) | ((with_reducible refine gate_callee (f := 27) rfl ?_); refine goesL_ (some 22) rfl rfl Tryd.func27 (by kernel_rfl) rfl #[.string t107, .int .i64 15] rfl (by (try simp only [List.map_toArray, List.map_cons, List.map_nil]); first | done | rfl | (simp only [List.length_drop, List.length_take]; rfl)) ?_; (with_reducible refine (a1_number.calls (hL := ⟨by first | exact hL.out | (refine hL.out.drawn ?_; (repeat (first | exact Drawn0.refl _ | apply Drawn0.step)); done) | (refine hL.out.below ?_; (repeat (first | (with_reducible first | exact HB.out | apply below_alloc | apply pw_below_drewN | apply below_drew1) | exact HB.out)); done)⟩) t107 15 t109 _ A4.out).mono ?_); rintro e w18 ⟨rfl, hb⟩; refine ⟨_, rfl, ?_⟩; have n0_ := Aside0.mk (below_step (by repeat (first | (with_reducible first | exact HB.out | apply below_alloc | apply pw_below_drewN | apply below_drew1) | exact HB.out)) hb); clear HB; have HB := n0_; clear n0_; (try clear hb); (try clear hb2); (try clear hk); (try clear hi)) | ((with_reducible refine gate_callee (f := 27) rfl ?_); refine goesL_ (some 24) rfl rfl Tryd.func27 (by kernel_rfl) rfl #[.string t105, .int .i64 999999] rfl (by (try simp only [List.map_toArray, List.map_cons, List.map_nil]); first | done | rfl | (simp only [List.length_drop, List.length_take]; rfl)) ?_; (with_reducible refine (a1_number.calls (hL := ⟨by first | exact hL.out | (refine hL.out.drawn ?_; (repeat (first | exact Drawn0.refl _ | apply Drawn0.step)); done) | (refine hL.out.below ?_; (repeat (first | (with_reducible first | exact HB.out | apply below_alloc | apply pw_below_drewN | apply below_drew1) | exact HB.out)); done)⟩) t105 999999 t110 _ A5.out).mono ?_); rintro e w19 ⟨rfl, hb⟩; refine ⟨_, rfl, ?_⟩; have n0_ := Aside0.mk (below_step (by repeat (first | (with_reducible first | exact HB.out | apply below_alloc | apply pw_below_drewN | apply below_drew1) | exact HB.out)) hb); clear HB; have HB := n0_; clear n0_; (try clear hb); (try clear hb2); (try clear hk); (try clear hi)))
    go_ret2
    exact ⟨by first | rfl | (simp [errW_none, errW_some] <;> rfl) | (simp [*, errW_none, errW_some] <;> rfl), by repeat (first | (with_reducible first | exact HB.out | apply below_alloc | apply pw_below_drewN | apply below_drew1) | exact HB.out)⟩
def a1_Owner.f (a0 : ByteArray) : Option (Int) := (a1_parts.f a0).bind fun bt111 => (some bt111.1)
set_option maxHeartbeats 8000000 in
set_option maxRecDepth 100000 in
theorem a1_Owner.calls (a0 : ByteArray) (r : Int) (w : World) (hL : Aside0 (Lq w)) (h : a1_Owner.f a0 = some r) :
    Calls Tryd.prog 16 #[.string a0] w fun e w' => e = .returned (.int .i64 r) ∧ Below w.heap.size w w' := by
  have HB := Aside0.mk (Below.refl w.heap.size w)
  have H : ((a1_parts.f a0).bind fun bt111 => (some bt111.1)) = some r := h
  clear h
  replace H := Option.bind_eq_some_iff.mp H
  obtain ⟨⟨t111, t112⟩, A20, H⟩ := H
  replace H : (some t111) = some r := H
  have A2 := Aside0.mk A20
  clear A20
  obtain rfl := Option.some.inj H
  go_enter Tryd.func16, Tryd.ntmps16
  go_wp2_with (first | ((with_reducible refine gate_callee (f := 29) rfl ?_); refine goesL_ (some 7) rfl rfl Tryd.func29 (by kernel_rfl) rfl #[.string a0] rfl (by (try simp only [List.map_toArray, List.map_cons, List.map_nil]); first | done | rfl | (simp only [List.length_drop, List.length_take]; rfl)) ?_; (with_reducible refine (a1_parts.calls (hL := ⟨by first | exact hL.out | (refine hL.out.drawn ?_; (repeat (first | exact Drawn0.refl _ | apply Drawn0.step)); done) | (refine hL.out.below ?_; (repeat (first | (with_reducible first | exact HB.out | apply below_alloc | apply pw_below_drewN | apply below_drew1) | exact HB.out)); done)⟩) a0 t111 t112 _ A2.out).mono ?_); rintro e w3 ⟨rfl, hb⟩; refine ⟨_, rfl, ?_⟩; have n0_ := Aside0.mk (below_step (by repeat (first | (with_reducible first | exact HB.out | apply below_alloc | apply pw_below_drewN | apply below_drew1) | exact HB.out)) hb); clear HB; have HB := n0_; clear n0_; (try clear hb); (try clear hb2); (try clear hk); (try clear hi)))
  go_ret
  exact ⟨by first | rfl | (simp [errW_none, errW_some] <;> rfl) | (simp [*, errW_none, errW_some] <;> rfl), by repeat (first | (with_reducible first | exact HB.out | apply below_alloc | apply pw_below_drewN | apply below_drew1) | exact HB.out)⟩
def a1_Id.f (a0 : ByteArray) : Option (Bool) := (a1_Owner.f a0).bind fun t113 => (some (decide (t113 ≥ 0)))
set_option maxHeartbeats 8000000 in
set_option maxRecDepth 100000 in
theorem a1_Id.calls (a0 : ByteArray) (r : Bool) (w : World) (hL : Aside0 (Lq w)) (h : a1_Id.f a0 = some r) :
    Calls Tryd.prog 14 #[.string a0] w fun e w' => e = .returned (.bool r) ∧ Below w.heap.size w w' := by
  have HB := Aside0.mk (Below.refl w.heap.size w)
  have H : ((a1_Owner.f a0).bind fun t113 => (some (decide (t113 ≥ 0)))) = some r := h
  clear h
  replace H := Option.bind_eq_some_iff.mp H
  obtain ⟨t113, A20, H⟩ := H
  replace H : (some (decide (t113 ≥ 0))) = some r := H
  have A2 := Aside0.mk A20
  clear A20
  obtain rfl := Option.some.inj H
  go_enter Tryd.func14, Tryd.ntmps14
  go_wp2_with (first | ((with_reducible refine gate_callee (f := 16) rfl ?_); refine goesL_ (some 4) rfl rfl Tryd.func16 (by kernel_rfl) rfl #[.string a0] rfl (by (try simp only [List.map_toArray, List.map_cons, List.map_nil]); first | done | rfl | (simp only [List.length_drop, List.length_take]; rfl)) ?_; (with_reducible refine (a1_Owner.calls (hL := ⟨by first | exact hL.out | (refine hL.out.drawn ?_; (repeat (first | exact Drawn0.refl _ | apply Drawn0.step)); done) | (refine hL.out.below ?_; (repeat (first | (with_reducible first | exact HB.out | apply below_alloc | apply pw_below_drewN | apply below_drew1) | exact HB.out)); done)⟩) a0 t113 _ A2.out).mono ?_); rintro e w3 ⟨rfl, hb⟩; refine ⟨_, rfl, ?_⟩; have n0_ := Aside0.mk (below_step (by repeat (first | (with_reducible first | exact HB.out | apply below_alloc | apply pw_below_drewN | apply below_drew1) | exact HB.out)) hb); clear HB; have HB := n0_; clear n0_; (try clear hb); (try clear hb2); (try clear hk); (try clear hi)))
  go_ret
  exact ⟨by first | rfl | (simp [errW_none, errW_some] <;> rfl) | (simp [*, errW_none, errW_some] <;> rfl), by repeat (first | (with_reducible first | exact HB.out | apply below_alloc | apply pw_below_drewN | apply below_drew1) | exact HB.out)⟩
def a1_mark.f (a0 : ByteArray) : Option (ByteArray × Bool) := (strings_CutPrefix.f a0 (⟨#[36]⟩ : ByteArray)).bind fun bt114 => (some (bt114.1, bt114.2))
set_option maxHeartbeats 8000000 in
set_option maxRecDepth 100000 in
theorem a1_mark.calls (a0 : ByteArray) (r1 : ByteArray) (r2 : Bool) (w : World) (h : a1_mark.f a0 = some (r1, r2)) :
    Calls Tryd.prog 26 #[.string a0] w fun e w' => e = .returned (.tuple #[.string r1, .bool r2]) ∧ Drawn0 w w' := by
  have H : ((strings_CutPrefix.f a0 (⟨#[36]⟩ : ByteArray)).bind fun bt114 => (some (bt114.1, bt114.2))) = some (r1, r2) := h
  clear h
  replace H := Option.bind_eq_some_iff.mp H
  obtain ⟨⟨t114, t115⟩, A20, H⟩ := H
  replace H : (some (t114, t115)) = some (r1, r2) := H
  have A2 := Aside0.mk A20
  clear A20
  simp only [Option.some.injEq, Prod.mk.injEq] at H
  obtain ⟨rfl, rfl⟩ := H
  go_enter Tryd.func26, Tryd.ntmps26
  go_wp2_with (first | ((with_reducible refine gate_callee (f := 35) rfl ?_); refine goesL_ (some 5) rfl rfl Tryd.func35 (by kernel_rfl) rfl #[.string a0, .string (⟨#[36]⟩ : ByteArray)] rfl (by (try simp only [List.map_toArray, List.map_cons, List.map_nil]); first | done | rfl | (simp only [List.length_drop, List.length_take]; rfl)) ?_; (with_reducible refine (strings_CutPrefix.calls a0 (⟨#[36]⟩ : ByteArray) t114 t115 _ A2.out).mono ?_); rintro e w' ⟨rfl, ⟨nd, rfl⟩⟩; refine ⟨_, rfl, ?_⟩))
  go_ret2
  exact ⟨by first | rfl | (simp; done) | (simp [*]; done), by repeat (first | exact Drawn0.refl _ | apply Drawn0.step)⟩
end Go.Proofs.YtpabggjnkoehfaaDoor.ERef
end
section
namespace Go.Proofs.YtpabggjnkoehfaaDoor.ERef
open Go.RowKit Go.Proofs.YtpabggjnkoehfaaDoor.Ext Go.Proofs.YtpabggjnkoehfaaDoorW.PrintWords Go.Proofs.YtpabggjnkoehfaaDoorW.PrintLast Go.Proofs.YtpabggjnkoehfaaDoorW.PrintMore
attribute [local go_sem] max2_int min2_int max_two min_two max_three min_three max_four min_four   
set_option linter.unusedVariables false
set_option linter.unusedSimpArgs false
def counterpanelaw5_Short.f (a0 : ByteArray) (a1 : Int) : Option (ByteArray) := if (a0.size : Int) > a1 then (if 0 ≤ a1 then (if a1 ≤ (a0.size : Int) then (some (a0.extract 0 (a1 : Int).toNat)) else (none)) else (none)) else (some a0)
set_option maxHeartbeats 8000000 in
set_option maxRecDepth 100000 in
theorem counterpanelaw5_Short.calls (a0 : ByteArray) (a1 : Int) (r : ByteArray) (w : World) (h : counterpanelaw5_Short.f a0 a1 = some r) :
    Calls Tryd.prog 8 #[.string a0, .int .i64 a1] w fun e w' => e = .returned (.string r) ∧ Drawn0 w w' := by
  have H : (if (a0.size : Int) > a1 then (if 0 ≤ a1 then (if a1 ≤ (a0.size : Int) then (some (a0.extract 0 (a1 : Int).toNat)) else (none)) else (none)) else (some a0)) = some r := h
  clear h
  by_cases c3 : (a0.size : Int) > a1
  · rw [if_pos c3] at H
    have c3b0 : decide (a1 < (a0.size : Int)) = true := decide_eq_true c3
    clear c3
    by_cases c4 : 0 ≤ a1
    · rw [if_pos c4] at H
      have c4b0 := eq_true c4
      have c4b1 : decide (0 ≤ a1) = true := decide_eq_true c4
      clear c4
      by_cases c5 : a1 ≤ (a0.size : Int)
      · rw [if_pos c5] at H
        have c5b0 := eq_true c5
        have c5b1 : decide (a1 ≤ (a0.size : Int)) = true := decide_eq_true c5
        clear c5
        obtain rfl := Option.some.inj H
        go_enter Tryd.func8, Tryd.ntmps8
        go_wp2
        go_ret
        exact ⟨by first | rfl | (simp; done) | (simp [*]; done), by repeat (first | exact Drawn0.refl _ | apply Drawn0.step)⟩
      · rw [if_neg c5] at H
        exact absurd H (by simp)
    · rw [if_neg c4] at H
      exact absurd H (by simp)
  · rw [if_neg c3] at H
    have c3b0 : decide (a1 < (a0.size : Int)) = false := decide_eq_false c3
    clear c3
    obtain rfl := Option.some.inj H
    go_enter Tryd.func8, Tryd.ntmps8
    go_wp2
    go_ret
    exact ⟨by first | rfl | (simp; done) | (simp [*]; done), by repeat (first | exact Drawn0.refl _ | apply Drawn0.step)⟩
end Go.Proofs.YtpabggjnkoehfaaDoor.ERef
end
section
namespace Go.Proofs.YtpabggjnkoehfaaDoor.ERef
open Go.RowKit Go.Lib Go.Proofs.YtpabggjnkoehfaaDoorW.PrintWords Go.Proofs.YtpabggjnkoehfaaDoorW.PrintLast Go.Proofs.YtpabggjnkoehfaaDoor.Ext Go.Proofs.YtpabggjnkoehfaaDoor.A1
theorem wr (x : Int) (h : -9223372036854775808 ≤ x) (h' : x ≤ 9223372036854775807) : wrap64 x = x := by unfold wrap64; omega
def by_ (s : ByteArray) : List UInt8 := s.data.toList
theorem by_len (s : ByteArray) : (by_ s).length = s.size := (Lib.size_eq s).symm
theorem bt_by (s : ByteArray) (j : Nat) (h : j < (by_ s).length) : bt s (j : Int) = (((by_ s)[j]).toNat : Int) := by
  have h' : j < s.size := by rw [← by_len]; exact h
  unfold bt
  rw [dif_pos (by simpa using h')]
  rfl
theorem by_take (s : ByteArray) (j : Nat) : by_ (s.extract 0 j) = (by_ s).take j := by
  unfold by_; rw [Lib.extract_data]; simp
theorem by_drop (s : ByteArray) (j : Nat) : by_ (s.extract j s.size) = (by_ s).drop j := Lib.extract_to_end s j
theorem by_mk (l : List UInt8) : by_ ⟨l.toArray⟩ = l := rfl
theorem by_inj {s t : ByteArray} (h : by_ s = by_ t) : s = t := by
  apply ByteArray.ext
  unfold by_ at h
  exact Array.toList_inj.1 h
def colGo : Nat → List UInt8 → Option Nat
  | a, [] => some a
  | a, c :: r => if 65 ≤ c.toNat ∧ c.toNat ≤ 90 then colGo (26 * a + (c.toNat - 65) + 1) r else none
def colEnd : Option Nat → Int × Bool
  | none => (0, false)
  | some n => if (n : Int) > 2199023255552 then (0, false) else ((n : Int) - 1, true)
def colS (l : List UInt8) : Int × Bool := if l.length < 1 ∨ 9 < l.length then (0, false) else colEnd (colGo 0 l)
theorem pow27 (j : Nat) (h : j ≤ 9) : 27 ^ j ≤ 7625597484987 := by
  have : 27 ^ j ≤ 27 ^ 9 := Nat.pow_le_pow_right (by omega) h
  have e : 27 ^ 9 = 7625597484987 := by decide
  omega
theorem col_l (x : ByteArray) (hx : x.size ≤ 9) (d : Nat) : ∀ (k j a : Nat), j + d = x.size → d + 1 ≤ k → a < 27 ^ j →
    a1_Col.l0 k x (a : Int) (x.size : Int) j = some (colEnd (colGo a ((by_ x).drop j))) := by
  have hl := by_len x
  induction d with
  | zero =>
    intro k j a hj hk ha
    obtain ⟨k, rfl⟩ : ∃ m, k = m + 1 := ⟨k - 1, by omega⟩
    have hp := pow27 j (by omega)
    rw [a1_Col.l0, if_neg (by omega), List.drop_eq_nil_of_le (by omega)]
    show _ = some (if (a : Int) > 2199023255552 then (0, false) else ((a : Int) - 1, true))
    by_cases h : (a : Int) > 2199023255552
    · rw [if_pos h, if_pos h]
    · rw [if_neg h, if_neg h, wr _ (by omega) (by omega)]
  | succ d ih =>
    intro k j a hj hk ha
    obtain ⟨k, rfl⟩ : ∃ m, k = m + 1 := ⟨k - 1, by omega⟩
    have hp := pow27 j (by omega)
    have hlt : j < (by_ x).length := by omega
    rw [a1_Col.l0, if_pos (by omega), if_pos (by omega), if_pos (by omega), bt_by x j hlt, List.drop_eq_getElem_cons hlt]
    generalize (by_ x)[j] = c
    have hc := c.toNat_lt
    show _ = some (colEnd (if 65 ≤ c.toNat ∧ c.toNat ≤ 90 then colGo (26 * a + (c.toNat - 65) + 1) ((by_ x).drop (j + 1)) else none))
    by_cases h1 : (c.toNat : Int) < 65
    · rw [if_pos h1, if_neg (by omega)]; rfl
    · rw [if_neg h1]
      by_cases h2 : (c.toNat : Int) > 90
      · rw [if_pos h2, if_neg (by omega)]; rfl
      · rw [if_neg h2, if_pos (by omega)]
        have hpow : 27 ^ (j + 1) = 27 ^ j * 27 := Nat.pow_succ ..
        have e := ih k (j + 1) (26 * a + (c.toNat - 65) + 1) (by omega) (by omega) (by omega)
        rw [← e, wr (26 * (a : Int)) (by omega) (by omega), wr (j + 1) (by omega) (by omega), wr (26 * (a : Int) + _) (by omega) (by omega), wr _ (by omega) (by omega)]
        congr 1
        omega
theorem col_f (k : Nat) (hk : 12 ≤ k) (x : ByteArray) : a1_Col.f k x = some (colS (by_ x)) := by
  obtain ⟨k, rfl⟩ : ∃ m, k = m + 2 := ⟨k - 2, by omega⟩
  have hl := by_len x
  unfold a1_Col.f colS
  have J : a1_Col.j0 (k + 2) x true = some (0, false) := by rw [a1_Col.j0, if_pos rfl]
  by_cases h0 : x.toList = ([] : List UInt8)
  · rw [if_pos h0, J]
    rw [ByteArray.toList_eq] at h0
    have : (by_ x).length = 0 := by unfold by_; rw [h0]; rfl
    rw [if_pos (by omega)]
  · rw [if_neg h0]
    have hne : (by_ x).length ≠ 0 := by
      intro h
      refine h0 ?_
      rw [ByteArray.toList_eq]; exact List.eq_nil_of_length_eq_zero h
    by_cases h1 : (x.size : Int) > 9
    · rw [decide_eq_true h1, J, if_pos (by omega)]
    · rw [decide_eq_false h1, if_neg (by omega), a1_Col.j0, if_neg (by simp)]
      have e := col_l x (by omega) x.size (k + 1) 0 0 (by omega) (by omega) (by decide)
      rw [List.drop_zero] at e
      exact e
theorem number_f (x : ByteArray) (most : Int) (hx : x.size ≤ 1000) (hm : most < 1000000000000000) : a1_number.f x most = some (numS (by_ x) most) := by
  unfold a1_number.f
  rw [if_pos (by omega)]
  congr 1
  exact number_eq (by_ x) most hm
end Go.Proofs.YtpabggjnkoehfaaDoor.ERef
end
section
namespace Go.Proofs.YtpabggjnkoehfaaDoor.ERef
open Go.RowKit Go.Lib Go.Proofs.YtpabggjnkoehfaaDoorW.PrintWords Go.Proofs.YtpabggjnkoehfaaDoorW.PrintLast Go.Proofs.YtpabggjnkoehfaaDoor.Ext Go.Proofs.YtpabggjnkoehfaaDoor.A1
def cutAt (c : UInt8) : List UInt8 → Option (List UInt8 × List UInt8)
  | [] => none
  | x :: r => if x = c then some ([], r) else match cutAt c r with | none => none | some p => some (x :: p.1, p.2)
def dropHead (c : UInt8) : List UInt8 → Option (List UInt8)
  | [] => none
  | x :: r => if x = c then some r else none
theorem dropHead_len (c : UInt8) (l r : List UInt8) (h : dropHead c l = some r) : l = c :: r := by
  cases l with
  | nil => cases h
  | cons a s =>
    by_cases e : a = c
    · have : dropHead c (a :: s) = some s := if_pos e
      rw [this] at h
      injection h with h
      rw [e, h]
    · have : dropHead c (a :: s) = none := if_neg e
      rw [this] at h
      cases h
theorem index_cut (c : UInt8) (l : List UInt8) : (cutAt c l = none ∧ Lib.index l [c] = -1) ∨ ∃ p, cutAt c l = some p ∧ Lib.index l [c] = p.1.length ∧ l = p.1 ++ c :: p.2 := by
  induction l with
  | nil => left; exact ⟨rfl, rfl⟩
  | cons x r ih =>
    have hp : [c].isPrefixOf (x :: r) = (c == x) := by simp [List.isPrefixOf]
    unfold cutAt Lib.index
    rw [hp]
    by_cases h : x = c
    · right
      subst h
      exact ⟨([], r), by rw [if_pos rfl], by simp, rfl⟩
    · have hcx : (c == x) = false := by rw [beq_eq_false_iff_ne]; exact fun e => h e.symm
      rw [if_neg h, hcx, if_neg (by simp)]
      rcases ih with ⟨h1, h2⟩ | ⟨p, h1, h2, h3⟩
      · left
        rw [h1, h2]
        exact ⟨rfl, rfl⟩
      · right
        rw [h1, h2]
        refine ⟨(x :: p.1, p.2), rfl, ?_, by rw [List.cons_append, ← h3]⟩
        rw [if_neg (by simp)]
        simp
theorem cut_eq (c : UInt8) (l : List UInt8) : Lib.cut l [c] = match cutAt c l with | none => (l, [], false) | some p => (p.1, p.2, true) := by
  unfold Lib.cut
  rcases index_cut c l with ⟨h1, h2⟩ | ⟨p, h1, h2, h3⟩
  · rw [h1, h2, if_neg (by omega)]
  · rw [h1, h2, if_pos (by omega), Int.toNat_natCast]
    show (List.take p.1.length l, List.drop (p.1.length + 1) l, true) = (p.1, p.2, true)
    rw [h3]
    simp
theorem cut_f (x : ByteArray) (c : UInt8) (hx : x.size ≤ 1000) : strings_Cut.f x ⟨#[c]⟩ = some (match cutAt c (by_ x) with | none => (x, ⟨#[]⟩, false) | some p => (⟨p.1.toArray⟩, ⟨p.2.toArray⟩, true)) := by
  unfold strings_Cut.f
  rw [if_pos (by omega)]
  have e : Lib.cut x.data.toList (⟨#[c]⟩ : ByteArray).data.toList = _ := cut_eq c (by_ x)
  rw [e]
  cases cutAt c (by_ x) with
  | none => congr 1
  | some p => rfl
theorem cutPrefix_f (x : ByteArray) (c : UInt8) : strings_CutPrefix.f x ⟨#[c]⟩ = some (match dropHead c (by_ x) with | none => (x, false) | some r => (⟨r.toArray⟩, true)) := by
  have hl := by_len x
  unfold strings_CutPrefix.f stringslite_CutPrefix.f stringslite_HasPrefix.f
  have h1 : ((⟨#[c]⟩ : ByteArray).size : Int) = 1 := rfl
  rw [h1]
  by_cases h : (x.size : Int) ≥ 1
  · rw [if_pos h, if_pos (by omega), if_pos h, Option.bind_some]
    have ht : (x.extract 0 (1 : Int).toNat).toList = (by_ x).take 1 := by
      rw [ByteArray.toList_eq]; exact by_take x 1
    have hs : (⟨#[c]⟩ : ByteArray).toList = [c] := by rw [ByteArray.toList_eq]
    rw [ht, hs]
    have hd := by_drop x 1
    cases e : by_ x with
    | nil => rw [e] at hl; simp at hl; omega
    | cons a r =>
      rw [e] at hd
      by_cases hc : a = c
      · subst hc
        have e9 : dropHead a (a :: r) = some r := if_pos rfl
        rw [e9]
        have : (List.take 1 (a :: r) == [a]) = true := by simp
        rw [this, if_pos rfl, if_pos (by omega), if_pos h, Option.bind_some]
        congr 1
        have : x.extract (1 : Int).toNat x.size = ⟨r.toArray⟩ := by_inj hd
        rw [this]
      · have e9 : dropHead c (a :: r) = none := if_neg hc
        rw [e9]
        have : (List.take 1 (a :: r) == [c]) = false := by simp [hc]
        rw [this, if_neg (by simp), Option.bind_some]
  · rw [if_neg h, Option.bind_some, if_neg (by simp), Option.bind_some]
    have : by_ x = [] := List.eq_nil_of_length_eq_zero (by omega)
    rw [this]; rfl
def ownerS (l : List UInt8) : Int :=
  match cutAt 110 l with
  | none => -1
  | some p => match dropHead 99 p.1 with
    | none => -1
    | some c => if 0 ≤ numS c 15 ∧ 0 ≤ numS p.2 999999 then numS c 15 else -1
theorem cutAt_len (c : UInt8) (l : List UInt8) (p : List UInt8 × List UInt8) (h : cutAt c l = some p) : l = p.1 ++ c :: p.2 := by
  rcases index_cut c l with ⟨h1, _⟩ | ⟨q, h1, _, h3⟩
  · rw [h1] at h; cases h
  · rw [h1] at h; injection h with h; rw [← h]; exact h3
theorem mk_size (l : List UInt8) : (⟨l.toArray⟩ : ByteArray).size = l.length := by rw [← by_len]; rfl
theorem parts_f (x : ByteArray) (hx : x.size ≤ 1000) : ∃ b, a1_parts.f x = some (ownerS (by_ x), b) := by
  have hl := by_len x
  unfold a1_parts.f ownerS
  rw [show (⟨#[110]⟩ : ByteArray) = ⟨#[(110 : UInt8)]⟩ from rfl, cut_f x 110 hx, Option.bind_some]
  cases e : cutAt 110 (by_ x) with
  | none =>
    dsimp only
    rw [cutPrefix_f x 99, Option.bind_some]
    cases e2 : dropHead 99 (by_ x) with
    | none =>
      dsimp only
      rw [number_f x 15 hx (by omega), Option.bind_some, number_f _ 999999 (by decide) (by omega), Option.bind_some, if_neg (by simp)]
      exact ⟨_, rfl⟩
    | some r =>
      dsimp only
      have hr : r.length ≤ 1000 := by
        have := congrArg List.length (dropHead_len _ _ _ e2); simp at this; omega
      rw [number_f ⟨r.toArray⟩ 15 (by rw [mk_size]; exact hr) (by omega), Option.bind_some, number_f _ 999999 (by decide) (by omega), Option.bind_some, if_neg (by simp)]
      exact ⟨_, rfl⟩
  | some p =>
    dsimp only
    have hp := cutAt_len 110 (by_ x) p e
    have hlen : p.1.length + p.2.length + 1 = x.size := by rw [← hl, hp]; simp; omega
    rw [cutPrefix_f ⟨p.1.toArray⟩ 99, Option.bind_some, by_mk]
    cases e2 : dropHead 99 p.1 with
    | none =>
      dsimp only
      rw [number_f _ 15 (by rw [mk_size]; omega) (by omega), Option.bind_some, number_f _ 999999 (by rw [mk_size]; omega) (by omega), Option.bind_some, if_pos rfl, if_neg (by simp)]
      exact ⟨_, rfl⟩
    | some r =>
      dsimp only
      have hr : r.length ≤ p.1.length := by
        have := congrArg List.length (dropHead_len _ _ _ e2); simp at this; omega
      rw [number_f _ 15 (by rw [mk_size]; omega) (by omega), Option.bind_some, number_f _ 999999 (by rw [mk_size]; omega) (by omega), Option.bind_some, if_pos rfl, if_pos rfl, by_mk, by_mk]
      by_cases h1 : numS r 15 < 0
      · rw [if_pos h1, if_neg (by omega)]; exact ⟨_, rfl⟩
      · rw [if_neg h1]
        by_cases h2 : numS p.2 999999 < 0
        · rw [if_pos h2, if_neg (by omega)]; exact ⟨_, rfl⟩
        · rw [if_neg h2, if_pos (by omega)]; exact ⟨_, rfl⟩
theorem owner_f (x : ByteArray) (hx : x.size ≤ 1000) : a1_Owner.f x = some (ownerS (by_ x)) := by
  obtain ⟨b, h⟩ := parts_f x hx
  unfold a1_Owner.f
  rw [h, Option.bind_some]
theorem id_f (x : ByteArray) (hx : x.size ≤ 1000) : a1_Id.f x = some (decide (ownerS (by_ x) ≥ 0)) := by
  unfold a1_Id.f
  rw [owner_f x hx, Option.bind_some]
end Go.Proofs.YtpabggjnkoehfaaDoor.ERef
end
section
namespace Go.Proofs.YtpabggjnkoehfaaDoor.ERef
open Go.RowKit Go.Proofs.YtpabggjnkoehfaaDoor.Ext Go.Proofs.YtpabggjnkoehfaaDoorW.PrintWords Go.Proofs.YtpabggjnkoehfaaDoorW.PrintLast Go.Proofs.YtpabggjnkoehfaaDoorW.PrintMore
attribute [local go_sem] max2_int min2_int max_two min_two max_three min_three max_four min_four   
set_option linter.unusedVariables false
set_option linter.unusedSimpArgs false
mutual
def a1_Parse.j0 : Nat → ByteArray → ByteArray → ByteArray → Bool → Bool → ByteArray → Int → Int → Bool → Bool → Option (ByteArray × Int × Int × Bool × Bool × Bool)
  | 0, _, _, _, _, _, _, _, _, _, _ => none
  | k + 1, x0, x5, x6, x7, x24, x118000, x118001, x118002, x118003, x118004 => if x24 = true then (some ((⟨#[]⟩ : ByteArray), 0, 0, false, false, false)) else (if x7 = true then (a1_Parse.j1 k x6 x5 x118001 x118002 x118003 x118004) else (a1_Parse.j1 k x0 x118000 x118001 x118002 x118003 x118004))
def a1_Parse.j1 : Nat → ByteArray → ByteArray → Int → Int → Bool → Bool → Option (ByteArray × Int × Int × Bool × Bool × Bool)
  | 0, _, _, _, _, _, _ => none
  | k + 1, x0, x118000, x118001, x118002, x118003, x118004 => (a1_mark.f x0).bind fun bt122 => (a1_Parse.l0 k bt122.1 0 x118000 x118001 x118002 x118003 bt122.2)
def a1_Parse.j3 : Nat → ByteArray → Int → ByteArray → Int → Int → Bool → Bool → Option (ByteArray × Int × Int × Bool × Bool × Bool)
  | 0, _, _, _, _, _, _, _ => none
  | k + 1, x0, x8, x118000, x118001, x118002, x118003, x118004 => if 0 ≤ x8 then (if x8 ≤ (x0.size : Int) then ((a1_Col.f k (x0.extract 0 (x8 : Int).toNat)).bind fun bt124 => ((a1_mark.f (x0.extract (x8 : Int).toNat x0.size)).bind fun bt126 => ((a1_number.f bt126.1 2199023255552).bind fun t128 => (if bt124.2 = true then (if t128 < 1 then (some ((⟨#[]⟩ : ByteArray), 0, 0, false, false, false)) else (some (x118000, wrap64 (t128 - 1), bt124.1, bt126.2, x118004, true))) else (some ((⟨#[]⟩ : ByteArray), 0, 0, false, false, false)))))) else (none)) else (none)
def a1_Parse.l0 : Nat → ByteArray → Int → ByteArray → Int → Int → Bool → Bool → Option (ByteArray × Int × Int × Bool × Bool × Bool)
  | 0, _, _, _, _, _, _, _ => none
  | k + 1, x0, x8, x118000, x118001, x118002, x118003, x118004 => if x8 < (x0.size : Int) then (if 0 ≤ x8 then (if (bt x0 x8) ≥ 65 then (if (bt x0 x8) ≤ 90 then (a1_Parse.l0 k x0 (wrap64 (x8 + 1)) x118000 x118001 x118002 x118003 x118004) else (a1_Parse.j3 k x0 x8 x118000 x118001 x118002 x118003 x118004)) else (a1_Parse.j3 k x0 x8 x118000 x118001 x118002 x118003 x118004)) else (none)) else (a1_Parse.j3 k x0 x8 x118000 x118001 x118002 x118003 x118004)
end
def a1_Parse.f (k : Nat) (a0 : ByteArray) : Option (ByteArray × Int × Int × Bool × Bool × Bool) := (strings_Cut.f a0 (⟨#[33]⟩ : ByteArray)).bind fun bt118 => (if bt118.2.2 = true then ((a1_Id.f bt118.1).bind fun t121 => (a1_Parse.j0 k a0 bt118.1 bt118.2.1 bt118.2.2 (!t121) (⟨#[]⟩ : ByteArray) 0 0 false false)) else (a1_Parse.j0 k a0 bt118.1 bt118.2.1 bt118.2.2 false (⟨#[]⟩ : ByteArray) 0 0 false false))
set_option maxHeartbeats 8000000 in
set_option maxRecDepth 100000 in
theorem a1_Parse.calls (k : Nat) (a0 : ByteArray) (r1 : ByteArray) (r2 : Int) (r3 : Int) (r4 : Bool) (r5 : Bool) (r6 : Bool) (w : World) (hL : Aside0 (Lq w)) (h : a1_Parse.f k a0 = some (r1, r2, r3, r4, r5, r6)) :
    Calls Tryd.prog 9 #[.string a0] w fun e w' => e = .returned (.tuple #[.agg #[.string r1, .int .i64 r2, .int .i64 r3, .bool r4, .bool r5], .bool r6]) ∧ Below w.heap.size w w' := by
  have hu25 := Tryd.underlying25
  have HB := Aside0.mk (Below.refl w.heap.size w)
  have H : ((strings_Cut.f a0 (⟨#[33]⟩ : ByteArray)).bind fun bt118 => (if bt118.2.2 = true then ((a1_Id.f bt118.1).bind fun t121 => (a1_Parse.j0 k a0 bt118.1 bt118.2.1 bt118.2.2 (!t121) (⟨#[]⟩ : ByteArray) 0 0 false false)) else (a1_Parse.j0 k a0 bt118.1 bt118.2.1 bt118.2.2 false (⟨#[]⟩ : ByteArray) 0 0 false false))) = some (r1, r2, r3, r4, r5, r6) := h
  clear h
  replace H := Option.bind_eq_some_iff.mp H
  obtain ⟨⟨t118, t119, t120⟩, A20, H⟩ := H
  replace H : (if t120 = true then ((a1_Id.f t118).bind fun t121 => (a1_Parse.j0 k a0 t118 t119 t120 (!t121) (⟨#[]⟩ : ByteArray) 0 0 false false)) else (a1_Parse.j0 k a0 t118 t119 t120 false (⟨#[]⟩ : ByteArray) 0 0 false false)) = some (r1, r2, r3, r4, r5, r6) := H
  have A2 := Aside0.mk A20
  clear A20
  have HC3 := Aside0.mk H
  clear H
  go_enter Tryd.func9, Tryd.ntmps9
  go_upto_region 3 with (first | ((with_reducible refine gate_dst (N := 2) rfl ?_); refine box_event ?hg (N := 2) ?hd (cs := #[.string (⟨#[]⟩ : ByteArray), .int .i64 0, .int .i64 0, .bool false, .bool false]) (t := 25) ?hr ?_; (case hd => rfl); (case hg => rfl); (case hr => first | (go_simp; done) | (go_simp; rfl)); intro gb116 hg w4 hbox hb; have n0_ := Aside0.mk (below_step (by repeat (first | (with_reducible first | exact HB.out | apply below_alloc | apply pw_below_drewN | apply below_drew1) | exact HB.out)) hb); have n1_ := Aside0.mk (hbox); have n2_ := Aside0.mk ((by rw [hg]; exact (below_size (by repeat (first | (with_reducible first | exact HB.out | apply below_alloc | apply pw_below_drewN | apply below_drew1) | exact HB.out))) : w.heap.size ≤ gb116)); have n3_ := Aside0.mk ((by rw [hg]; exact (below_size (by repeat (first | (with_reducible first | exact HB.out | apply below_alloc | apply pw_below_drewN | apply below_drew1) | exact HB.out))) : w.heap.size ≤ gb116)); clear HB; have HB := n0_; have BK116 := n1_; have GW116 := n2_; have GE116 := n3_; clear n0_ n1_ n2_ n3_; clear hb hbox hg) | ((with_reducible refine gate_dst (N := 4) rfl ?_); refine box_event ?hg (N := 4) ?hd (cs := #[.string (⟨#[]⟩ : ByteArray), .int .i64 0, .int .i64 0, .bool false, .bool false]) (t := 25) ?hr ?_; (case hd => rfl); (case hg => rfl); (case hr => first | (go_simp; done) | (go_simp; rfl)); intro gb117 hg w5 hbox hb; have n0_ := Aside0.mk (blk_below (g := gb116) (o := .cells #[.string (⟨#[]⟩ : ByteArray), .int .i64 0, .int .i64 0, .bool false, .bool false] 25 (0, 0)) (by (with_reducible repeat (first | refine blk_drewN ?_ _ | refine blk_drew ?_ | refine blk_alloc ?_ _)); exact BK116.out) hb); have n1_ := Aside0.mk (below_step (by repeat (first | (with_reducible first | exact HB.out | apply below_alloc | apply pw_below_drewN | apply below_drew1 | refine below_set ?_ GE116.out) | exact HB.out)) hb); have n2_ := Aside0.mk (hbox); have n3_ := Aside0.mk ((by rw [hg]; exact (below_size (by repeat (first | (with_reducible first | exact HB.out | apply below_alloc | apply pw_below_drewN | apply below_drew1 | refine below_set ?_ GE116.out) | exact HB.out))) : w.heap.size ≤ gb117)); have n4_ := Aside0.mk ((by rw [hg]; exact (below_size (by repeat (first | (with_reducible first | exact HB.out | apply below_alloc | apply pw_below_drewN | apply below_drew1 | refine below_set ?_ GE116.out) | exact HB.out))) : w.heap.size ≤ gb117)); have n5_ := Aside0.mk ((by rw [hg]; exact Nat.ne_of_lt (blk_lt (g := gb116) (o := .cells #[.string (⟨#[]⟩ : ByteArray), .int .i64 0, .int .i64 0, .bool false, .bool false] 25 (0, 0)) (by (with_reducible repeat (first | refine blk_drewN ?_ _ | refine blk_drew ?_ | refine blk_alloc ?_ _)); exact BK116.out)) : gb116 ≠ gb117)); have n6_ := Aside0.mk ((by rw [hg]; exact Nat.ne_of_gt (blk_lt (g := gb116) (o := .cells #[.string (⟨#[]⟩ : ByteArray), .int .i64 0, .int .i64 0, .bool false, .bool false] 25 (0, 0)) (by (with_reducible repeat (first | refine blk_drewN ?_ _ | refine blk_drew ?_ | refine blk_alloc ?_ _)); exact BK116.out)) : gb117 ≠ gb116)); clear BK116; clear HB; have BK116 := n0_; have HB := n1_; have BK117 := n2_; have GW117 := n3_; have GE117 := n4_; have NB116_117 := n5_; have NB117_116 := n6_; clear n0_ n1_ n2_ n3_ n4_ n5_ n6_; clear hb hbox hg; have hnb6 := NB117_116.out; have hnc6 := NB116_117.out; have hcz7_0 : w5.cell? ⟨gb117, 0, none⟩ = some (.string (⟨#[]⟩ : ByteArray)) := (blk_cell BK117.out 0).trans rfl; have hcz7_1 : w5.cell? ⟨gb117, 1, none⟩ = some (.int .i64 0) := (blk_cell BK117.out 1).trans rfl; have hcz7_2 : w5.cell? ⟨gb117, 2, none⟩ = some (.int .i64 0) := (blk_cell BK117.out 2).trans rfl; have hcz7_3 : w5.cell? ⟨gb117, 3, none⟩ = some (.bool false) := (blk_cell BK117.out 3).trans rfl; have hcz7_4 : w5.cell? ⟨gb117, 4, none⟩ = some (.bool false) := (blk_cell BK117.out 4).trans rfl; have hfz7_0 := blk_frozen BK117.out 0; have hfz7_1 := blk_frozen BK117.out 1; have hfz7_2 := blk_frozen BK117.out 2; have hfz7_3 := blk_frozen BK117.out 3; have hfz7_4 := blk_frozen BK117.out 4) | ((with_reducible refine gate_callee (f := 25) rfl ?_); refine goesL_ (some 15) rfl rfl Tryd.func25 (by kernel_rfl) rfl #[.string a0, .string (⟨#[33]⟩ : ByteArray)] rfl (by (try simp only [List.map_toArray, List.map_cons, List.map_nil]); first | done | rfl | (simp only [List.length_drop, List.length_take]; rfl)) ?_; (with_reducible refine (strings_Cut.calls (hL := ⟨by first | exact hL.out | (refine hL.out.drawn ?_; (repeat (first | exact Drawn0.refl _ | apply Drawn0.step)); done) | (refine hL.out.below ?_; (repeat (first | (with_reducible first | exact HB.out | apply below_alloc | apply pw_below_drewN | apply below_drew1 | refine below_set ?_ GE116.out | refine below_set ?_ GE117.out) | exact HB.out)); done)⟩) a0 (⟨#[33]⟩ : ByteArray) t118 t119 t120 _ A2.out).mono ?_); rintro e w' ⟨rfl, ⟨nd, rfl⟩⟩; refine ⟨_, rfl, ?_⟩))
  (try simp only [Act.put, List.setIfInBounds_toArray, List.set_cons_zero, List.set_cons_succ])
  go_cut [24] (fun v24 wc => ∃ (kq : Nat) (x24_2 : Bool), v24 = .bool x24_2 ∧ Aside0 (a1_Parse.j0 kq a0 t118 t119 t120 x24_2 (⟨#[]⟩ : ByteArray) 0 0 false false = some (r1, r2, r3, r4, r5, r6)) ∧ Aside0 (kq ≤ k) ∧ Aside0 (wc.heap[gb116]? = some (.cells #[.string (⟨#[]⟩ : ByteArray), .int .i64 0, .int .i64 0, .bool false, .bool false] 25 (0, 0))) ∧ Aside0 (wc.heap[gb117]? = some (.cells #[.string (⟨#[]⟩ : ByteArray), .int .i64 0, .int .i64 0, .bool false, .bool false] 25 (0, 0))) ∧ Aside0 (Below w.heap.size w wc))
  case first =>
    have H := HC3.out
    clear HC3
    by_cases c8 : t120 = true
    · subst c8
      have H1 : ((a1_Id.f t118).bind fun t121 => (a1_Parse.j0 k a0 t118 t119 true (!t121) (⟨#[]⟩ : ByteArray) 0 0 false false)) = some (r1, r2, r3, r4, r5, r6) := by rw [if_pos rfl] at H; exact H
      clear H
      have H := H1
      clear H1
      replace H := Option.bind_eq_some_iff.mp H
      obtain ⟨t121, A90, H⟩ := H
      replace H : (a1_Parse.j0 k a0 t118 t119 true (!t121) (⟨#[]⟩ : ByteArray) 0 0 false false) = some (r1, r2, r3, r4, r5, r6) := H
      have A9 := Aside0.mk A90
      clear A90
      have H' := Aside0.mk H
      clear H
      go_wp2_with (first | (go_at_call 14; (with_reducible refine (a1_Id.calls (hL := ⟨by first | exact hL.out | (refine hL.out.drawn ?_; (repeat (first | exact Drawn0.refl _ | apply Drawn0.step)); done) | (refine hL.out.below ?_; (repeat (first | (with_reducible first | exact HB.out | apply below_alloc | apply pw_below_drewN | apply below_drew1 | refine below_set ?_ GE116.out | refine below_set ?_ GE117.out) | exact HB.out)); done)⟩) t118 t121 _ A9.out).mono ?_); rintro e w10 ⟨rfl, hb⟩; have n0_ := Aside0.mk (blk_below (g := gb116) (o := .cells #[.string (⟨#[]⟩ : ByteArray), .int .i64 0, .int .i64 0, .bool false, .bool false] 25 (0, 0)) (by (with_reducible repeat (first | refine blk_drewN ?_ _ | refine blk_drew ?_ | refine blk_alloc ?_ _)); refine blk_far ?_ NB116_117.out _; (with_reducible repeat (first | refine blk_drewN ?_ _ | refine blk_drew ?_ | refine blk_alloc ?_ _)); refine blk_far ?_ NB116_117.out _; (with_reducible repeat (first | refine blk_drewN ?_ _ | refine blk_drew ?_ | refine blk_alloc ?_ _)); refine blk_far ?_ NB116_117.out _; (with_reducible repeat (first | refine blk_drewN ?_ _ | refine blk_drew ?_ | refine blk_alloc ?_ _)); refine blk_far ?_ NB116_117.out _; (with_reducible repeat (first | refine blk_drewN ?_ _ | refine blk_drew ?_ | refine blk_alloc ?_ _)); refine blk_far ?_ NB116_117.out _; (with_reducible repeat (first | refine blk_drewN ?_ _ | refine blk_drew ?_ | refine blk_alloc ?_ _)); exact BK116.out) hb); have n1_ := Aside0.mk (blk_below (g := gb117) (o := .cells #[.string (⟨#[]⟩ : ByteArray), .int .i64 0, .int .i64 0, .bool false, .bool false] 25 (0, 0)) (by (with_reducible repeat (first | refine blk_drewN ?_ _ | refine blk_drew ?_ | refine blk_alloc ?_ _)); refine blk_put (cs := #[.string (⟨#[]⟩ : ByteArray), .int .i64 0, .int .i64 0, .bool false, .bool false]) ?_ 4 _ rfl; (with_reducible repeat (first | refine blk_drewN ?_ _ | refine blk_drew ?_ | refine blk_alloc ?_ _)); refine blk_put (cs := #[.string (⟨#[]⟩ : ByteArray), .int .i64 0, .int .i64 0, .bool false, .bool false]) ?_ 3 _ rfl; (with_reducible repeat (first | refine blk_drewN ?_ _ | refine blk_drew ?_ | refine blk_alloc ?_ _)); refine blk_put (cs := #[.string (⟨#[]⟩ : ByteArray), .int .i64 0, .int .i64 0, .bool false, .bool false]) ?_ 2 _ rfl; (with_reducible repeat (first | refine blk_drewN ?_ _ | refine blk_drew ?_ | refine blk_alloc ?_ _)); refine blk_put (cs := #[.string (⟨#[]⟩ : ByteArray), .int .i64 0, .int .i64 0, .bool false, .bool false]) ?_ 1 _ rfl; (with_reducible repeat (first | refine blk_drewN ?_ _ | refine blk_drew ?_ | refine blk_alloc ?_ _)); refine blk_put (cs := #[.string (⟨#[]⟩ : ByteArray), .int .i64 0, .int .i64 0, .bool false, .bool false]) ?_ 0 _ rfl; (with_reducible repeat (first | refine blk_drewN ?_ _ | refine blk_drew ?_ | refine blk_alloc ?_ _)); exact BK117.out) hb); have n2_ := Aside0.mk (below_step (by repeat (first | (with_reducible first | exact HB.out | apply below_alloc | apply pw_below_drewN | apply below_drew1 | refine below_set ?_ GE116.out | refine below_set ?_ GE117.out) | exact HB.out)) hb); clear BK116; clear BK117; clear HB; have BK116 := n0_; have BK117 := n1_; have HB := n2_; clear n0_ n1_ n2_; (try clear hb); (try clear hb2); (try clear hk); (try clear hi)))
      go_meet
      case rel => exact ⟨_, (!t121), (by first | rfl | (simp; done) | (simp [*]; done)), H', ⟨by first | omega | exact Nat.le_refl _⟩, ⟨by (with_reducible repeat (first | refine blk_drewN ?_ _ | refine blk_drew ?_ | refine blk_alloc ?_ _)); exact BK116.out⟩, ⟨by (with_reducible repeat (first | refine blk_drewN ?_ _ | refine blk_drew ?_ | refine blk_alloc ?_ _)); exact BK117.out⟩, ⟨by repeat (first | (with_reducible first | exact HB.out | apply below_alloc | apply pw_below_drewN | apply below_drew1 | refine below_set ?_ GE116.out | refine below_set ?_ GE117.out) | exact HB.out)⟩⟩
    · replace c8 := Bool.eq_false_iff.mpr c8
      subst c8
      have H1 : (a1_Parse.j0 k a0 t118 t119 false false (⟨#[]⟩ : ByteArray) 0 0 false false) = some (r1, r2, r3, r4, r5, r6) := by rw [if_neg (show ¬ (false = true) by decide)] at H; exact H
      clear H
      have H := H1
      clear H1
      have H' := Aside0.mk H
      clear H
      go_wp2
      go_meet
      case rel => exact ⟨_, (false), (by first | rfl | (simp; done) | (simp [*]; done)), H', ⟨by first | omega | exact Nat.le_refl _⟩, ⟨by (with_reducible repeat (first | refine blk_drewN ?_ _ | refine blk_drew ?_ | refine blk_alloc ?_ _)); refine blk_far ?_ NB116_117.out _; (with_reducible repeat (first | refine blk_drewN ?_ _ | refine blk_drew ?_ | refine blk_alloc ?_ _)); refine blk_far ?_ NB116_117.out _; (with_reducible repeat (first | refine blk_drewN ?_ _ | refine blk_drew ?_ | refine blk_alloc ?_ _)); refine blk_far ?_ NB116_117.out _; (with_reducible repeat (first | refine blk_drewN ?_ _ | refine blk_drew ?_ | refine blk_alloc ?_ _)); refine blk_far ?_ NB116_117.out _; (with_reducible repeat (first | refine blk_drewN ?_ _ | refine blk_drew ?_ | refine blk_alloc ?_ _)); refine blk_far ?_ NB116_117.out _; (with_reducible repeat (first | refine blk_drewN ?_ _ | refine blk_drew ?_ | refine blk_alloc ?_ _)); exact BK116.out⟩, ⟨by (with_reducible repeat (first | refine blk_drewN ?_ _ | refine blk_drew ?_ | refine blk_alloc ?_ _)); refine blk_put (cs := #[.string (⟨#[]⟩ : ByteArray), .int .i64 0, .int .i64 0, .bool false, .bool false]) ?_ 4 _ rfl; (with_reducible repeat (first | refine blk_drewN ?_ _ | refine blk_drew ?_ | refine blk_alloc ?_ _)); refine blk_put (cs := #[.string (⟨#[]⟩ : ByteArray), .int .i64 0, .int .i64 0, .bool false, .bool false]) ?_ 3 _ rfl; (with_reducible repeat (first | refine blk_drewN ?_ _ | refine blk_drew ?_ | refine blk_alloc ?_ _)); refine blk_put (cs := #[.string (⟨#[]⟩ : ByteArray), .int .i64 0, .int .i64 0, .bool false, .bool false]) ?_ 2 _ rfl; (with_reducible repeat (first | refine blk_drewN ?_ _ | refine blk_drew ?_ | refine blk_alloc ?_ _)); refine blk_put (cs := #[.string (⟨#[]⟩ : ByteArray), .int .i64 0, .int .i64 0, .bool false, .bool false]) ?_ 1 _ rfl; (with_reducible repeat (first | refine blk_drewN ?_ _ | refine blk_drew ?_ | refine blk_alloc ?_ _)); refine blk_put (cs := #[.string (⟨#[]⟩ : ByteArray), .int .i64 0, .int .i64 0, .bool false, .bool false]) ?_ 0 _ rfl; (with_reducible repeat (first | refine blk_drewN ?_ _ | refine blk_drew ?_ | refine blk_alloc ?_ _)); exact BK117.out⟩, ⟨by repeat (first | (with_reducible first | exact HB.out | apply below_alloc | apply pw_below_drewN | apply below_drew1 | refine below_set ?_ GE116.out | refine below_set ?_ GE117.out) | exact HB.out)⟩⟩
  case rest =>
    clear HC3
    try clear c2
    try clear p2
    try clear c6
    try clear c8
    try clear c9
    try clear hcz7_0
    try clear hcz7_1
    try clear hcz7_2
    try clear hcz7_3
    try clear hcz7_4
    try clear hfz7_0
    try clear hfz7_1
    try clear hfz7_2
    try clear hfz7_3
    try clear hfz7_4
    obtain ⟨kq, x24_2, rfl, HA, HJ2, BK116, BK117, HB⟩ := hcut
    cases kq with
    | zero => exact absurd HA.out (by simp [a1_Parse.j0])
    | succ kj2 =>
      have H := HA.out
      clear HA
      simp only [a1_Parse.j0] at H
      by_cases c11 : x24_2 = true
      · subst c11
        have H1 : (some ((⟨#[]⟩ : ByteArray), 0, 0, false, false, false)) = some (r1, r2, r3, r4, r5, r6) := by rw [if_pos rfl] at H; exact H
        clear H
        have H := H1
        clear H1
        simp only [Option.some.injEq, Prod.mk.injEq] at H
        obtain ⟨rfl, rfl, rfl, rfl, rfl, rfl⟩ := H
        have hnb12 := NB116_117.out
        have hnc12 := NB117_116.out
        have hcz13_0 : wc.cell? ⟨gb116, 0, none⟩ = some (.string (⟨#[]⟩ : ByteArray)) := (blk_cell BK116.out 0).trans rfl
        have hcz13_1 : wc.cell? ⟨gb116, 1, none⟩ = some (.int .i64 0) := (blk_cell BK116.out 1).trans rfl
        have hcz13_2 : wc.cell? ⟨gb116, 2, none⟩ = some (.int .i64 0) := (blk_cell BK116.out 2).trans rfl
        have hcz13_3 : wc.cell? ⟨gb116, 3, none⟩ = some (.bool false) := (blk_cell BK116.out 3).trans rfl
        have hcz13_4 : wc.cell? ⟨gb116, 4, none⟩ = some (.bool false) := (blk_cell BK116.out 4).trans rfl
        have hfz13_0 := blk_frozen BK116.out 0
        have hfz13_1 := blk_frozen BK116.out 1
        have hfz13_2 := blk_frozen BK116.out 2
        have hfz13_3 := blk_frozen BK116.out 3
        have hfz13_4 := blk_frozen BK116.out 4
        go_wp2
        refine bodyPost_ret (results_ct rfl _ _ gb116 25 #[.string (⟨#[]⟩ : ByteArray), .int .i64 0, .int .i64 0, .bool false, .bool false] (0, 0) _ rfl (by (with_reducible repeat (first | refine blk_drewN ?_ _ | refine blk_drew ?_ | refine blk_alloc ?_ _)); refine blk_put (cs := #[.string (⟨#[]⟩ : ByteArray), .int .i64 0, .int .i64 0, .bool false, .bool false]) ?_ 4 _ rfl; (with_reducible repeat (first | refine blk_drewN ?_ _ | refine blk_drew ?_ | refine blk_alloc ?_ _)); refine blk_put (cs := #[.string (⟨#[]⟩ : ByteArray), .int .i64 0, .int .i64 0, .bool false, .bool false]) ?_ 3 _ rfl; (with_reducible repeat (first | refine blk_drewN ?_ _ | refine blk_drew ?_ | refine blk_alloc ?_ _)); refine blk_put (cs := #[.string (⟨#[]⟩ : ByteArray), .int .i64 0, .int .i64 0, .bool false, .bool false]) ?_ 2 _ rfl; (with_reducible repeat (first | refine blk_drewN ?_ _ | refine blk_drew ?_ | refine blk_alloc ?_ _)); refine blk_put (cs := #[.string (⟨#[]⟩ : ByteArray), .int .i64 0, .int .i64 0, .bool false, .bool false]) ?_ 1 _ rfl; (with_reducible repeat (first | refine blk_drewN ?_ _ | refine blk_drew ?_ | refine blk_alloc ?_ _)); refine blk_put (cs := #[.string (⟨#[]⟩ : ByteArray), .int .i64 0, .int .i64 0, .bool false, .bool false]) ?_ 0 _ rfl; (with_reducible repeat (first | refine blk_drewN ?_ _ | refine blk_drew ?_ | refine blk_alloc ?_ _)); exact BK116.out) Tryd.underlying25 rfl (by kernel_rfl)) rfl ?_
        exact ⟨by first | rfl | (simp [errW_none, errW_some] <;> rfl) | (simp [*, errW_none, errW_some] <;> rfl), by repeat (first | (with_reducible first | exact HB.out | apply below_alloc | apply pw_below_drewN | apply below_drew1 | refine below_set ?_ GE116.out | refine below_set ?_ GE117.out) | exact HB.out)⟩
      · replace c11 := Bool.eq_false_iff.mpr c11
        subst c11
        have H1 : (if t120 = true then (a1_Parse.j1 kj2 t119 t118 0 0 false false) else (a1_Parse.j1 kj2 a0 (⟨#[]⟩ : ByteArray) 0 0 false false)) = some (r1, r2, r3, r4, r5, r6) := by rw [if_neg (show ¬ (false = true) by decide)] at H; exact H
        clear H
        have H := H1
        clear H1
        have HC14 := Aside0.mk H
        clear H
        go_upto_if 26 with (fail)
        go_cut [0] (fun v0 wc => ∃ (kq : Nat) (x0_13 : ByteArray) (x118000_13 : ByteArray), v0 = .string x0_13 ∧ Aside0 (a1_Parse.j1 kq x0_13 x118000_13 0 0 false false = some (r1, r2, r3, r4, r5, r6)) ∧ Aside0 (kq ≤ kj2) ∧ Aside0 (wc.heap[gb116]? = some (.cells #[.string (⟨#[]⟩ : ByteArray), .int .i64 0, .int .i64 0, .bool false, .bool false] 25 (0, 0))) ∧ Aside0 (wc.heap[gb117]? = some (.cells #[.string x118000_13, .int .i64 0, .int .i64 0, .bool false, .bool false] 25 (0, 0))) ∧ Aside0 (Below w.heap.size w wc))
        case first =>
          have H := HC14.out
          clear HC14
          by_cases c15 : t120 = true
          · subst c15
            have H1 : (a1_Parse.j1 kj2 t119 t118 0 0 false false) = some (r1, r2, r3, r4, r5, r6) := by rw [if_pos rfl] at H; exact H
            clear H
            have H := H1
            clear H1
            have H' := Aside0.mk H
            clear H
            have hnb16 := NB117_116.out
            have hnc16 := NB116_117.out
            have hcz17_0 : wc.cell? ⟨gb117, 0, none⟩ = some (.string (⟨#[]⟩ : ByteArray)) := (blk_cell BK117.out 0).trans rfl
            have hcz17_1 : wc.cell? ⟨gb117, 1, none⟩ = some (.int .i64 0) := (blk_cell BK117.out 1).trans rfl
            have hcz17_2 : wc.cell? ⟨gb117, 2, none⟩ = some (.int .i64 0) := (blk_cell BK117.out 2).trans rfl
            have hcz17_3 : wc.cell? ⟨gb117, 3, none⟩ = some (.bool false) := (blk_cell BK117.out 3).trans rfl
            have hcz17_4 : wc.cell? ⟨gb117, 4, none⟩ = some (.bool false) := (blk_cell BK117.out 4).trans rfl
            have hfz17_0 := blk_frozen BK117.out 0
            have hfz17_1 := blk_frozen BK117.out 1
            have hfz17_2 := blk_frozen BK117.out 2
            have hfz17_3 := blk_frozen BK117.out 3
            have hfz17_4 := blk_frozen BK117.out 4
            go_wp2
            go_meet
            case rel => exact ⟨_, (t119), (t118), (by first | rfl | (simp; done) | (simp [*]; done)), H', ⟨by have := HJ2.out; first | omega | exact Nat.le_refl _⟩, ⟨by (with_reducible repeat (first | refine blk_drewN ?_ _ | refine blk_drew ?_ | refine blk_alloc ?_ _)); refine blk_far ?_ NB116_117.out _; (with_reducible repeat (first | refine blk_drewN ?_ _ | refine blk_drew ?_ | refine blk_alloc ?_ _)); exact BK116.out⟩, ⟨by (with_reducible repeat (first | refine blk_drewN ?_ _ | refine blk_drew ?_ | refine blk_alloc ?_ _)); refine blk_put (cs := #[.string (⟨#[]⟩ : ByteArray), .int .i64 0, .int .i64 0, .bool false, .bool false]) ?_ 0 _ rfl; (with_reducible repeat (first | refine blk_drewN ?_ _ | refine blk_drew ?_ | refine blk_alloc ?_ _)); exact BK117.out⟩, ⟨by repeat (first | (with_reducible first | exact HB.out | apply below_alloc | apply pw_below_drewN | apply below_drew1 | refine below_set ?_ GE116.out | refine below_set ?_ GE117.out) | exact HB.out)⟩⟩
          · replace c15 := Bool.eq_false_iff.mpr c15
            subst c15
            have H1 : (a1_Parse.j1 kj2 a0 (⟨#[]⟩ : ByteArray) 0 0 false false) = some (r1, r2, r3, r4, r5, r6) := by rw [if_neg (show ¬ (false = true) by decide)] at H; exact H
            clear H
            have H := H1
            clear H1
            have H' := Aside0.mk H
            clear H
            go_wp2
            go_meet
            case rel => exact ⟨_, (a0), ((⟨#[]⟩ : ByteArray)), (by first | rfl | (simp; done) | (simp [*]; done)), H', ⟨by have := HJ2.out; first | omega | exact Nat.le_refl _⟩, ⟨by (with_reducible repeat (first | refine blk_drewN ?_ _ | refine blk_drew ?_ | refine blk_alloc ?_ _)); exact BK116.out⟩, ⟨by (with_reducible repeat (first | refine blk_drewN ?_ _ | refine blk_drew ?_ | refine blk_alloc ?_ _)); exact BK117.out⟩, ⟨by repeat (first | (with_reducible first | exact HB.out | apply below_alloc | apply pw_below_drewN | apply below_drew1 | refine below_set ?_ GE116.out | refine below_set ?_ GE117.out) | exact HB.out)⟩⟩
        case rest =>
          clear HC14
          try clear c1
          try clear c2
          try clear p2
          try clear c6
          try clear c8
          try clear c9
          try clear c11
          try clear c12
          try clear c15
          try clear c16
          try clear hcz13_0
          try clear hcz13_1
          try clear hcz13_2
          try clear hcz13_3
          try clear hcz13_4
          try clear hcz17_0
          try clear hcz17_1
          try clear hcz17_2
          try clear hcz17_3
          try clear hcz17_4
          try clear hcz7_0
          try clear hcz7_1
          try clear hcz7_2
          try clear hcz7_3
          try clear hcz7_4
          try clear hfz13_0
          try clear hfz13_1
          try clear hfz13_2
          try clear hfz13_3
          try clear hfz13_4
          try clear hfz17_0
          try clear hfz17_1
          try clear hfz17_2
          try clear hfz17_3
          try clear hfz17_4
          try clear hfz7_0
          try clear hfz7_1
          try clear hfz7_2
          try clear hfz7_3
          try clear hfz7_4
          try clear p2
          obtain ⟨kq, x0_13, x118000_13, rfl, HA, HJ13, BK116, BK117, HB⟩ := hcut
          cases kq with
          | zero => exact absurd HA.out (by simp [a1_Parse.j1])
          | succ kj13 =>
            have H := HA.out
            clear HA
            simp only [a1_Parse.j1] at H
            replace H := Option.bind_eq_some_iff.mp H
            obtain ⟨⟨t122, t123⟩, A180, H⟩ := H
            replace H : (a1_Parse.l0 kj13 t122 0 x118000_13 0 0 false t123) = some (r1, r2, r3, r4, r5, r6) := H
            have A18 := Aside0.mk A180
            clear A180
            have HC19 := Aside0.mk H
            clear H
            go_upto_block 0 with (first | ((with_reducible refine gate_callee (f := 26) rfl ?_); refine goesL_ (some 32) rfl rfl Tryd.func26 (by kernel_rfl) rfl #[.string x0_13] rfl (by (try simp only [List.map_toArray, List.map_cons, List.map_nil]); first | done | rfl | (simp only [List.length_drop, List.length_take]; rfl)) ?_; (with_reducible refine (a1_mark.calls x0_13 t122 t123 _ A18.out).mono ?_); rintro e w' ⟨rfl, ⟨nd, rfl⟩⟩; refine ⟨_, rfl, ?_⟩; (try (rw [drewN_self wc]; generalize hq_ : World.drewN wc _ = wc; have n0_ : Aside0 (wc.heap[gb116]? = some (.cells #[.string (⟨#[]⟩ : ByteArray), .int .i64 0, .int .i64 0, .bool false, .bool false] 25 (0, 0))) := ⟨by rw [← hq_]; exact (by (with_reducible repeat (first | refine blk_drewN ?_ _ | refine blk_drew ?_ | refine blk_alloc ?_ _)); exact BK116.out)⟩; have n1_ : Aside0 (wc.heap[gb117]? = some (.cells #[.string x118000_13, .int .i64 0, .int .i64 0, .bool false, .bool false] 25 (0, 0))) := ⟨by rw [← hq_]; exact (by (with_reducible repeat (first | refine blk_drewN ?_ _ | refine blk_drew ?_ | refine blk_alloc ?_ _)); exact BK117.out)⟩; have n2_ : Aside0 (Below w.heap.size w wc) := ⟨by rw [← hq_]; exact (by repeat (first | (with_reducible first | exact HB.out | apply below_alloc | apply pw_below_drewN | apply below_drew1 | refine below_set ?_ GE116.out | refine below_set ?_ GE117.out) | exact HB.out))⟩; clear BK116 BK117 HB hq_; have BK116 := n0_; have BK117 := n1_; have HB := n2_; clear n0_ n1_ n2_)); have hnb20 := NB117_116.out; have hnc20 := NB116_117.out; have hcz21_0 : wc.cell? ⟨gb117, 0, none⟩ = some (.string x118000_13) := (blk_cell BK117.out 0).trans rfl; have hcz21_1 : wc.cell? ⟨gb117, 1, none⟩ = some (.int .i64 0) := (blk_cell BK117.out 1).trans rfl; have hcz21_2 : wc.cell? ⟨gb117, 2, none⟩ = some (.int .i64 0) := (blk_cell BK117.out 2).trans rfl; have hcz21_3 : wc.cell? ⟨gb117, 3, none⟩ = some (.bool false) := (blk_cell BK117.out 3).trans rfl; have hcz21_4 : wc.cell? ⟨gb117, 4, none⟩ = some (.bool false) := (blk_cell BK117.out 4).trans rfl; have hfz21_0 := blk_frozen BK117.out 0; have hfz21_1 := blk_frozen BK117.out 1; have hfz21_2 := blk_frozen BK117.out 2; have hfz21_3 := blk_frozen BK117.out 3; have hfz21_4 := blk_frozen BK117.out 4))
            (try simp only [Act.put, List.setIfInBounds_toArray, List.set_cons_zero, List.set_cons_succ])
            go_cut [8] (fun v8 wc => ∃ (kq : Nat) (x8_18 : Int), v8 = .int .i64 x8_18 ∧ Aside0 (a1_Parse.j3 kq t122 x8_18 x118000_13 0 0 false t123 = some (r1, r2, r3, r4, r5, r6)) ∧ Aside0 (kq ≤ kj13) ∧ Aside0 (wc.heap[gb116]? = some (.cells #[.string (⟨#[]⟩ : ByteArray), .int .i64 0, .int .i64 0, .bool false, .bool false] 25 (0, 0))) ∧ Aside0 (wc.heap[gb117]? = some (.cells #[.string x118000_13, .int .i64 0, .int .i64 0, .bool false, .bool t123] 25 (0, 0))) ∧ Aside0 (Below w.heap.size w wc))
            case first =>
              have H := HC19.out
              clear HC19
              have H' := Aside0.mk H
              clear H
              go_wp2
              go_loopg [8] kj13 (fun kq v8 w' => ∃ (x8_3 : Int), v8 = .int .i64 x8_3 ∧ Aside0 (a1_Parse.l0 kq t122 x8_3 x118000_13 0 0 false t123 = some (r1, r2, r3, r4, r5, r6)) ∧ Aside0 (kq ≤ kj13) ∧ Aside0 (w'.heap[gb116]? = some (.cells #[.string (⟨#[]⟩ : ByteArray), .int .i64 0, .int .i64 0, .bool false, .bool false] 25 (0, 0))) ∧ Aside0 (w'.heap[gb117]? = some (.cells #[.string x118000_13, .int .i64 0, .int .i64 0, .bool false, .bool t123] 25 (0, 0))) ∧ Aside0 (Below w.heap.size w w'))
              case atStart => exact ⟨(0), (by first | rfl | (simp; done) | (simp [*]; done)), H', ⟨Nat.le_refl _⟩, ⟨by (with_reducible repeat (first | refine blk_drewN ?_ _ | refine blk_drew ?_ | refine blk_alloc ?_ _)); refine blk_far ?_ NB116_117.out _; (with_reducible repeat (first | refine blk_drewN ?_ _ | refine blk_drew ?_ | refine blk_alloc ?_ _)); exact BK116.out⟩, ⟨by (with_reducible repeat (first | refine blk_drewN ?_ _ | refine blk_drew ?_ | refine blk_alloc ?_ _)); refine blk_put (cs := #[.string x118000_13, .int .i64 0, .int .i64 0, .bool false, .bool false]) ?_ 4 _ rfl; (with_reducible repeat (first | refine blk_drewN ?_ _ | refine blk_drew ?_ | refine blk_alloc ?_ _)); exact BK117.out⟩, ⟨by repeat (first | (with_reducible first | exact HB.out | apply below_alloc | apply pw_below_drewN | apply below_drew1 | refine below_set ?_ GE116.out | refine below_set ?_ GE117.out) | exact HB.out)⟩⟩
              case round =>
                clear H'
                try clear c1
                try clear c2
                try clear p2
                try clear c6
                try clear c8
                try clear c9
                try clear c11
                try clear c12
                try clear c15
                try clear c16
                try clear c20
                try clear hcz13_0
                try clear hcz13_1
                try clear hcz13_2
                try clear hcz13_3
                try clear hcz13_4
                try clear hcz17_0
                try clear hcz17_1
                try clear hcz17_2
                try clear hcz17_3
                try clear hcz17_4
                try clear hcz21_0
                try clear hcz21_1
                try clear hcz21_2
                try clear hcz21_3
                try clear hcz21_4
                try clear hcz7_0
                try clear hcz7_1
                try clear hcz7_2
                try clear hcz7_3
                try clear hcz7_4
                try clear hfz13_0
                try clear hfz13_1
                try clear hfz13_2
                try clear hfz13_3
                try clear hfz13_4
                try clear hfz17_0
                try clear hfz17_1
                try clear hfz17_2
                try clear hfz17_3
                try clear hfz17_4
                try clear hfz21_0
                try clear hfz21_1
                try clear hfz21_2
                try clear hfz21_3
                try clear hfz21_4
                try clear hfz7_0
                try clear hfz7_1
                try clear hfz7_2
                try clear hfz7_3
                try clear hfz7_4
                try clear p2
                obtain ⟨x8_3, rfl, HA, HK3, BK116, BK117, HB⟩ := hrel
                cases gk with
                | zero => exact absurd HA.out (by simp [a1_Parse.l0])
                | succ k3 =>
                  have H := HA.out
                  clear HA
                  simp only [a1_Parse.l0] at H
                  by_cases c22 : x8_3 < (t122.size : Int)
                  · rw [if_pos c22] at H
                    have c22b0 : decide (x8_3 < (t122.size : Int)) = true := decide_eq_true c22
                    clear c22
                    (first | rw [c22b0] | (simp only [i64_w, i32_w]; rw [c22b0]) | skip)
                    by_cases c23 : 0 ≤ x8_3
                    · rw [if_pos c23] at H
                      have c23b0 : decide (0 ≤ x8_3) = true := decide_eq_true c23
                      clear c23
                      by_cases c25 : (bt t122 x8_3) ≥ 65
                      · rw [if_pos c25] at H
                        have c25b0 : decide (65 ≤ (bt t122 x8_3)) = true := decide_eq_true c25
                        clear c25
                        by_cases c27 : (bt t122 x8_3) ≤ 90
                        · rw [if_pos c27] at H
                          have c27b0 : decide ((bt t122 x8_3) ≤ 90) = true := decide_eq_true c27
                          clear c27
                          have H' := Aside0.mk H
                          clear H
                          have p24 : 0 ≤ (x8_3 : Int) := of_decide_eq_true (by first | (with_reducible assumption) | assumption)
                          have q24 : x8_3 < (t122.size : Int) := of_decide_eq_true (by first | (with_reducible assumption) | assumption)
                          have hx24 := bt_at t122 x8_3
                          replace p24 := eq_true p24
                          replace q24 := eq_true q24
                          try (have q24z := q24; simp only [ByteArray.size_extract, Nat.min_self] at q24z)
                          have p26 : 0 ≤ (x8_3 : Int) := of_decide_eq_true (by first | (with_reducible assumption) | assumption)
                          have q26 : x8_3 < (t122.size : Int) := of_decide_eq_true (by first | (with_reducible assumption) | assumption)
                          have hx26 := bt_at t122 x8_3
                          replace p26 := eq_true p26
                          replace q26 := eq_true q26
                          try (have q26z := q26; simp only [ByteArray.size_extract, Nat.min_self] at q26z)
                          go_wp2
                          go_roundg k3
                          case measure => have := HJ2.out; have := HJ13.out; have := HK3.out; omega
                          case rel => exact ⟨(wrap64 (x8_3 + 1)), (by first | rfl | (simp; done) | (simp [*]; done)), H', ⟨by have := HJ2.out; have := HJ13.out; have := HK3.out; omega⟩, ⟨by (with_reducible repeat (first | refine blk_drewN ?_ _ | refine blk_drew ?_ | refine blk_alloc ?_ _)); exact BK116.out⟩, ⟨by (with_reducible repeat (first | refine blk_drewN ?_ _ | refine blk_drew ?_ | refine blk_alloc ?_ _)); exact BK117.out⟩, ⟨by repeat (first | (with_reducible first | exact HB.out | apply below_alloc | apply pw_below_drewN | apply below_drew1 | refine below_set ?_ GE116.out | refine below_set ?_ GE117.out) | exact HB.out)⟩⟩
                        · rw [if_neg c27] at H
                          have c27b0 : decide ((bt t122 x8_3) ≤ 90) = false := decide_eq_false c27
                          clear c27
                          have H' := Aside0.mk H
                          clear H
                          have p24 : 0 ≤ (x8_3 : Int) := of_decide_eq_true (by first | (with_reducible assumption) | assumption)
                          have q24 : x8_3 < (t122.size : Int) := of_decide_eq_true (by first | (with_reducible assumption) | assumption)
                          have hx24 := bt_at t122 x8_3
                          replace p24 := eq_true p24
                          replace q24 := eq_true q24
                          try (have q24z := q24; simp only [ByteArray.size_extract, Nat.min_self] at q24z)
                          have p26 : 0 ≤ (x8_3 : Int) := of_decide_eq_true (by first | (with_reducible assumption) | assumption)
                          have q26 : x8_3 < (t122.size : Int) := of_decide_eq_true (by first | (with_reducible assumption) | assumption)
                          have hx26 := bt_at t122 x8_3
                          replace p26 := eq_true p26
                          replace q26 := eq_true q26
                          try (have q26z := q26; simp only [ByteArray.size_extract, Nat.min_self] at q26z)
                          go_wp2
                          go_meet
                          case rel => exact ⟨_, (x8_3), (by first | rfl | (simp; done) | (simp [*]; done)), H', ⟨by have := HJ2.out; have := HJ13.out; have := HK3.out; first | omega | exact Nat.le_refl _⟩, ⟨by (with_reducible repeat (first | refine blk_drewN ?_ _ | refine blk_drew ?_ | refine blk_alloc ?_ _)); exact BK116.out⟩, ⟨by (with_reducible repeat (first | refine blk_drewN ?_ _ | refine blk_drew ?_ | refine blk_alloc ?_ _)); exact BK117.out⟩, ⟨by repeat (first | (with_reducible first | exact HB.out | apply below_alloc | apply pw_below_drewN | apply below_drew1 | refine below_set ?_ GE116.out | refine below_set ?_ GE117.out) | exact HB.out)⟩⟩
                      · rw [if_neg c25] at H
                        have c25b0 : decide (65 ≤ (bt t122 x8_3)) = false := decide_eq_false c25
                        clear c25
                        have H' := Aside0.mk H
                        clear H
                        have p24 : 0 ≤ (x8_3 : Int) := of_decide_eq_true (by first | (with_reducible assumption) | assumption)
                        have q24 : x8_3 < (t122.size : Int) := of_decide_eq_true (by first | (with_reducible assumption) | assumption)
                        have hx24 := bt_at t122 x8_3
                        replace p24 := eq_true p24
                        replace q24 := eq_true q24
                        try (have q24z := q24; simp only [ByteArray.size_extract, Nat.min_self] at q24z)
                        go_wp2
                        go_meet
                        case rel => exact ⟨_, (x8_3), (by first | rfl | (simp; done) | (simp [*]; done)), H', ⟨by have := HJ2.out; have := HJ13.out; have := HK3.out; first | omega | exact Nat.le_refl _⟩, ⟨by (with_reducible repeat (first | refine blk_drewN ?_ _ | refine blk_drew ?_ | refine blk_alloc ?_ _)); exact BK116.out⟩, ⟨by (with_reducible repeat (first | refine blk_drewN ?_ _ | refine blk_drew ?_ | refine blk_alloc ?_ _)); exact BK117.out⟩, ⟨by repeat (first | (with_reducible first | exact HB.out | apply below_alloc | apply pw_below_drewN | apply below_drew1 | refine below_set ?_ GE116.out | refine below_set ?_ GE117.out) | exact HB.out)⟩⟩
                    · rw [if_neg c23] at H
                      exact absurd H (by simp)
                  · rw [if_neg c22] at H
                    have c22b0 : decide (x8_3 < (t122.size : Int)) = false := decide_eq_false c22
                    clear c22
                    (first | rw [c22b0] | (simp only [i64_w, i32_w]; rw [c22b0]) | skip)
                    have H' := Aside0.mk H
                    clear H
                    go_wp2
                    go_meet
                    case rel => exact ⟨_, (x8_3), (by first | rfl | (simp; done) | (simp [*]; done)), H', ⟨by have := HJ2.out; have := HJ13.out; have := HK3.out; first | omega | exact Nat.le_refl _⟩, ⟨by (with_reducible repeat (first | refine blk_drewN ?_ _ | refine blk_drew ?_ | refine blk_alloc ?_ _)); exact BK116.out⟩, ⟨by (with_reducible repeat (first | refine blk_drewN ?_ _ | refine blk_drew ?_ | refine blk_alloc ?_ _)); exact BK117.out⟩, ⟨by repeat (first | (with_reducible first | exact HB.out | apply below_alloc | apply pw_below_drewN | apply below_drew1 | refine below_set ?_ GE116.out | refine below_set ?_ GE117.out) | exact HB.out)⟩⟩
            case rest =>
              clear HC19
              try clear c1
              try clear c2
              try clear p2
              try clear q2
              try clear hx2
              try clear c6
              try clear p6
              try clear c8
              try clear c9
              try clear c11
              try clear c12
              try clear c15
              try clear c16
              try clear c20
              try clear c22
              try clear c22b0
              try clear c23
              try clear c23b0
              try clear p24
              try clear q24
              try clear hx24
              try clear c25
              try clear c25b0
              try clear c26
              try clear p26
              try clear q26
              try clear hx26
              try clear c27
              try clear c27b0
              try clear hcz13_0
              try clear hcz13_1
              try clear hcz13_2
              try clear hcz13_3
              try clear hcz13_4
              try clear hcz17_0
              try clear hcz17_1
              try clear hcz17_2
              try clear hcz17_3
              try clear hcz17_4
              try clear hcz21_0
              try clear hcz21_1
              try clear hcz21_2
              try clear hcz21_3
              try clear hcz21_4
              try clear hcz7_0
              try clear hcz7_1
              try clear hcz7_2
              try clear hcz7_3
              try clear hcz7_4
              try clear hfz13_0
              try clear hfz13_1
              try clear hfz13_2
              try clear hfz13_3
              try clear hfz13_4
              try clear hfz17_0
              try clear hfz17_1
              try clear hfz17_2
              try clear hfz17_3
              try clear hfz17_4
              try clear hfz21_0
              try clear hfz21_1
              try clear hfz21_2
              try clear hfz21_3
              try clear hfz21_4
              try clear hfz7_0
              try clear hfz7_1
              try clear hfz7_2
              try clear hfz7_3
              try clear hfz7_4
              try clear p2
              try clear p24
              try clear p26
              try clear q24
              try clear q26
              obtain ⟨kq, x8_18, rfl, HA, HJ18, BK116, BK117, HB⟩ := hcut
              cases kq with
              | zero => exact absurd HA.out (by simp [a1_Parse.j3])
              | succ kj18 =>
                have H := HA.out
                clear HA
                simp only [a1_Parse.j3] at H
                by_cases c28 : 0 ≤ x8_18
                · rw [if_pos c28] at H
                  have c28b0 := eq_true c28
                  have c28b1 : decide (0 ≤ x8_18) = true := decide_eq_true c28
                  clear c28
                  by_cases c29 : x8_18 ≤ (t122.size : Int)
                  · rw [if_pos c29] at H
                    have c29b0 := eq_true c29
                    have c29b1 : decide (x8_18 ≤ (t122.size : Int)) = true := decide_eq_true c29
                    clear c29
                    replace H := Option.bind_eq_some_iff.mp H
                    obtain ⟨⟨t124, t125⟩, A300, H⟩ := H
                    replace H : ((a1_mark.f (t122.extract (x8_18 : Int).toNat t122.size)).bind fun bt126 => ((a1_number.f bt126.1 2199023255552).bind fun t128 => (if t125 = true then (if t128 < 1 then (some ((⟨#[]⟩ : ByteArray), 0, 0, false, false, false)) else (some (x118000_13, wrap64 (t128 - 1), t124, bt126.2, t123, true))) else (some ((⟨#[]⟩ : ByteArray), 0, 0, false, false, false))))) = some (r1, r2, r3, r4, r5, r6) := H
                    have A30 := Aside0.mk A300
                    clear A300
                    have c31b0 := eq_true (of_decide_eq_true (by first | (with_reducible assumption) | assumption) : 0 ≤ x8_18)
                    have c32b0 := eq_true (of_decide_eq_true (by first | (with_reducible assumption) | assumption) : x8_18 ≤ (t122.size : Int))
                    replace H := Option.bind_eq_some_iff.mp H
                    obtain ⟨⟨t126, t127⟩, A330, H⟩ := H
                    replace H : ((a1_number.f t126 2199023255552).bind fun t128 => (if t125 = true then (if t128 < 1 then (some ((⟨#[]⟩ : ByteArray), 0, 0, false, false, false)) else (some (x118000_13, wrap64 (t128 - 1), t124, t127, t123, true))) else (some ((⟨#[]⟩ : ByteArray), 0, 0, false, false, false)))) = some (r1, r2, r3, r4, r5, r6) := H
                    have A33 := Aside0.mk A330
                    clear A330
                    replace H := Option.bind_eq_some_iff.mp H
                    obtain ⟨t128, A340, H⟩ := H
                    replace H : (if t125 = true then (if t128 < 1 then (some ((⟨#[]⟩ : ByteArray), 0, 0, false, false, false)) else (some (x118000_13, wrap64 (t128 - 1), t124, t127, t123, true))) else (some ((⟨#[]⟩ : ByteArray), 0, 0, false, false, false))) = some (r1, r2, r3, r4, r5, r6) := H
                    have A34 := Aside0.mk A340
                    clear A340
                    by_cases c35 : t125 = true
                    · subst c35
                      have H1 : (if t128 < 1 then (some ((⟨#[]⟩ : ByteArray), 0, 0, false, false, false)) else (some (x118000_13, wrap64 (t128 - 1), t124, t127, t123, true))) = some (r1, r2, r3, r4, r5, r6) := by rw [if_pos rfl] at H; exact H
                      clear H
                      have H := H1
                      clear H1
                      by_cases c36 : t128 < 1
                      · rw [if_pos c36] at H
                        have c36b0 : decide (t128 < 1) = true := decide_eq_true c36
                        clear c36
                        simp only [Option.some.injEq, Prod.mk.injEq] at H
                        obtain ⟨rfl, rfl, rfl, rfl, rfl, rfl⟩ := H
                        go_wp2_with (first | ((with_reducible refine gate_callee (f := 11) rfl ?_); refine goesL_ (some 58) rfl rfl Tryd.func11 (by kernel_rfl) rfl #[.string (t122.extract 0 (x8_18 : Int).toNat)] rfl (by (try simp only [List.map_toArray, List.map_cons, List.map_nil]); first | done | rfl | (simp only [List.length_drop, List.length_take]; rfl)) ?_; (with_reducible refine (a1_Col.calls kj18 (t122.extract 0 (x8_18 : Int).toNat) t124 true _ A30.out).mono ?_); rintro e w' ⟨rfl, ⟨nd, rfl⟩⟩; refine ⟨_, rfl, ?_⟩; (try (rw [drewN_self wc]; generalize hq_ : World.drewN wc _ = wc; have n0_ : Aside0 (wc.heap[gb116]? = some (.cells #[.string (⟨#[]⟩ : ByteArray), .int .i64 0, .int .i64 0, .bool false, .bool false] 25 (0, 0))) := ⟨by rw [← hq_]; exact (by (with_reducible repeat (first | refine blk_drewN ?_ _ | refine blk_drew ?_ | refine blk_alloc ?_ _)); exact BK116.out)⟩; have n1_ : Aside0 (wc.heap[gb117]? = some (.cells #[.string x118000_13, .int .i64 0, .int .i64 0, .bool false, .bool t123] 25 (0, 0))) := ⟨by rw [← hq_]; exact (by (with_reducible repeat (first | refine blk_drewN ?_ _ | refine blk_drew ?_ | refine blk_alloc ?_ _)); exact BK117.out)⟩; have n2_ : Aside0 (Below w.heap.size w wc) := ⟨by rw [← hq_]; exact (by repeat (first | (with_reducible first | exact HB.out | apply below_alloc | apply pw_below_drewN | apply below_drew1 | refine below_set ?_ GE116.out | refine below_set ?_ GE117.out) | exact HB.out))⟩; clear BK116 BK117 HB hq_; have BK116 := n0_; have BK117 := n1_; have HB := n2_; clear n0_ n1_ n2_))) | ((with_reducible refine gate_callee (f := 26) rfl ?_); refine goesL_ (some 65) rfl rfl Tryd.func26 (by kernel_rfl) rfl #[.string (t122.extract (x8_18 : Int).toNat t122.size)] rfl (by (try simp only [List.map_toArray, List.map_cons, List.map_nil]); first | done | rfl | (simp only [List.length_drop, List.length_take]; rfl)) ?_; (with_reducible refine (a1_mark.calls (t122.extract (x8_18 : Int).toNat t122.size) t126 t127 _ A33.out).mono ?_); rintro e w' ⟨rfl, ⟨nd, rfl⟩⟩; refine ⟨_, rfl, ?_⟩; (try (rw [drewN_self wc]; generalize hq_ : World.drewN wc _ = wc; have n0_ : Aside0 (wc.heap[gb116]? = some (.cells #[.string (⟨#[]⟩ : ByteArray), .int .i64 0, .int .i64 0, .bool false, .bool false] 25 (0, 0))) := ⟨by rw [← hq_]; exact (by (with_reducible repeat (first | refine blk_drewN ?_ _ | refine blk_drew ?_ | refine blk_alloc ?_ _)); exact BK116.out)⟩; have n1_ : Aside0 (wc.heap[gb117]? = some (.cells #[.string x118000_13, .int .i64 0, .int .i64 0, .bool false, .bool t123] 25 (0, 0))) := ⟨by rw [← hq_]; exact (by (with_reducible repeat (first | refine blk_drewN ?_ _ | refine blk_drew ?_ | refine blk_alloc ?_ _)); exact BK117.out)⟩; have n2_ : Aside0 (Below w.heap.size w wc) := ⟨by rw [← hq_]; exact (by repeat (first | (with_reducible first | exact HB.out | apply below_alloc | apply pw_below_drewN | apply below_drew1 | refine below_set ?_ GE116.out | refine below_set ?_ GE117.out) | exact HB.out))⟩; clear BK116 BK117 HB hq_; have BK116 := n0_; have BK117 := n1_; have HB := n2_; clear n0_ n1_ n2_)); have hnb37 := NB117_116.out; have hnc37 := NB116_117.out; have hcz38_0 : wc.cell? ⟨gb117, 0, none⟩ = some (.string x118000_13) := (blk_cell BK117.out 0).trans rfl; have hcz38_1 : wc.cell? ⟨gb117, 1, none⟩ = some (.int .i64 0) := (blk_cell BK117.out 1).trans rfl; have hcz38_2 : wc.cell? ⟨gb117, 2, none⟩ = some (.int .i64 0) := (blk_cell BK117.out 2).trans rfl; have hcz38_3 : wc.cell? ⟨gb117, 3, none⟩ = some (.bool false) := (blk_cell BK117.out 3).trans rfl; have hcz38_4 : wc.cell? ⟨gb117, 4, none⟩ = some (.bool t123) := (blk_cell BK117.out 4).trans rfl; have hfz38_0 := blk_frozen BK117.out 0; have hfz38_1 := blk_frozen BK117.out 1; have hfz38_2 := blk_frozen BK117.out 2; have hfz38_3 := blk_frozen BK117.out 3; have hfz38_4 := blk_frozen BK117.out 4) | ((with_reducible refine gate_callee (f := 27) rfl ?_); refine goesL_ (some 70) rfl rfl Tryd.func27 (by kernel_rfl) rfl #[.string t126, .int .i64 2199023255552] rfl (by (try simp only [List.map_toArray, List.map_cons, List.map_nil]); first | done | rfl | (simp only [List.length_drop, List.length_take]; rfl)) ?_; (with_reducible refine (a1_number.calls (hL := ⟨by first | exact hL.out | (refine hL.out.drawn ?_; (repeat (first | exact Drawn0.refl _ | apply Drawn0.step)); done) | (refine hL.out.below ?_; (repeat (first | (with_reducible first | exact HB.out | apply below_alloc | apply pw_below_drewN | apply below_drew1 | refine below_set ?_ GE116.out | refine below_set ?_ GE117.out) | exact HB.out)); done)⟩) t126 2199023255552 t128 _ A34.out).mono ?_); rintro e w39 ⟨rfl, hb⟩; refine ⟨_, rfl, ?_⟩; have n0_ := Aside0.mk (blk_below (g := gb116) (o := .cells #[.string (⟨#[]⟩ : ByteArray), .int .i64 0, .int .i64 0, .bool false, .bool false] 25 (0, 0)) (by (with_reducible repeat (first | refine blk_drewN ?_ _ | refine blk_drew ?_ | refine blk_alloc ?_ _)); refine blk_far ?_ NB116_117.out _; (with_reducible repeat (first | refine blk_drewN ?_ _ | refine blk_drew ?_ | refine blk_alloc ?_ _)); exact BK116.out) hb); have n1_ := Aside0.mk (blk_below (g := gb117) (o := .cells #[.string x118000_13, .int .i64 0, .int .i64 0, .bool t127, .bool t123] 25 (0, 0)) (by (with_reducible repeat (first | refine blk_drewN ?_ _ | refine blk_drew ?_ | refine blk_alloc ?_ _)); refine blk_put (cs := #[.string x118000_13, .int .i64 0, .int .i64 0, .bool false, .bool t123]) ?_ 3 _ rfl; (with_reducible repeat (first | refine blk_drewN ?_ _ | refine blk_drew ?_ | refine blk_alloc ?_ _)); exact BK117.out) hb); have n2_ := Aside0.mk (below_step (by repeat (first | (with_reducible first | exact HB.out | apply below_alloc | apply pw_below_drewN | apply below_drew1 | refine below_set ?_ GE116.out | refine below_set ?_ GE117.out) | exact HB.out)) hb); clear BK116; clear BK117; clear HB; have BK116 := n0_; have BK117 := n1_; have HB := n2_; clear n0_ n1_ n2_; (try clear hb); (try clear hb2); (try clear hk); (try clear hi); have hcz40_0 : w39.cell? ⟨gb116, 0, none⟩ = some (.string (⟨#[]⟩ : ByteArray)) := (blk_cell BK116.out 0).trans rfl; have hcz40_1 : w39.cell? ⟨gb116, 1, none⟩ = some (.int .i64 0) := (blk_cell BK116.out 1).trans rfl; have hcz40_2 : w39.cell? ⟨gb116, 2, none⟩ = some (.int .i64 0) := (blk_cell BK116.out 2).trans rfl; have hcz40_3 : w39.cell? ⟨gb116, 3, none⟩ = some (.bool false) := (blk_cell BK116.out 3).trans rfl; have hcz40_4 : w39.cell? ⟨gb116, 4, none⟩ = some (.bool false) := (blk_cell BK116.out 4).trans rfl; have hfz40_0 := blk_frozen BK116.out 0; have hfz40_1 := blk_frozen BK116.out 1; have hfz40_2 := blk_frozen BK116.out 2; have hfz40_3 := blk_frozen BK116.out 3; have hfz40_4 := blk_frozen BK116.out 4))
                        refine bodyPost_ret (results_ct rfl _ _ gb116 25 #[.string (⟨#[]⟩ : ByteArray), .int .i64 0, .int .i64 0, .bool false, .bool false] (0, 0) _ rfl (by (with_reducible repeat (first | refine blk_drewN ?_ _ | refine blk_drew ?_ | refine blk_alloc ?_ _)); refine blk_put (cs := #[.string (⟨#[]⟩ : ByteArray), .int .i64 0, .int .i64 0, .bool false, .bool false]) ?_ 4 _ rfl; (with_reducible repeat (first | refine blk_drewN ?_ _ | refine blk_drew ?_ | refine blk_alloc ?_ _)); refine blk_put (cs := #[.string (⟨#[]⟩ : ByteArray), .int .i64 0, .int .i64 0, .bool false, .bool false]) ?_ 3 _ rfl; (with_reducible repeat (first | refine blk_drewN ?_ _ | refine blk_drew ?_ | refine blk_alloc ?_ _)); refine blk_put (cs := #[.string (⟨#[]⟩ : ByteArray), .int .i64 0, .int .i64 0, .bool false, .bool false]) ?_ 2 _ rfl; (with_reducible repeat (first | refine blk_drewN ?_ _ | refine blk_drew ?_ | refine blk_alloc ?_ _)); refine blk_put (cs := #[.string (⟨#[]⟩ : ByteArray), .int .i64 0, .int .i64 0, .bool false, .bool false]) ?_ 1 _ rfl; (with_reducible repeat (first | refine blk_drewN ?_ _ | refine blk_drew ?_ | refine blk_alloc ?_ _)); refine blk_put (cs := #[.string (⟨#[]⟩ : ByteArray), .int .i64 0, .int .i64 0, .bool false, .bool false]) ?_ 0 _ rfl; (with_reducible repeat (first | refine blk_drewN ?_ _ | refine blk_drew ?_ | refine blk_alloc ?_ _)); exact BK116.out) Tryd.underlying25 rfl (by kernel_rfl)) rfl ?_
                        exact ⟨by first | rfl | (simp [errW_none, errW_some] <;> rfl) | (simp [*, errW_none, errW_some] <;> rfl), by repeat (first | (with_reducible first | exact HB.out | apply below_alloc | apply pw_below_drewN | apply below_drew1 | refine below_set ?_ GE116.out | refine below_set ?_ GE117.out) | exact HB.out)⟩
                      · rw [if_neg c36] at H
                        have c36b0 : decide (t128 < 1) = false := decide_eq_false c36
                        clear c36
                        simp only [Option.some.injEq, Prod.mk.injEq] at H
                        obtain ⟨rfl, rfl, rfl, rfl, rfl, rfl⟩ := H
                        go_wp2_with (first | ((with_reducible refine gate_callee (f := 11) rfl ?_); refine goesL_ (some 58) rfl rfl Tryd.func11 (by kernel_rfl) rfl #[.string (t122.extract 0 (x8_18 : Int).toNat)] rfl (by (try simp only [List.map_toArray, List.map_cons, List.map_nil]); first | done | rfl | (simp only [List.length_drop, List.length_take]; rfl)) ?_; (with_reducible refine (a1_Col.calls kj18 (t122.extract 0 (x8_18 : Int).toNat) t124 true _ A30.out).mono ?_); rintro e w' ⟨rfl, ⟨nd, rfl⟩⟩; refine ⟨_, rfl, ?_⟩; (try (rw [drewN_self wc]; generalize hq_ : World.drewN wc _ = wc; have n0_ : Aside0 (wc.heap[gb116]? = some (.cells #[.string (⟨#[]⟩ : ByteArray), .int .i64 0, .int .i64 0, .bool false, .bool false] 25 (0, 0))) := ⟨by rw [← hq_]; exact (by (with_reducible repeat (first | refine blk_drewN ?_ _ | refine blk_drew ?_ | refine blk_alloc ?_ _)); exact BK116.out)⟩; have n1_ : Aside0 (wc.heap[gb117]? = some (.cells #[.string x118000_13, .int .i64 0, .int .i64 0, .bool false, .bool t123] 25 (0, 0))) := ⟨by rw [← hq_]; exact (by (with_reducible repeat (first | refine blk_drewN ?_ _ | refine blk_drew ?_ | refine blk_alloc ?_ _)); exact BK117.out)⟩; have n2_ : Aside0 (Below w.heap.size w wc) := ⟨by rw [← hq_]; exact (by repeat (first | (with_reducible first | exact HB.out | apply below_alloc | apply pw_below_drewN | apply below_drew1 | refine below_set ?_ GE116.out | refine below_set ?_ GE117.out) | exact HB.out))⟩; clear BK116 BK117 HB hq_; have BK116 := n0_; have BK117 := n1_; have HB := n2_; clear n0_ n1_ n2_))) | ((with_reducible refine gate_callee (f := 26) rfl ?_); refine goesL_ (some 65) rfl rfl Tryd.func26 (by kernel_rfl) rfl #[.string (t122.extract (x8_18 : Int).toNat t122.size)] rfl (by (try simp only [List.map_toArray, List.map_cons, List.map_nil]); first | done | rfl | (simp only [List.length_drop, List.length_take]; rfl)) ?_; (with_reducible refine (a1_mark.calls (t122.extract (x8_18 : Int).toNat t122.size) t126 t127 _ A33.out).mono ?_); rintro e w' ⟨rfl, ⟨nd, rfl⟩⟩; refine ⟨_, rfl, ?_⟩; (try (rw [drewN_self wc]; generalize hq_ : World.drewN wc _ = wc; have n0_ : Aside0 (wc.heap[gb116]? = some (.cells #[.string (⟨#[]⟩ : ByteArray), .int .i64 0, .int .i64 0, .bool false, .bool false] 25 (0, 0))) := ⟨by rw [← hq_]; exact (by (with_reducible repeat (first | refine blk_drewN ?_ _ | refine blk_drew ?_ | refine blk_alloc ?_ _)); exact BK116.out)⟩; have n1_ : Aside0 (wc.heap[gb117]? = some (.cells #[.string x118000_13, .int .i64 0, .int .i64 0, .bool false, .bool t123] 25 (0, 0))) := ⟨by rw [← hq_]; exact (by (with_reducible repeat (first | refine blk_drewN ?_ _ | refine blk_drew ?_ | refine blk_alloc ?_ _)); exact BK117.out)⟩; have n2_ : Aside0 (Below w.heap.size w wc) := ⟨by rw [← hq_]; exact (by repeat (first | (with_reducible first | exact HB.out | apply below_alloc | apply pw_below_drewN | apply below_drew1 | refine below_set ?_ GE116.out | refine below_set ?_ GE117.out) | exact HB.out))⟩; clear BK116 BK117 HB hq_; have BK116 := n0_; have BK117 := n1_; have HB := n2_; clear n0_ n1_ n2_)); have hnb41 := NB117_116.out; have hnc41 := NB116_117.out; have hcz42_0 : wc.cell? ⟨gb117, 0, none⟩ = some (.string x118000_13) := (blk_cell BK117.out 0).trans rfl; have hcz42_1 : wc.cell? ⟨gb117, 1, none⟩ = some (.int .i64 0) := (blk_cell BK117.out 1).trans rfl; have hcz42_2 : wc.cell? ⟨gb117, 2, none⟩ = some (.int .i64 0) := (blk_cell BK117.out 2).trans rfl; have hcz42_3 : wc.cell? ⟨gb117, 3, none⟩ = some (.bool false) := (blk_cell BK117.out 3).trans rfl; have hcz42_4 : wc.cell? ⟨gb117, 4, none⟩ = some (.bool t123) := (blk_cell BK117.out 4).trans rfl; have hfz42_0 := blk_frozen BK117.out 0; have hfz42_1 := blk_frozen BK117.out 1; have hfz42_2 := blk_frozen BK117.out 2; have hfz42_3 := blk_frozen BK117.out 3; have hfz42_4 := blk_frozen BK117.out 4) | ((with_reducible refine gate_callee (f := 27) rfl ?_); refine goesL_ (some 70) rfl rfl Tryd.func27 (by kernel_rfl) rfl #[.string t126, .int .i64 2199023255552] rfl (by (try simp only [List.map_toArray, List.map_cons, List.map_nil]); first | done | rfl | (simp only [List.length_drop, List.length_take]; rfl)) ?_; (with_reducible refine (a1_number.calls (hL := ⟨by first | exact hL.out | (refine hL.out.drawn ?_; (repeat (first | exact Drawn0.refl _ | apply Drawn0.step)); done) | (refine hL.out.below ?_; (repeat (first | (with_reducible first | exact HB.out | apply below_alloc | apply pw_below_drewN | apply below_drew1 | refine below_set ?_ GE116.out | refine below_set ?_ GE117.out) | exact HB.out)); done)⟩) t126 2199023255552 t128 _ A34.out).mono ?_); rintro e w43 ⟨rfl, hb⟩; refine ⟨_, rfl, ?_⟩; have n0_ := Aside0.mk (blk_below (g := gb116) (o := .cells #[.string (⟨#[]⟩ : ByteArray), .int .i64 0, .int .i64 0, .bool false, .bool false] 25 (0, 0)) (by (with_reducible repeat (first | refine blk_drewN ?_ _ | refine blk_drew ?_ | refine blk_alloc ?_ _)); refine blk_far ?_ NB116_117.out _; (with_reducible repeat (first | refine blk_drewN ?_ _ | refine blk_drew ?_ | refine blk_alloc ?_ _)); exact BK116.out) hb); have n1_ := Aside0.mk (blk_below (g := gb117) (o := .cells #[.string x118000_13, .int .i64 0, .int .i64 0, .bool t127, .bool t123] 25 (0, 0)) (by (with_reducible repeat (first | refine blk_drewN ?_ _ | refine blk_drew ?_ | refine blk_alloc ?_ _)); refine blk_put (cs := #[.string x118000_13, .int .i64 0, .int .i64 0, .bool false, .bool t123]) ?_ 3 _ rfl; (with_reducible repeat (first | refine blk_drewN ?_ _ | refine blk_drew ?_ | refine blk_alloc ?_ _)); exact BK117.out) hb); have n2_ := Aside0.mk (below_step (by repeat (first | (with_reducible first | exact HB.out | apply below_alloc | apply pw_below_drewN | apply below_drew1 | refine below_set ?_ GE116.out | refine below_set ?_ GE117.out) | exact HB.out)) hb); clear BK116; clear BK117; clear HB; have BK116 := n0_; have BK117 := n1_; have HB := n2_; clear n0_ n1_ n2_; (try clear hb); (try clear hb2); (try clear hk); (try clear hi); have hcz44_0 : w43.cell? ⟨gb117, 0, none⟩ = some (.string x118000_13) := (blk_cell BK117.out 0).trans rfl; have hcz44_1 : w43.cell? ⟨gb117, 1, none⟩ = some (.int .i64 0) := (blk_cell BK117.out 1).trans rfl; have hcz44_2 : w43.cell? ⟨gb117, 2, none⟩ = some (.int .i64 0) := (blk_cell BK117.out 2).trans rfl; have hcz44_3 : w43.cell? ⟨gb117, 3, none⟩ = some (.bool t127) := (blk_cell BK117.out 3).trans rfl; have hcz44_4 : w43.cell? ⟨gb117, 4, none⟩ = some (.bool t123) := (blk_cell BK117.out 4).trans rfl; have hfz44_0 := blk_frozen BK117.out 0; have hfz44_1 := blk_frozen BK117.out 1; have hfz44_2 := blk_frozen BK117.out 2; have hfz44_3 := blk_frozen BK117.out 3; have hfz44_4 := blk_frozen BK117.out 4; have hcz45_0 : w43.cell? ⟨gb116, 0, none⟩ = some (.string (⟨#[]⟩ : ByteArray)) := (blk_cell BK116.out 0).trans rfl; have hcz45_1 : w43.cell? ⟨gb116, 1, none⟩ = some (.int .i64 0) := (blk_cell BK116.out 1).trans rfl; have hcz45_2 : w43.cell? ⟨gb116, 2, none⟩ = some (.int .i64 0) := (blk_cell BK116.out 2).trans rfl; have hcz45_3 : w43.cell? ⟨gb116, 3, none⟩ = some (.bool false) := (blk_cell BK116.out 3).trans rfl; have hcz45_4 : w43.cell? ⟨gb116, 4, none⟩ = some (.bool false) := (blk_cell BK116.out 4).trans rfl; have hfz45_0 := blk_frozen BK116.out 0; have hfz45_1 := blk_frozen BK116.out 1; have hfz45_2 := blk_frozen BK116.out 2; have hfz45_3 := blk_frozen BK116.out 3; have hfz45_4 := blk_frozen BK116.out 4))
                        refine bodyPost_ret (results_ct rfl _ _ gb116 25 #[.string x118000_13, .int .i64 (wrap64 (t128 - 1)), .int .i64 t124, .bool t127, .bool t123] (0, 0) _ rfl (by (with_reducible repeat (first | refine blk_drewN ?_ _ | refine blk_drew ?_ | refine blk_alloc ?_ _)); refine blk_put (cs := #[.string x118000_13, .int .i64 (wrap64 (t128 - 1)), .int .i64 t124, .bool t127, .bool false]) ?_ 4 _ rfl; (with_reducible repeat (first | refine blk_drewN ?_ _ | refine blk_drew ?_ | refine blk_alloc ?_ _)); refine blk_put (cs := #[.string x118000_13, .int .i64 (wrap64 (t128 - 1)), .int .i64 t124, .bool false, .bool false]) ?_ 3 _ rfl; (with_reducible repeat (first | refine blk_drewN ?_ _ | refine blk_drew ?_ | refine blk_alloc ?_ _)); refine blk_put (cs := #[.string x118000_13, .int .i64 (wrap64 (t128 - 1)), .int .i64 0, .bool false, .bool false]) ?_ 2 _ rfl; (with_reducible repeat (first | refine blk_drewN ?_ _ | refine blk_drew ?_ | refine blk_alloc ?_ _)); refine blk_put (cs := #[.string x118000_13, .int .i64 0, .int .i64 0, .bool false, .bool false]) ?_ 1 _ rfl; (with_reducible repeat (first | refine blk_drewN ?_ _ | refine blk_drew ?_ | refine blk_alloc ?_ _)); refine blk_put (cs := #[.string (⟨#[]⟩ : ByteArray), .int .i64 0, .int .i64 0, .bool false, .bool false]) ?_ 0 _ rfl; (with_reducible repeat (first | refine blk_drewN ?_ _ | refine blk_drew ?_ | refine blk_alloc ?_ _)); refine blk_far ?_ NB116_117.out _; (with_reducible repeat (first | refine blk_drewN ?_ _ | refine blk_drew ?_ | refine blk_alloc ?_ _)); refine blk_far ?_ NB116_117.out _; (with_reducible repeat (first | refine blk_drewN ?_ _ | refine blk_drew ?_ | refine blk_alloc ?_ _)); exact BK116.out) Tryd.underlying25 rfl (by kernel_rfl)) rfl ?_
                        exact ⟨by first | rfl | (simp [errW_none, errW_some] <;> rfl) | (simp [*, errW_none, errW_some] <;> rfl), by repeat (first | (with_reducible first | exact HB.out | apply below_alloc | apply pw_below_drewN | apply below_drew1 | refine below_set ?_ GE116.out | refine below_set ?_ GE117.out) | exact HB.out)⟩
                    · replace c35 := Bool.eq_false_iff.mpr c35
                      subst c35
                      have H1 : (some ((⟨#[]⟩ : ByteArray), 0, 0, false, false, false)) = some (r1, r2, r3, r4, r5, r6) := by rw [if_neg (show ¬ (false = true) by decide)] at H; exact H
                      clear H
                      have H := H1
                      clear H1
                      simp only [Option.some.injEq, Prod.mk.injEq] at H
                      obtain ⟨rfl, rfl, rfl, rfl, rfl, rfl⟩ := H
                      go_wp2_with (first | ((with_reducible refine gate_callee (f := 11) rfl ?_); refine goesL_ (some 58) rfl rfl Tryd.func11 (by kernel_rfl) rfl #[.string (t122.extract 0 (x8_18 : Int).toNat)] rfl (by (try simp only [List.map_toArray, List.map_cons, List.map_nil]); first | done | rfl | (simp only [List.length_drop, List.length_take]; rfl)) ?_; (with_reducible refine (a1_Col.calls kj18 (t122.extract 0 (x8_18 : Int).toNat) t124 false _ A30.out).mono ?_); rintro e w' ⟨rfl, ⟨nd, rfl⟩⟩; refine ⟨_, rfl, ?_⟩; (try (rw [drewN_self wc]; generalize hq_ : World.drewN wc _ = wc; have n0_ : Aside0 (wc.heap[gb116]? = some (.cells #[.string (⟨#[]⟩ : ByteArray), .int .i64 0, .int .i64 0, .bool false, .bool false] 25 (0, 0))) := ⟨by rw [← hq_]; exact (by (with_reducible repeat (first | refine blk_drewN ?_ _ | refine blk_drew ?_ | refine blk_alloc ?_ _)); exact BK116.out)⟩; have n1_ : Aside0 (wc.heap[gb117]? = some (.cells #[.string x118000_13, .int .i64 0, .int .i64 0, .bool false, .bool t123] 25 (0, 0))) := ⟨by rw [← hq_]; exact (by (with_reducible repeat (first | refine blk_drewN ?_ _ | refine blk_drew ?_ | refine blk_alloc ?_ _)); exact BK117.out)⟩; have n2_ : Aside0 (Below w.heap.size w wc) := ⟨by rw [← hq_]; exact (by repeat (first | (with_reducible first | exact HB.out | apply below_alloc | apply pw_below_drewN | apply below_drew1 | refine below_set ?_ GE116.out | refine below_set ?_ GE117.out) | exact HB.out))⟩; clear BK116 BK117 HB hq_; have BK116 := n0_; have BK117 := n1_; have HB := n2_; clear n0_ n1_ n2_))) | ((with_reducible refine gate_callee (f := 26) rfl ?_); refine goesL_ (some 65) rfl rfl Tryd.func26 (by kernel_rfl) rfl #[.string (t122.extract (x8_18 : Int).toNat t122.size)] rfl (by (try simp only [List.map_toArray, List.map_cons, List.map_nil]); first | done | rfl | (simp only [List.length_drop, List.length_take]; rfl)) ?_; (with_reducible refine (a1_mark.calls (t122.extract (x8_18 : Int).toNat t122.size) t126 t127 _ A33.out).mono ?_); rintro e w' ⟨rfl, ⟨nd, rfl⟩⟩; refine ⟨_, rfl, ?_⟩; (try (rw [drewN_self wc]; generalize hq_ : World.drewN wc _ = wc; have n0_ : Aside0 (wc.heap[gb116]? = some (.cells #[.string (⟨#[]⟩ : ByteArray), .int .i64 0, .int .i64 0, .bool false, .bool false] 25 (0, 0))) := ⟨by rw [← hq_]; exact (by (with_reducible repeat (first | refine blk_drewN ?_ _ | refine blk_drew ?_ | refine blk_alloc ?_ _)); exact BK116.out)⟩; have n1_ : Aside0 (wc.heap[gb117]? = some (.cells #[.string x118000_13, .int .i64 0, .int .i64 0, .bool false, .bool t123] 25 (0, 0))) := ⟨by rw [← hq_]; exact (by (with_reducible repeat (first | refine blk_drewN ?_ _ | refine blk_drew ?_ | refine blk_alloc ?_ _)); exact BK117.out)⟩; have n2_ : Aside0 (Below w.heap.size w wc) := ⟨by rw [← hq_]; exact (by repeat (first | (with_reducible first | exact HB.out | apply below_alloc | apply pw_below_drewN | apply below_drew1 | refine below_set ?_ GE116.out | refine below_set ?_ GE117.out) | exact HB.out))⟩; clear BK116 BK117 HB hq_; have BK116 := n0_; have BK117 := n1_; have HB := n2_; clear n0_ n1_ n2_)); have hnb46 := NB117_116.out; have hnc46 := NB116_117.out; have hcz47_0 : wc.cell? ⟨gb117, 0, none⟩ = some (.string x118000_13) := (blk_cell BK117.out 0).trans rfl; have hcz47_1 : wc.cell? ⟨gb117, 1, none⟩ = some (.int .i64 0) := (blk_cell BK117.out 1).trans rfl; have hcz47_2 : wc.cell? ⟨gb117, 2, none⟩ = some (.int .i64 0) := (blk_cell BK117.out 2).trans rfl; have hcz47_3 : wc.cell? ⟨gb117, 3, none⟩ = some (.bool false) := (blk_cell BK117.out 3).trans rfl; have hcz47_4 : wc.cell? ⟨gb117, 4, none⟩ = some (.bool t123) := (blk_cell BK117.out 4).trans rfl; have hfz47_0 := blk_frozen BK117.out 0; have hfz47_1 := blk_frozen BK117.out 1; have hfz47_2 := blk_frozen BK117.out 2; have hfz47_3 := blk_frozen BK117.out 3; have hfz47_4 := blk_frozen BK117.out 4) | ((with_reducible refine gate_callee (f := 27) rfl ?_); refine goesL_ (some 70) rfl rfl Tryd.func27 (by kernel_rfl) rfl #[.string t126, .int .i64 2199023255552] rfl (by (try simp only [List.map_toArray, List.map_cons, List.map_nil]); first | done | rfl | (simp only [List.length_drop, List.length_take]; rfl)) ?_; (with_reducible refine (a1_number.calls (hL := ⟨by first | exact hL.out | (refine hL.out.drawn ?_; (repeat (first | exact Drawn0.refl _ | apply Drawn0.step)); done) | (refine hL.out.below ?_; (repeat (first | (with_reducible first | exact HB.out | apply below_alloc | apply pw_below_drewN | apply below_drew1 | refine below_set ?_ GE116.out | refine below_set ?_ GE117.out) | exact HB.out)); done)⟩) t126 2199023255552 t128 _ A34.out).mono ?_); rintro e w48 ⟨rfl, hb⟩; refine ⟨_, rfl, ?_⟩; have n0_ := Aside0.mk (blk_below (g := gb116) (o := .cells #[.string (⟨#[]⟩ : ByteArray), .int .i64 0, .int .i64 0, .bool false, .bool false] 25 (0, 0)) (by (with_reducible repeat (first | refine blk_drewN ?_ _ | refine blk_drew ?_ | refine blk_alloc ?_ _)); refine blk_far ?_ NB116_117.out _; (with_reducible repeat (first | refine blk_drewN ?_ _ | refine blk_drew ?_ | refine blk_alloc ?_ _)); exact BK116.out) hb); have n1_ := Aside0.mk (blk_below (g := gb117) (o := .cells #[.string x118000_13, .int .i64 0, .int .i64 0, .bool t127, .bool t123] 25 (0, 0)) (by (with_reducible repeat (first | refine blk_drewN ?_ _ | refine blk_drew ?_ | refine blk_alloc ?_ _)); refine blk_put (cs := #[.string x118000_13, .int .i64 0, .int .i64 0, .bool false, .bool t123]) ?_ 3 _ rfl; (with_reducible repeat (first | refine blk_drewN ?_ _ | refine blk_drew ?_ | refine blk_alloc ?_ _)); exact BK117.out) hb); have n2_ := Aside0.mk (below_step (by repeat (first | (with_reducible first | exact HB.out | apply below_alloc | apply pw_below_drewN | apply below_drew1 | refine below_set ?_ GE116.out | refine below_set ?_ GE117.out) | exact HB.out)) hb); clear BK116; clear BK117; clear HB; have BK116 := n0_; have BK117 := n1_; have HB := n2_; clear n0_ n1_ n2_; (try clear hb); (try clear hb2); (try clear hk); (try clear hi); have hcz49_0 : w48.cell? ⟨gb116, 0, none⟩ = some (.string (⟨#[]⟩ : ByteArray)) := (blk_cell BK116.out 0).trans rfl; have hcz49_1 : w48.cell? ⟨gb116, 1, none⟩ = some (.int .i64 0) := (blk_cell BK116.out 1).trans rfl; have hcz49_2 : w48.cell? ⟨gb116, 2, none⟩ = some (.int .i64 0) := (blk_cell BK116.out 2).trans rfl; have hcz49_3 : w48.cell? ⟨gb116, 3, none⟩ = some (.bool false) := (blk_cell BK116.out 3).trans rfl; have hcz49_4 : w48.cell? ⟨gb116, 4, none⟩ = some (.bool false) := (blk_cell BK116.out 4).trans rfl; have hfz49_0 := blk_frozen BK116.out 0; have hfz49_1 := blk_frozen BK116.out 1; have hfz49_2 := blk_frozen BK116.out 2; have hfz49_3 := blk_frozen BK116.out 3; have hfz49_4 := blk_frozen BK116.out 4))
                      refine bodyPost_ret (results_ct rfl _ _ gb116 25 #[.string (⟨#[]⟩ : ByteArray), .int .i64 0, .int .i64 0, .bool false, .bool false] (0, 0) _ rfl (by (with_reducible repeat (first | refine blk_drewN ?_ _ | refine blk_drew ?_ | refine blk_alloc ?_ _)); refine blk_put (cs := #[.string (⟨#[]⟩ : ByteArray), .int .i64 0, .int .i64 0, .bool false, .bool false]) ?_ 4 _ rfl; (with_reducible repeat (first | refine blk_drewN ?_ _ | refine blk_drew ?_ | refine blk_alloc ?_ _)); refine blk_put (cs := #[.string (⟨#[]⟩ : ByteArray), .int .i64 0, .int .i64 0, .bool false, .bool false]) ?_ 3 _ rfl; (with_reducible repeat (first | refine blk_drewN ?_ _ | refine blk_drew ?_ | refine blk_alloc ?_ _)); refine blk_put (cs := #[.string (⟨#[]⟩ : ByteArray), .int .i64 0, .int .i64 0, .bool false, .bool false]) ?_ 2 _ rfl; (with_reducible repeat (first | refine blk_drewN ?_ _ | refine blk_drew ?_ | refine blk_alloc ?_ _)); refine blk_put (cs := #[.string (⟨#[]⟩ : ByteArray), .int .i64 0, .int .i64 0, .bool false, .bool false]) ?_ 1 _ rfl; (with_reducible repeat (first | refine blk_drewN ?_ _ | refine blk_drew ?_ | refine blk_alloc ?_ _)); refine blk_put (cs := #[.string (⟨#[]⟩ : ByteArray), .int .i64 0, .int .i64 0, .bool false, .bool false]) ?_ 0 _ rfl; (with_reducible repeat (first | refine blk_drewN ?_ _ | refine blk_drew ?_ | refine blk_alloc ?_ _)); exact BK116.out) Tryd.underlying25 rfl (by kernel_rfl)) rfl ?_
                      exact ⟨by first | rfl | (simp [errW_none, errW_some] <;> rfl) | (simp [*, errW_none, errW_some] <;> rfl), by repeat (first | (with_reducible first | exact HB.out | apply below_alloc | apply pw_below_drewN | apply below_drew1 | refine below_set ?_ GE116.out | refine below_set ?_ GE117.out) | exact HB.out)⟩
                  · rw [if_neg c29] at H
                    exact absurd H (by simp)
                · rw [if_neg c28] at H
                  exact absurd H (by simp)
end Go.Proofs.YtpabggjnkoehfaaDoor.ERef
end
section
namespace Go.Proofs.YtpabggjnkoehfaaDoor.ERef
open Go.RowKit Go.Lib Go.Proofs.YtpabggjnkoehfaaDoorW.PrintWords Go.Proofs.YtpabggjnkoehfaaDoorW.PrintLast Go.Proofs.YtpabggjnkoehfaaDoor.Ext Go.Proofs.YtpabggjnkoehfaaDoor.A1
def runAZ : List UInt8 → Nat
  | [] => 0
  | c :: r => if 65 ≤ c.toNat ∧ c.toNat ≤ 90 then runAZ r + 1 else 0
def markS (l : List UInt8) : List UInt8 × Bool :=
  match dropHead 36 l with
  | none => (l, false)
  | some r => (r, true)
def badS : ByteArray × Int × Int × Bool × Bool × Bool := (⟨#[]⟩, 0, 0, false, false, false)
def endS (sh : ByteArray) (ca : Bool) (l : List UInt8) (k : Nat) : ByteArray × Int × Int × Bool × Bool × Bool :=
  if (colS (l.take k)).2 = true ∧ 1 ≤ numS (markS (l.drop k)).1 2199023255552 then (sh, numS (markS (l.drop k)).1 2199023255552 - 1, (colS (l.take k)).1, (markS (l.drop k)).2, ca, true) else badS
def tailS (sh : ByteArray) (l : List UInt8) : ByteArray × Int × Int × Bool × Bool × Bool :=
  endS sh (markS l).2 (markS l).1 (runAZ (markS l).1)
def refS (l : List UInt8) : ByteArray × Int × Int × Bool × Bool × Bool :=
  match cutAt 33 l with
  | none => tailS ⟨#[]⟩ l
  | some p => if 0 ≤ ownerS p.1 then tailS ⟨p.1.toArray⟩ p.2 else badS
theorem numS_le (l : List UInt8) (m : Int) : -1 ≤ numS l m ∧ (numS l m ≤ m ∨ numS l m = -1) := by
  unfold numS
  by_cases h : canon l ∧ l.length ≤ 15 ∧ (dval 0 l : Int) ≤ m
  · rw [if_pos h]; have := h.2.2; omega
  · rw [if_neg h]; omega
theorem markS_len (l : List UInt8) : (markS l).1.length ≤ l.length := by
  unfold markS
  cases e : dropHead 36 l with
  | none => exact Nat.le_refl _
  | some r => have := congrArg List.length (dropHead_len _ _ _ e); simp at this; show r.length ≤ _; omega
theorem mark_f (x : ByteArray) : ∃ y, a1_mark.f x = some (y, (markS (by_ x)).2) ∧ by_ y = (markS (by_ x)).1 := by
  unfold a1_mark.f markS
  rw [cutPrefix_f x 36, Option.bind_some]
  cases dropHead 36 (by_ x) with
  | none => exact ⟨x, rfl, rfl⟩
  | some r => exact ⟨⟨r.toArray⟩, rfl, rfl⟩
theorem parse_j3 (k : Nat) (hk : 12 ≤ k) (x : ByteArray) (hx : x.size ≤ 1000) (j : Nat) (hj : j ≤ x.size) (sh : ByteArray) (r c : Int) (ra ca : Bool) :
    a1_Parse.j3 (k + 1) x j sh r c ra ca = some (endS sh ca (by_ x) j) := by
  have hl := by_len x
  rw [a1_Parse.j3, if_pos (by omega), if_pos (by omega), Int.toNat_natCast, col_f k hk, Option.bind_some, by_take]
  obtain ⟨y, h1, h2⟩ := mark_f (x.extract j x.size)
  rw [h1, Option.bind_some]
  rw [by_drop] at h2
  rw [by_drop]
  dsimp only
  have hy : y.size ≤ 1000 := by
    have := markS_len ((by_ x).drop j)
    rw [← by_len, h2]
    rw [List.length_drop] at this
    omega
  rw [number_f y _ hy (by omega), Option.bind_some, h2]
  have hn := numS_le (markS ((by_ x).drop j)).1 2199023255552
  unfold endS badS
  by_cases h3 : (colS ((by_ x).take j)).2 = true
  · rw [if_pos h3]
    by_cases h4 : numS (markS ((by_ x).drop j)).1 2199023255552 < 1
    · rw [if_pos h4, if_neg (by omega)]
    · rw [if_neg h4, if_pos ⟨h3, by omega⟩, wr _ (by omega) (by omega)]
  · rw [if_neg h3, if_neg (fun q => h3 q.1)]
theorem parse_l0 (x : ByteArray) (hx : x.size ≤ 1000) (sh : ByteArray) (r c : Int) (ra ca : Bool) (d : Nat) : ∀ (k j : Nat), j + d = x.size → d + 14 ≤ k →
    a1_Parse.l0 k x j sh r c ra ca = some (endS sh ca (by_ x) (j + runAZ ((by_ x).drop j))) := by
  have hl := by_len x
  induction d with
  | zero =>
    intro k j hj hk
    obtain ⟨k, rfl⟩ : ∃ m, k = m + 2 := ⟨k - 2, by omega⟩
    rw [a1_Parse.l0, if_neg (by omega), List.drop_eq_nil_of_le (by omega), parse_j3 k (by omega) x hx j (by omega)]
    rfl
  | succ d ih =>
    intro k j hj hk
    obtain ⟨k, rfl⟩ : ∃ m, k = m + 2 := ⟨k - 2, by omega⟩
    have hlt : j < (by_ x).length := by omega
    rw [a1_Parse.l0, if_pos (by omega), if_pos (by omega), bt_by x j hlt, parse_j3 k (by omega) x hx j (by omega), wr _ (by omega) (by omega)]
    have e := ih (k + 1) (j + 1) (by omega) (by omega)
    rw [show ((j + 1 : Nat) : Int) = (j : Int) + 1 from rfl] at e
    rw [e]
    have hr : runAZ ((by_ x).drop j) = if 65 ≤ (by_ x)[j].toNat ∧ (by_ x)[j].toNat ≤ 90 then runAZ ((by_ x).drop (j + 1)) + 1 else 0 := by
      rw [List.drop_eq_getElem_cons hlt]; rfl
    rw [hr]
    generalize (by_ x)[j] = b
    by_cases h1 : (b.toNat : Int) ≥ 65
    · rw [if_pos h1]
      by_cases h2 : (b.toNat : Int) ≤ 90
      · rw [if_pos h2, if_pos (by omega)]
        congr 2
        omega
      · rw [if_neg h2, if_neg (by omega)]; rfl
    · rw [if_neg h1, if_neg (by omega)]; rfl
theorem parse_j1 (k : Nat) (x : ByteArray) (hx : x.size ≤ 1000) (hk : x.size + 15 ≤ k) (sh : ByteArray) (r c : Int) (ra ca : Bool) :
    a1_Parse.j1 k x sh r c ra ca = some (tailS sh (by_ x)) := by
  obtain ⟨k, rfl⟩ : ∃ m, k = m + 1 := ⟨k - 1, by omega⟩
  obtain ⟨y, h1, h2⟩ := mark_f x
  have hs := markS_len (by_ x)
  have hl := by_len x
  have hy := by_len y
  rw [a1_Parse.j1, h1, Option.bind_some]
  dsimp only
  have e := parse_l0 y (by rw [← hy, h2]; omega) sh r c ra (markS (by_ x)).2 y.size k 0 (by omega) (by rw [← hy, h2]; omega)
  rw [List.drop_zero, Nat.zero_add, h2] at e
  exact e
theorem parse_f (k : Nat) (x : ByteArray) (hx : x.size ≤ 1000) (hk : x.size + 17 ≤ k) : a1_Parse.f k x = some (refS (by_ x)) := by
  obtain ⟨k, rfl⟩ : ∃ m, k = m + 1 := ⟨k - 1, by omega⟩
  have hl := by_len x
  unfold a1_Parse.f refS
  rw [cut_f x 33 hx, Option.bind_some]
  cases e : cutAt 33 (by_ x) with
  | none =>
    dsimp only
    rw [if_neg (by simp), a1_Parse.j0, if_neg (by simp), if_neg (by simp), parse_j1 k x hx (by omega)]
  | some p =>
    dsimp only
    have hp := congrArg List.length (cutAt_len 33 (by_ x) p e)
    simp at hp
    have h1 : (⟨p.1.toArray⟩ : ByteArray).size ≤ 1000 := by rw [mk_size]; omega
    rw [if_pos rfl, id_f ⟨p.1.toArray⟩ h1, Option.bind_some, by_mk, a1_Parse.j0]
    by_cases h : ownerS p.1 ≥ 0
    · rw [decide_eq_true h, if_neg (by simp), if_pos rfl, parse_j1 k _ (by rw [mk_size]; omega) (by rw [mk_size]; omega), by_mk, if_pos h]
    · rw [decide_eq_false h, if_pos (by rfl), if_neg h]; rfl
end Go.Proofs.YtpabggjnkoehfaaDoor.ERef
end
section
namespace Go.Proofs.YtpabggjnkoehfaaDoor.Ext
open Go.Shelf Go.RowKit Go.Sort Go.Lib Go.Proofs.YtpabggjnkoehfaaDoorW.PrintWords
set_option linter.unusedVariables false
def a1p.f (a0 : ByteArray) : Option (ByteArray × Int × Int × Bool × Bool × Bool) := if a0.size ≤ 1000 then ERef.a1_Parse.f (a0.size + 17) a0 else none
theorem a1p.calls (a0 : ByteArray) (r1 : ByteArray) (r2 : Int) (r3 : Int) (r4 : Bool) (r5 : Bool) (r6 : Bool) (w : World) (hL : Aside0 (Lq w)) (h : a1p.f a0 = some (r1, r2, r3, r4, r5, r6)) :
    Calls Tryd.prog 9 #[.string a0] w fun e w' => e = .returned (.tuple #[.agg #[.string r1, .int .i64 r2, .int .i64 r3, .bool r4, .bool r5], .bool r6]) ∧ Below w.heap.size w w' := by
  unfold a1p.f at h
  by_cases hs : a0.size ≤ 1000
  · rw [if_pos hs] at h
    exact ERef.a1_Parse.calls _ a0 r1 r2 r3 r4 r5 r6 w hL h
  · rw [if_neg hs] at h; cases h
end Go.Proofs.YtpabggjnkoehfaaDoor.Ext
end
section
namespace Go.Proofs.YtpabggjnkoehfaaDoor.EWd
open Go.RowKit Go.Proofs.YtpabggjnkoehfaaDoor.Ext Go.Proofs.YtpabggjnkoehfaaDoorW.PrintWords Go.Proofs.YtpabggjnkoehfaaDoorW.PrintLast Go.Proofs.YtpabggjnkoehfaaDoorW.PrintMore
attribute [local go_sem] max2_int min2_int max_two min_two max_three min_three max_four min_four   
set_option linter.unusedVariables false
set_option linter.unusedSimpArgs false
def errW : Option Int → Value
  | none => .nilIface
  | some c => .iface 0 (.int .i64 c)
theorem errW_none : errW none = .nilIface := rfl
theorem errW_some (c : Int) : errW (some c) = .iface 0 (.int .i64 c) := rfl
end Go.Proofs.YtpabggjnkoehfaaDoor.EWd
end
section
namespace Go.Proofs.YtpabggjnkoehfaaDoor.EWd
open Go.RowKit Go.Proofs.YtpabggjnkoehfaaDoor.Ext Go.Proofs.YtpabggjnkoehfaaDoorW.PrintWords Go.Proofs.YtpabggjnkoehfaaDoorW.PrintLast Go.Proofs.YtpabggjnkoehfaaDoorW.PrintMore
attribute [local go_sem] max2_int min2_int max_two min_two max_three min_three max_four min_four   
set_option linter.unusedVariables false
set_option linter.unusedSimpArgs false
def stringslite_HasPrefix.f (a0 : ByteArray) (a1 : ByteArray) : Option (Bool) := if (a0.size : Int) ≥ (a1.size : Int) then (if 0 ≤ (a1.size : Int) then (if (a1.size : Int) ≤ (a0.size : Int) then (some ((a0.extract 0 ((a1.size : Int) : Int).toNat).toList == a1.toList)) else (none)) else (none)) else (some false)
set_option maxHeartbeats 8000000 in
set_option maxRecDepth 100000 in
theorem stringslite_HasPrefix.calls (a0 : ByteArray) (a1 : ByteArray) (r : Bool) (w : World) (h : stringslite_HasPrefix.f a0 a1 = some r) :
    Calls Tryd.prog 59 #[.string a0, .string a1] w fun e w' => e = .returned (.bool r) ∧ Drawn0 w w' := by
  have H : (if (a0.size : Int) ≥ (a1.size : Int) then (if 0 ≤ (a1.size : Int) then (if (a1.size : Int) ≤ (a0.size : Int) then (some ((a0.extract 0 ((a1.size : Int) : Int).toNat).toList == a1.toList)) else (none)) else (none)) else (some false)) = some r := h
  clear h
  by_cases c3 : (a0.size : Int) ≥ (a1.size : Int)
  · rw [if_pos c3] at H
    have c3b0 : decide ((a1.size : Int) ≤ (a0.size : Int)) = true := decide_eq_true c3
    have c3b1 : decide (a1.size ≤ a0.size) = true := decide_eq_true (Int.ofNat_le.mp c3)
    clear c3
    by_cases c4 : 0 ≤ (a1.size : Int)
    · rw [if_pos c4] at H
      have c4b0 := eq_true c4
      have c4b1 : decide (0 ≤ (a1.size : Int)) = true := decide_eq_true c4
      clear c4
      by_cases c5 : (a1.size : Int) ≤ (a0.size : Int)
      · rw [if_pos c5] at H
        have c5b0 := eq_true c5
        have c5b1 : decide ((a1.size : Int) ≤ (a0.size : Int)) = true := decide_eq_true c5
        clear c5
        obtain rfl := Option.some.inj H
        go_enter Tryd.func59, Tryd.ntmps59
        go_wp2
        go_ret
        exact ⟨by first | rfl | (simp; done) | (simp [*]; done) | (simp; generalize ByteArray.toList _ = l_; cases l_ <;> rfl), by repeat (first | exact Drawn0.refl _ | apply Drawn0.step)⟩
      · rw [if_neg c5] at H
        exact absurd H (by simp)
    · rw [if_neg c4] at H
      exact absurd H (by simp)
  · rw [if_neg c3] at H
    have c3b0 : decide ((a1.size : Int) ≤ (a0.size : Int)) = false := decide_eq_false c3
    have c3b1 : decide (a1.size ≤ a0.size) = false := decide_eq_false (fun h => c3 (Int.ofNat_le.mpr h))
    clear c3
    obtain rfl := Option.some.inj H
    go_enter Tryd.func59, Tryd.ntmps59
    go_wp2
    go_ret
    exact ⟨by first | rfl | (simp; done) | (simp [*]; done) | (simp; generalize ByteArray.toList _ = l_; cases l_ <;> rfl), by repeat (first | exact Drawn0.refl _ | apply Drawn0.step)⟩
def strings_HasPrefix.f (a0 : ByteArray) (a1 : ByteArray) : Option (Bool) := (stringslite_HasPrefix.f a0 a1).bind fun t101 => (some t101)
set_option maxHeartbeats 8000000 in
set_option maxRecDepth 100000 in
theorem strings_HasPrefix.calls (a0 : ByteArray) (a1 : ByteArray) (r : Bool) (w : World) (h : strings_HasPrefix.f a0 a1 = some r) :
    Calls Tryd.prog 44 #[.string a0, .string a1] w fun e w' => e = .returned (.bool r) ∧ Drawn0 w w' := by
  have H : ((stringslite_HasPrefix.f a0 a1).bind fun t101 => (some t101)) = some r := h
  clear h
  replace H := Option.bind_eq_some_iff.mp H
  obtain ⟨t101, A30, H⟩ := H
  replace H : (some t101) = some r := H
  have A3 := Aside0.mk A30
  clear A30
  obtain rfl := Option.some.inj H
  go_enter Tryd.func44, Tryd.ntmps44
  go_wp2_with (first | ((with_reducible refine gate_callee (f := 59) rfl ?_); refine goesL_ (some 7) rfl rfl Tryd.func59 (by kernel_rfl) rfl #[.string a0, .string a1] rfl (by (try simp only [List.map_toArray, List.map_cons, List.map_nil]); first | done | rfl | (simp only [List.length_drop, List.length_take]; rfl)) ?_; (with_reducible refine (stringslite_HasPrefix.calls a0 a1 t101 _ A3.out).mono ?_); rintro e w' ⟨rfl, ⟨nd, rfl⟩⟩; refine ⟨_, rfl, ?_⟩))
  go_ret
  exact ⟨by first | rfl | (simp; done) | (simp [*]; done) | (simp; generalize ByteArray.toList _ = l_; cases l_ <;> rfl), by repeat (first | exact Drawn0.refl _ | apply Drawn0.step)⟩
def lex_great.l0 : Nat → ByteArray → Int → Int → Option (Bool)
  | 0, _, _, _ => none
  | k + 1, x0, x5, x6 => if x6 < x5 then (if 0 ≤ x6 then (if x6 < (x0.size : Int) then (if (bt x0 x6) < 65 then (some false) else (if (bt x0 x6) > 90 then (some false) else (lex_great.l0 k x0 x5 (wrap64 (x6 + 1))))) else (none)) else (none)) else (some (x0.toList != ([] : List UInt8)))
def lex_great.f (k : Nat) (a0 : ByteArray) : Option (Bool) := lex_great.l0 k a0 (a0.size : Int) 0
set_option maxHeartbeats 8000000 in
set_option maxRecDepth 100000 in
theorem lex_great.calls (k : Nat) (a0 : ByteArray) (r : Bool) (w : World) (h : lex_great.f k a0 = some r) :
    Calls Tryd.prog 58 #[.string a0] w fun e w' => e = .returned (.bool r) ∧ Drawn0 w w' := by
  have H : (lex_great.l0 k a0 (a0.size : Int) 0) = some r := h
  clear h
  have H' := Aside0.mk H
  clear H
  go_enter Tryd.func58, Tryd.ntmps58
  go_wp2
  go_loopg [6] k (fun kq v6 w' => ∃ (x6_1 : Int), v6 = .int .i64 x6_1 ∧ Aside0 (lex_great.l0 kq a0 (a0.size : Int) x6_1 = some r) ∧ Aside0 (kq ≤ k) ∧ Drawn0 w w')
  case atStart => exact ⟨(0), (by first | rfl | (simp; done) | (simp [*]; done)), H', ⟨Nat.le_refl _⟩, by repeat (first | exact Drawn0.refl _ | apply Drawn0.step)⟩
  case round =>
    clear H'
    obtain ⟨x6_1, rfl, HA, HK1, ⟨m1, rfl⟩⟩ := hrel
    cases gk with
    | zero => exact absurd HA.out (by simp [lex_great.l0])
    | succ k1 =>
      have H := HA.out
      clear HA
      simp only [lex_great.l0] at H
      by_cases c2 : x6_1 < (a0.size : Int)
      · rw [if_pos c2] at H
        have c2b0 : decide (x6_1 < (a0.size : Int)) = true := decide_eq_true c2
        clear c2
        by_cases c3 : 0 ≤ x6_1
        · rw [if_pos c3] at H
          have c3b0 : decide (0 ≤ x6_1) = true := decide_eq_true c3
          clear c3
          by_cases c4 : x6_1 < (a0.size : Int)
          · rw [if_pos c4] at H
            have c4b0 : decide (x6_1 < (a0.size : Int)) = true := decide_eq_true c4
            clear c4
            by_cases c6 : (bt a0 x6_1) < 65
            · rw [if_pos c6] at H
              have c6b0 : decide ((bt a0 x6_1) < 65) = true := decide_eq_true c6
              clear c6
              obtain rfl := Option.some.inj H
              have p5 : 0 ≤ (x6_1 : Int) := of_decide_eq_true (by first | (with_reducible assumption) | assumption)
              have q5 : x6_1 < (a0.size : Int) := of_decide_eq_true (by first | (with_reducible assumption) | assumption)
              have hx5 := bt_at a0 x6_1
              replace p5 := eq_true p5
              replace q5 := eq_true q5
              try (have q5z := q5; simp only [ByteArray.size_extract, Nat.min_self] at q5z)
              go_wp2
              go_ret
              exact ⟨by first | rfl | (simp; done) | (simp [*]; done) | (simp; generalize ByteArray.toList _ = l_; cases l_ <;> rfl), by repeat (first | exact Drawn0.refl _ | apply Drawn0.step)⟩
            · rw [if_neg c6] at H
              have c6b0 : decide ((bt a0 x6_1) < 65) = false := decide_eq_false c6
              clear c6
              by_cases c8 : (bt a0 x6_1) > 90
              · rw [if_pos c8] at H
                have c8b0 : decide (90 < (bt a0 x6_1)) = true := decide_eq_true c8
                clear c8
                obtain rfl := Option.some.inj H
                have p5 : 0 ≤ (x6_1 : Int) := of_decide_eq_true (by first | (with_reducible assumption) | assumption)
                have q5 : x6_1 < (a0.size : Int) := of_decide_eq_true (by first | (with_reducible assumption) | assumption)
                have hx5 := bt_at a0 x6_1
                replace p5 := eq_true p5
                replace q5 := eq_true q5
                try (have q5z := q5; simp only [ByteArray.size_extract, Nat.min_self] at q5z)
                have p7 : 0 ≤ (x6_1 : Int) := of_decide_eq_true (by first | (with_reducible assumption) | assumption)
                have q7 : x6_1 < (a0.size : Int) := of_decide_eq_true (by first | (with_reducible assumption) | assumption)
                have hx7 := bt_at a0 x6_1
                replace p7 := eq_true p7
                replace q7 := eq_true q7
                try (have q7z := q7; simp only [ByteArray.size_extract, Nat.min_self] at q7z)
                go_wp2
                go_ret
                exact ⟨by first | rfl | (simp; done) | (simp [*]; done) | (simp; generalize ByteArray.toList _ = l_; cases l_ <;> rfl), by repeat (first | exact Drawn0.refl _ | apply Drawn0.step)⟩
              · rw [if_neg c8] at H
                have c8b0 : decide (90 < (bt a0 x6_1)) = false := decide_eq_false c8
                clear c8
                have H' := Aside0.mk H
                clear H
                have p5 : 0 ≤ (x6_1 : Int) := of_decide_eq_true (by first | (with_reducible assumption) | assumption)
                have q5 : x6_1 < (a0.size : Int) := of_decide_eq_true (by first | (with_reducible assumption) | assumption)
                have hx5 := bt_at a0 x6_1
                replace p5 := eq_true p5
                replace q5 := eq_true q5
                try (have q5z := q5; simp only [ByteArray.size_extract, Nat.min_self] at q5z)
                have p7 : 0 ≤ (x6_1 : Int) := of_decide_eq_true (by first | (with_reducible assumption) | assumption)
                have q7 : x6_1 < (a0.size : Int) := of_decide_eq_true (by first | (with_reducible assumption) | assumption)
                have hx7 := bt_at a0 x6_1
                replace p7 := eq_true p7
                replace q7 := eq_true q7
                try (have q7z := q7; simp only [ByteArray.size_extract, Nat.min_self] at q7z)
                go_wp2
                go_roundg k1
                case measure => have := HK1.out; omega
                case rel => exact ⟨(wrap64 (x6_1 + 1)), (by first | rfl | (simp; done) | (simp [*]; done)), H', ⟨by have := HK1.out; omega⟩, by repeat (first | exact Drawn0.refl _ | apply Drawn0.step)⟩
          · rw [if_neg c4] at H
            exact absurd H (by simp)
        · rw [if_neg c3] at H
          exact absurd H (by simp)
      · rw [if_neg c2] at H
        have c2b0 : decide (x6_1 < (a0.size : Int)) = false := decide_eq_false c2
        clear c2
        obtain rfl := Option.some.inj H
        go_wp2
        go_ret
        exact ⟨by first | rfl | (simp; done) | (simp [*]; done) | (simp; generalize ByteArray.toList _ = l_; cases l_ <;> rfl), by repeat (first | exact Drawn0.refl _ | apply Drawn0.step)⟩
end Go.Proofs.YtpabggjnkoehfaaDoor.EWd
end
section
namespace Go.Proofs.YtpabggjnkoehfaaDoor.Lx
set_option linter.unusedVariables false
set_option linter.unusedSimpArgs false
abbrev B := List UInt8
def isRun (c : UInt8) : Bool := (decide (97 ≤ (c ||| 32)) && decide ((c ||| 32) ≤ 122)) || (decide (48 ≤ c) && decide (c ≤ 57)) || c == 36 || c == 33 || c == 46
def runLen : B → Nat
  | [] => 0
  | c :: s => if isRun c = true then runLen s + 1 else 0
def greatS (w : B) : Bool := !w.isEmpty && w.all (fun c => decide (65 ≤ c) && decide (c ≤ 90))
def signs : List B := [[43], [45], [42], [47], [38], [61], [60, 62], [60], [60, 61], [62], [62, 61], [40], [41], [44], [58]]
def sgn (w : B) : Bool := signs.contains w
def errNames : List B := [[35, 82, 69, 70, 33], [35, 67, 89, 67, 76, 69, 33], [35, 68, 73, 86, 47, 48, 33], [35, 78, 85, 77, 33], [35, 86, 65, 76, 85, 69, 33], [35, 78, 65, 77, 69, 63], [35, 78, 47, 65]]
section
variable (num ref valid : B → Bool)
def wordS (w rest : B) : Int :=
  if num w = true then 1 else if ref w = true then 3 else if greatS w = true ∧ (w = [84, 82, 85, 69] ∨ w = [70, 65, 76, 83, 69] ∨ rest.head? = some 40) then 4 else 0
def qu : B → B → Nat → Option (B × Nat)
  | [], _, _ => none
  | c :: r, out, i =>
    if c = 34 then
      match r with
      | 34 :: r' => qu r' (out ++ [34]) (i + 2)
      | _ => if out.length ≤ 200 ∧ valid out = true then some (out, i + 1) else none
    else qu r (out ++ [c]) (i + 1)
def nextS (s : B) : Option (Int × B × Nat) :=
  if s.head? = some 34 then (qu valid (s.drop 1) [] 1).map (fun p => (2, p.1, p.2))
  else if 0 < runLen s then (if wordS num ref (s.take (runLen s)) (s.drop (runLen s)) = 0 then none else some (wordS num ref (s.take (runLen s)) (s.drop (runLen s)), s.take (runLen s), runLen s))
  else match errNames.find? (fun e => e.isPrefixOf s) with
    | some e => some (5, e, e.length)
    | none => if 2 ≤ s.length ∧ sgn (s.take 2) = true then some (6, s.take 2, 2) else if 1 ≤ s.length ∧ sgn (s.take 1) = true then some (6, s.take 1, 1) else none
theorem qu_ge : ∀ (s out : B) (i : Nat) (t : B) (n : Nat), qu valid s out i = some (t, n) → i + 1 ≤ n
  | [], out, i, t, n, h => by simp [qu] at h
  | c :: r, out, i, t, n, h => by
    unfold qu at h
    split at h
    · split at h
      · rename_i r'
        have := qu_ge r' _ _ _ _ h
        omega
      · split at h
        · simp at h
          omega
        · cases h
    · have := qu_ge r _ _ _ _ h
      omega
theorem qu_stop (out : B) (i : Nat) (r : B) (h : r.head? ≠ some 34) : qu valid (34 :: r) out i = if out.length ≤ 200 ∧ valid out = true then some (out, i + 1) else none := by
  unfold qu
  rw [if_pos rfl]
  match r, h with
  | [], _ => rfl
  | c :: r, h =>
    split
    · rename_i r' e
      cases e
      exact absurd rfl h
    · rfl
theorem qu_two (out : B) (i : Nat) (r : B) : qu valid (34 :: 34 :: r) out i = qu valid r (out ++ [34]) (i + 2) := by
  conv => lhs; unfold qu
  rw [if_pos rfl]
  rfl
theorem qu_other (c : UInt8) (hc : c ≠ 34) (out : B) (i : Nat) (r : B) : qu valid (c :: r) out i = qu valid r (out ++ [c]) (i + 1) := by
  conv => lhs; unfold qu
  rw [if_neg hc]
theorem qu_stable (r r' : B) (h' : r.head? ≠ some 34 → r'.head? ≠ some 34) : ∀ (k : Nat) (w : B), w.length ≤ k → w ≠ [] → ∀ (out : B) (i : Nat) (t : B), qu valid (w ++ r) out i = some (t, i + w.length) → qu valid (w ++ r') out i = some (t, i + w.length)
  | 0, w, hk, hw, out, i, t, h => absurd (List.length_eq_zero_iff.1 (by omega)) hw
  | k + 1, [], hk, hw, out, i, t, h => absurd rfl hw
  | k + 1, [c], hk, hw, out, i, t, h => by
    by_cases hc : c = 34
    · subst hc
      by_cases hr : r.head? = some 34
      · obtain ⟨r2, rfl⟩ : ∃ r2, r = 34 :: r2 := by
          cases r with
          | nil => cases hr
          | cons d r2 => simp at hr; exact ⟨r2, by rw [hr]⟩
        have h2 : qu valid (34 :: 34 :: r2) out i = some (t, i + 1) := h
        rw [qu_two] at h2
        have := qu_ge valid _ _ _ _ _ h2
        omega
      · have h2 : qu valid (34 :: r) out i = some (t, i + 1) := h
        rw [qu_stop valid out i r hr] at h2
        show qu valid (34 :: r') out i = some (t, i + 1)
        rw [qu_stop valid out i r' (h' hr)]
        exact h2
    · have h2 : qu valid (c :: r) out i = some (t, i + 1) := h
      rw [qu_other valid c hc] at h2
      have := qu_ge valid _ _ _ _ _ h2
      omega
  | k + 1, c :: d :: w, hk, hw, out, i, t, h => by
    by_cases hc : c = 34
    · subst hc
      by_cases hd : d = 34
      · subst hd
        have h2 : qu valid (34 :: 34 :: (w ++ r)) out i = some (t, i + (w.length + 1 + 1)) := h
        show qu valid (34 :: 34 :: (w ++ r')) out i = some (t, i + (w.length + 1 + 1))
        rw [qu_two] at h2 ⊢
        by_cases hw2 : w = []
        · subst hw2
          have := qu_ge valid _ _ _ _ _ h2
          simp at this
        · have := qu_stable r r' h' k w (by simp at hk; omega) hw2 (out ++ [34]) (i + 2) t (by rw [h2]; congr 2; omega)
          rw [this]
          congr 2
          omega
      · have h2 : qu valid (34 :: (d :: (w ++ r))) out i = some (t, i + (w.length + 1 + 1)) := h
        rw [qu_stop valid out i _ (by simp [hd])] at h2
        split at h2
        · simp at h2
        · cases h2
    · have h2 : qu valid (c :: ((d :: w) ++ r)) out i = some (t, i + (w.length + 1 + 1)) := h
      show qu valid (c :: ((d :: w) ++ r')) out i = some (t, i + (w.length + 1 + 1))
      rw [qu_other valid c hc] at h2 ⊢
      have := qu_stable r r' h' k (d :: w) (by simp at hk ⊢; omega) (by simp) (out ++ [c]) (i + 1) t (by rw [h2]; congr 2; simp; omega)
      rw [this]
      congr 2
      simp
      omega
theorem runLen_le : ∀ s : B, runLen s ≤ s.length
  | [] => Nat.le_refl _
  | c :: s => by
    unfold runLen
    have := runLen_le s
    split <;> simp <;> omega
theorem runLen_app : ∀ (w r r' : B), runLen (w ++ r) = w.length → (r.head?.any isRun = false → r'.head?.any isRun = false) → runLen (w ++ r') = w.length
  | [], r, r', h, h' => by
    have hr : r.head?.any isRun = false := by
      cases r with
      | nil => rfl
      | cons c r =>
        have h2 : runLen (c :: r) = 0 := h
        unfold runLen at h2
        split at h2
        · omega
        · rename_i hc; simpa using hc
    have hr2 := h' hr
    cases r' with
    | nil => rfl
    | cons c r' =>
      show runLen (c :: r') = 0
      unfold runLen
      rw [if_neg (by simpa using hr2)]
  | c :: w, r, r', h, h' => by
    have h2 : runLen (c :: (w ++ r)) = w.length + 1 := h
    show runLen (c :: (w ++ r')) = w.length + 1
    unfold runLen at h2 ⊢
    split at h2
    · rename_i hc
      rw [if_pos hc, runLen_app w r r' (by omega) h']
    · omega
def fits (k : Int) (r r' : B) : Prop := r'.head? = r.head? ∨ (r'.head? = some 32 ∧ k ≠ 4)
theorem prefix_len (e s : B) (h : e.isPrefixOf s = true) : ∃ r, s = e ++ r := by
  obtain ⟨r, hr⟩ := List.isPrefixOf_iff_prefix.1 h
  exact ⟨r, hr.symm⟩
theorem names_apart : ∀ e ∈ errNames, ∀ f ∈ errNames, e.isPrefixOf f = true → e = f := by decide
theorem names_head : ∀ e ∈ errNames, e.head? = some 35 := by decide
theorem names_of (w : B) (hw : w ∈ errNames) (r : B) (e : B) (he : e ∈ errNames) : e.isPrefixOf (w ++ r) = decide (e = w) := by
  by_cases h : e = w
  · subst h
    rw [decide_eq_true rfl]
    exact List.isPrefixOf_iff_prefix.2 ⟨r, rfl⟩
  · rw [decide_eq_false h]
    cases g : e.isPrefixOf (w ++ r) with
    | false => rfl
    | true =>
      exfalso
      have hp := List.isPrefixOf_iff_prefix.1 g
      rcases Nat.le_total e.length w.length with hl | hl
      · exact h (names_apart e he w hw (List.isPrefixOf_iff_prefix.2 (List.prefix_of_prefix_length_le hp ⟨r, rfl⟩ hl)))
      · exact h (names_apart w hw e he (List.isPrefixOf_iff_prefix.2 (List.prefix_of_prefix_length_le ⟨r, rfl⟩ hp hl))).symm
theorem find_names (w : B) (hw : w ∈ errNames) (r : B) : errNames.find? (fun e => e.isPrefixOf (w ++ r)) = some w := by
  have key : ∀ l : List B, (∀ e ∈ l, e ∈ errNames) → w ∈ l → l.find? (fun e => e.isPrefixOf (w ++ r)) = some w := by
    intro l
    induction l with
    | nil => intro _ h; cases h
    | cons e l ih =>
      intro hl hm
      rw [List.find?_cons, names_of w hw r e (hl e List.mem_cons_self)]
      by_cases h : e = w
      · rw [decide_eq_true h, h]
      · rw [decide_eq_false h]
        rcases List.mem_cons.1 hm with rfl | hm
        · exact absurd rfl h
        · exact ih (fun x hx => hl x (List.mem_cons_of_mem _ hx)) hm
  exact key errNames (fun _ h => h) hw
theorem find_none (s : B) (h : s.head? ≠ some 35) : errNames.find? (fun e => e.isPrefixOf s) = none := by
  rw [List.find?_eq_none]
  intro e he hp
  obtain ⟨r, rfl⟩ := prefix_len e s hp
  have h1 := names_head e he
  cases e with
  | nil => cases h1
  | cons c e => exact h h1
theorem sgn_head (c : UInt8) (w : B) (h : sgn (c :: w) = true) : c ≠ 34 ∧ c ≠ 35 ∧ isRun c = false := by
  have : (c :: w) ∈ signs := by simpa [sgn] using h
  have key : ∀ x ∈ signs, ∀ c w, x = c :: w → c ≠ 34 ∧ c ≠ 35 ∧ isRun c = false := by
    intro x hx c w e
    subst e
    simp only [signs, List.mem_cons, List.not_mem_nil, or_false, List.cons.injEq] at hx
    rcases hx with ⟨rfl, _⟩ | ⟨rfl, _⟩ | ⟨rfl, _⟩ | ⟨rfl, _⟩ | ⟨rfl, _⟩ | ⟨rfl, _⟩ | ⟨rfl, _⟩ | ⟨rfl, _⟩ | ⟨rfl, _⟩ | ⟨rfl, _⟩ | ⟨rfl, _⟩ | ⟨rfl, _⟩ | ⟨rfl, _⟩ | ⟨rfl, _⟩ | ⟨rfl, _⟩ <;> decide
  exact key _ this c w rfl
theorem sgn_blank (c : UInt8) : sgn [c, 32] = false := by
  cases h : sgn [c, 32] with
  | false => rfl
  | true =>
    exfalso
    have : ([c, 32] : B) ∈ signs := by simpa [sgn] using h
    simp [signs] at this
theorem blank_run : isRun 32 = false := by decide
theorem runLen_nil_of {s : B} (h : s.head?.any isRun = false) : runLen s = 0 := by
  cases s with
  | nil => rfl
  | cons c s =>
    unfold runLen
    rw [if_neg (by simpa using h)]
theorem head_app (w r r' : B) (hw : w ≠ []) : (w ++ r').head? = (w ++ r).head? := by
  cases w with
  | nil => exact absurd rfl hw
  | cons c w => rfl
theorem next_stable (w r r' : B) (k : Int) (t : B) (hw : w ≠ []) (hf : fits k r r') (h : nextS num ref valid (w ++ r) = some (k, t, w.length)) : nextS num ref valid (w ++ r') = some (k, t, w.length) := by
  have hh := head_app w r r' hw
  unfold nextS at h ⊢
  rw [hh]
  by_cases c1 : (w ++ r).head? = some 34
  · rw [if_pos c1] at h ⊢
    obtain ⟨w1, rfl⟩ : ∃ w1, w = 34 :: w1 := by
      cases w with
      | nil => exact absurd rfl hw
      | cons c w1 => simp at c1; exact ⟨w1, by rw [c1]⟩
    simp only [List.cons_append, List.drop_succ_cons, List.drop_zero] at h ⊢
    obtain ⟨⟨t1, n1⟩, hq, he⟩ := Option.map_eq_some_iff.1 h
    simp only [Prod.mk.injEq] at he
    obtain ⟨rfl, rfl, rfl⟩ := he
    have hne : w1 ≠ [] := by
      rintro rfl
      have := qu_ge valid _ _ _ _ _ hq
      simp at this
    have hr : r.head? ≠ some 34 → r'.head? ≠ some 34 := by
      intro h1
      rcases hf with h2 | h2
      · rw [h2]; exact h1
      · rw [h2.1]; simp
    have := qu_stable valid r r' hr w1.length w1 (Nat.le_refl _) hne [] 1 t1 (by rw [hq]; congr 2; simp; omega)
    rw [this]
    show some (2, t1, 1 + w1.length) = _
    congr 3
    simp
    omega
  · rw [if_neg c1] at h ⊢
    by_cases c2 : 0 < runLen (w ++ r)
    · rw [if_pos c2] at h
      split at h
      · cases h
      · rename_i hk
        simp only [Option.some.injEq, Prod.mk.injEq] at h
        obtain ⟨h1, h2, h3⟩ := h
        have hr : r.head?.any isRun = false → r'.head?.any isRun = false := by
          intro h4
          rcases hf with h5 | h5
          · rw [h5]; exact h4
          · rw [h5.1]; exact blank_run
        have h6 := runLen_app w r r' h3 hr
        rw [h6, if_pos (by omega)]
        rw [h3] at h1 h2 hk
        have e1 : (w ++ r).take w.length = w := List.take_left
        have e2 : (w ++ r).drop w.length = r := List.drop_left
        have e3 : (w ++ r').take w.length = w := List.take_left
        have e4 : (w ++ r').drop w.length = r' := List.drop_left
        rw [e1] at h2
        rw [e1, e2] at h1 hk
        rw [e3, e4]
        have hword : wordS num ref w r' = k := by
          unfold wordS at h1 ⊢
          split
          · rename_i g; rw [if_pos g] at h1; exact h1
          · rename_i g
            rw [if_neg g] at h1
            split
            · rename_i g2; rw [if_pos g2] at h1; exact h1
            · rename_i g2
              rw [if_neg g2] at h1
              rcases hf with h5 | h5
              · rw [h5]; exact h1
              · split at h1
                · exact absurd h1.symm h5.2
                · rename_i g3
                  rw [if_neg (fun g4 => g3 ⟨g4.1, by
                    rcases g4.2 with g5 | g5 | g5
                    · exact Or.inl g5
                    · exact Or.inr (Or.inl g5)
                    · rw [h5.1] at g5; simp at g5⟩)]
                  exact h1
        rw [hword, if_neg (by rw [← h1]; exact hk), h2]
    · rw [if_neg c2] at h
      have hrl : runLen (w ++ r) = 0 := by omega
      obtain ⟨c, w1, rfl⟩ : ∃ c w1, w = c :: w1 := by
        cases w with
        | nil => exact absurd rfl hw
        | cons c w1 => exact ⟨c, w1, rfl⟩
      have hcr : isRun c = false := by
        cases g : isRun c with
        | false => rfl
        | true =>
          exfalso
          have : 0 < runLen (c :: (w1 ++ r)) := by unfold runLen; rw [if_pos g]; omega
          exact c2 this
      have hz : runLen (c :: w1 ++ r') = 0 := runLen_nil_of (by simpa using hcr)
      rw [hz, if_neg (by omega)]
      split at h
      · rename_i e he
        simp only [Option.some.injEq, Prod.mk.injEq] at h
        obtain ⟨h1, h2, h3⟩ := h
        have hm := List.mem_of_find?_eq_some he
        have hp : e.isPrefixOf (c :: w1 ++ r) = true := by simpa using List.find?_some he
        have hew : e = c :: w1 := by
          have := List.prefix_of_prefix_length_le (List.isPrefixOf_iff_prefix.1 hp) ⟨r, rfl⟩ (by omega : e.length ≤ (c :: w1).length)
          exact this.eq_of_length h3
        rw [← hew, find_names e hm r']
        rw [← h1, ← h2]
      · rename_i hn
        by_cases c3 : 2 ≤ (c :: w1 ++ r).length ∧ sgn ((c :: w1 ++ r).take 2) = true
        · rw [if_pos c3] at h
          simp only [Option.some.injEq, Prod.mk.injEq] at h
          obtain ⟨h1, h2, h3⟩ := h
          obtain ⟨d, rfl⟩ : ∃ d, w1 = [d] := by
            match w1, h3 with
            | [d], _ => exact ⟨d, rfl⟩
          have hs : sgn [c, d] = true := c3.2
          have hc := sgn_head c [d] hs
          rw [find_none _ (by simpa using hc.2.1)]
          show (if 2 ≤ ([c, d] ++ r').length ∧ sgn [c, d] = true then _ else _) = _
          rw [if_pos ⟨by simp, hs⟩, ← h1, ← h2]
          rfl
        · rw [if_neg c3] at h
          split at h
          · rename_i c4
            simp only [Option.some.injEq, Prod.mk.injEq] at h
            obtain ⟨h1, h2, h3⟩ := h
            obtain rfl : w1 = [] := List.length_eq_zero_iff.1 (by simp at h3; exact h3.symm ▸ rfl)
            have hs : sgn [c] = true := c4.2
            have hc := sgn_head c [] hs
            rw [find_none _ (by simpa using hc.2.1)]
            have hno : ¬ (2 ≤ ([c] ++ r').length ∧ sgn (([c] ++ r').take 2) = true) := by
              rintro ⟨g1, g2⟩
              cases r' with
              | nil => simp at g1
              | cons d r' =>
                have g3 : sgn [c, d] = true := g2
                rcases hf with h5 | h5
                · obtain ⟨r2, rfl⟩ : ∃ r2, r = d :: r2 := by
                    cases r with
                    | nil => simp at h5
                    | cons d2 r2 => simp at h5; exact ⟨r2, by rw [h5]⟩
                  exact c3 ⟨by simp, g3⟩
                · have : d = 32 := by simpa using h5.1
                  subst this
                  rw [sgn_blank] at g3
                  cases g3
            show (if 2 ≤ ([c] ++ r').length ∧ sgn (([c] ++ r').take 2) = true then _ else if 1 ≤ ([c] ++ r').length ∧ sgn [c] = true then some (6, [c], 1) else none) = _
            rw [if_neg hno, if_pos ⟨by simp, hs⟩, ← h1, ← h2]
            rfl
          · cases h
def scanS : Nat → B → Nat → Option (List (Int × B × Nat))
  | 0, _, _ => none
  | f + 1, s, at_ =>
    match s with
    | [] => some [(7, [], at_)]
    | c :: r => if c = 32 then scanS f r (at_ + 1) else
      match nextS num ref valid (c :: r) with
      | none => none
      | some (k, t, n) => (scanS f ((c :: r).drop n) (at_ + n)).map (fun l => (k, t, at_) :: l)
theorem qu_le : ∀ (s out : B) (i : Nat) (t : B) (n : Nat), qu valid s out i = some (t, n) → n ≤ i + s.length
  | [], out, i, t, n, h => by simp [qu] at h
  | c :: r, out, i, t, n, h => by
    unfold qu at h
    split at h
    · split at h
      · rename_i r'
        have := qu_le r' _ _ _ _ h
        simp
        omega
      · split at h
        · simp at h
          simp
          omega
        · cases h
    · have := qu_le r _ _ _ _ h
      simp
      omega
theorem next_len (s : B) (k : Int) (t : B) (m : Nat) (h : nextS num ref valid s = some (k, t, m)) : 0 < m ∧ m ≤ s.length := by
  unfold nextS at h
  split at h
  · rename_i hh
    obtain ⟨⟨t1, n1⟩, hq, he⟩ := Option.map_eq_some_iff.1 h
    simp only [Prod.mk.injEq] at he
    obtain ⟨_, _, rfl⟩ := he
    have g1 := qu_ge valid _ _ _ _ _ hq
    have g2 := qu_le valid _ _ _ _ _ hq
    rw [List.length_drop] at g2
    have : 1 ≤ s.length := by
      cases s with
      | nil => cases hh
      | cons c s => simp
    omega
  · split at h
    · rename_i hr
      split at h
      · cases h
      · simp only [Option.some.injEq, Prod.mk.injEq] at h
        obtain ⟨_, _, rfl⟩ := h
        exact ⟨hr, runLen_le s⟩
    · split at h
      · rename_i e he
        simp only [Option.some.injEq, Prod.mk.injEq] at h
        obtain ⟨_, _, rfl⟩ := h
        have hp : e.isPrefixOf s = true := by simpa using List.find?_some he
        have hm := names_head e (List.mem_of_find?_eq_some he)
        refine ⟨?_, (List.isPrefixOf_iff_prefix.1 hp).length_le⟩
        cases e with
        | nil => cases hm
        | cons c e => simp
      · split at h
        · rename_i c
          simp only [Option.some.injEq, Prod.mk.injEq] at h
          obtain ⟨_, _, rfl⟩ := h
          exact ⟨by decide, c.1⟩
        · split at h
          · rename_i c
            simp only [Option.some.injEq, Prod.mk.injEq] at h
            obtain ⟨_, _, rfl⟩ := h
            exact ⟨by decide, c.1⟩
          · cases h
def gap (r : B) : B := r.takeWhile (· == 32)
def past (r : B) : B := r.dropWhile (· == 32)
theorem gap_past (r : B) : gap r ++ past r = r := List.takeWhile_append_dropWhile
theorem gap_all : ∀ (r : B), ∀ c ∈ gap r, c = 32 := by
  intro r
  induction r with
  | nil => intro c hc; cases hc
  | cons d r ih =>
    intro c hc
    unfold gap at hc
    rw [List.takeWhile_cons] at hc
    split at hc
    · rename_i hd
      rcases List.mem_cons.1 hc with rfl | hc
      · simpa using hd
      · exact ih c hc
    · cases hc
theorem past_head : ∀ (r : B), (past r).head? ≠ some 32 := by
  intro r
  induction r with
  | nil => simp [past]
  | cons d r ih =>
    unfold past at ih ⊢
    rw [List.dropWhile_cons]
    split
    · exact ih
    · rename_i hd
      simpa using hd
theorem past_len (r : B) : (past r).length + (gap r).length = r.length := by
  have := congrArg List.length (gap_past r)
  rw [List.length_append] at this
  omega
theorem scan_skip (s : B) (f : Nat) : ∀ (g : B) (a : Nat), (∀ c ∈ g, c = 32) → scanS num ref valid (f + g.length) (g ++ s) a = scanS num ref valid f s (a + g.length)
  | [], a, h => rfl
  | c :: g, a, h => by
    have hc := h c List.mem_cons_self
    have ih := scan_skip s f g (a + 1) (fun x hx => h x (List.mem_cons_of_mem _ hx))
    show scanS num ref valid (f + g.length + 1) (c :: (g ++ s)) a = _
    conv => lhs; unfold scanS
    simp only
    rw [if_pos hc, ih]
    congr 1
    simp
    omega
theorem scan_unskip (s : B) : ∀ (g : B) (f a : Nat) (l : List (Int × B × Nat)), (∀ c ∈ g, c = 32) → scanS num ref valid f (g ++ s) a = some l → ∃ f', f = f' + g.length ∧ scanS num ref valid f' s (a + g.length) = some l
  | [], f, a, l, h, hs => ⟨f, rfl, hs⟩
  | c :: g, 0, a, l, h, hs => by simp [scanS] at hs
  | c :: g, f + 1, a, l, h, hs => by
    have hc := h c List.mem_cons_self
    have h2 : scanS num ref valid (f + 1) (c :: (g ++ s)) a = some l := hs
    unfold scanS at h2
    simp only at h2
    rw [if_pos hc] at h2
    obtain ⟨f', e, h3⟩ := scan_unskip s g f (a + 1) l (fun x hx => h x (List.mem_cons_of_mem _ hx)) h2
    refine ⟨f', by simp; omega, ?_⟩
    rw [← h3]
    congr 1
    simp
    omega
def blow (n : Nat) : Nat → B → B
  | 0, _ => []
  | F + 1, s =>
    match s with
    | [] => []
    | c :: r => match nextS num ref valid (c :: r) with
      | none => []
      | some (k, _, m) => (c :: r).take m ++ (gap ((c :: r).drop m) ++ ((if k = 4 then [] else List.replicate n 32) ++ blow n F (past ((c :: r).drop m))))
theorem blow_some (n F : Nat) (s : B) (hs : s ≠ []) (k : Int) (t : B) (m : Nat) (h : nextS num ref valid s = some (k, t, m)) :
    blow num ref valid n (F + 1) s = s.take m ++ (gap (s.drop m) ++ ((if k = 4 then [] else List.replicate n 32) ++ blow num ref valid n F (past (s.drop m)))) := by
  cases s with
  | nil => exact absurd rfl hs
  | cons c r =>
    conv => lhs; unfold blow
    simp only [h]
theorem scan_some (f a : Nat) (c : UInt8) (r : B) (hc : c ≠ 32) (l : List (Int × B × Nat)) (h : scanS num ref valid f (c :: r) a = some l) :
    ∃ f1 k t m l1, f = f1 + 1 ∧ nextS num ref valid (c :: r) = some (k, t, m) ∧ scanS num ref valid f1 ((c :: r).drop m) (a + m) = some l1 ∧ l = (k, t, a) :: l1 := by
  cases f with
  | zero => simp [scanS] at h
  | succ f =>
    unfold scanS at h
    simp only at h
    rw [if_neg hc] at h
    split at h
    · cases h
    · rename_i k t m hn
      obtain ⟨l1, h1, h2⟩ := Option.map_eq_some_iff.1 h
      exact ⟨f, k, t, m, l1, rfl, hn, h1, h2.symm⟩
theorem scan_mk (f a : Nat) (c : UInt8) (r : B) (hc : c ≠ 32) (k : Int) (t : B) (m : Nat) (l1 : List (Int × B × Nat)) (hn : nextS num ref valid (c :: r) = some (k, t, m)) (h1 : scanS num ref valid f ((c :: r).drop m) (a + m) = some l1) :
    scanS num ref valid (f + 1) (c :: r) a = some ((k, t, a) :: l1) := by
  unfold scanS
  simp only
  rw [if_neg hc, hn]
  simp only
  rw [h1]
  rfl
abbrev words (l : List (Int × B × Nat)) : List (Int × B) := l.map (fun w => (w.1, w.2.1))
def build (n : Nat) (S : B) : List (Int × B × Nat) → B
  | [] => []
  | [_] => []
  | w :: v :: l => (S.drop w.2.2).take (v.2.2 - w.2.2) ++ ((if w.1 = 4 then [] else List.replicate n 32) ++ build n S (v :: l))
theorem blow_head (n F : Nat) (s : B) (hF : s.length ≤ F) (f a : Nat) (l : List (Int × B × Nat)) (hs : s.head? ≠ some 32) (h : scanS num ref valid f s a = some l) : (blow num ref valid n F s).head? = s.head? := by
  cases s with
  | nil => cases F <;> rfl
  | cons c r =>
    obtain ⟨F, rfl⟩ : ∃ G, F = G + 1 := ⟨F - 1, by simp at hF; omega⟩
    obtain ⟨f1, k, t, m, l1, _, hn, _, _⟩ := scan_some num ref valid f a c r (by simpa using hs) l h
    have hm := next_len num ref valid _ k t m hn
    rw [blow_some num ref valid n F _ (by simp) k t m hn]
    obtain ⟨m, rfl⟩ : ∃ q, m = q + 1 := ⟨m - 1, by omega⟩
    rfl
theorem blanks_main (n : Nat) : ∀ (N : Nat) (s : B), s.length ≤ N → s.head? ≠ some 32 → ∀ (F f a : Nat) (l : List (Int × B × Nat)), s.length ≤ F → scanS num ref valid f s a = some l →
    ∀ a', ∃ f0, ∀ f', f0 ≤ f' → ∃ l', scanS num ref valid f' (blow num ref valid n F s) a' = some l' ∧ words l' = words l
  | N, [], hN, hs, F, f, a, l, hF, h, a' => by
    have hl : l = [(7, [], a)] := by
      cases f with
      | zero => simp [scanS] at h
      | succ f => simpa [scanS] using h.symm
    refine ⟨1, fun f' hf' => ⟨[(7, [], a')], ?_, by rw [hl]; rfl⟩⟩
    obtain ⟨q, rfl⟩ : ∃ q, f' = q + 1 := ⟨f' - 1, by omega⟩
    cases F <;> rfl
  | 0, c :: r, hN, hs, F, f, a, l, hF, h, a' => by simp at hN
  | N + 1, c :: r, hN, hs, F, f, a, l, hF, h, a' => by
    have hc : c ≠ 32 := by simpa using hs
    obtain ⟨F, rfl⟩ : ∃ G, F = G + 1 := ⟨F - 1, by simp at hF; omega⟩
    obtain ⟨f1, k, t, m, l1, hf, hn, h1, hl⟩ := scan_some num ref valid f a c r hc l h
    obtain ⟨hm0, hm1⟩ := next_len num ref valid _ k t m hn
    obtain ⟨x, hx⟩ : ∃ x, (c :: r).drop m = x := ⟨_, rfl⟩
    obtain ⟨w, hw⟩ : ∃ w, (c :: r).take m = w := ⟨_, rfl⟩
    have hwl : w.length = m := by rw [← hw, List.length_take]; omega
    have hwx : w ++ x = c :: r := by rw [← hw, ← hx]; exact List.take_append_drop m _
    have hxl : x.length + m = (c :: r).length := by rw [← hwx, List.length_append]; omega
    rw [hx] at h1
    rw [← gap_past x] at h1
    obtain ⟨f2, e2, h2⟩ := scan_unskip num ref valid (past x) (gap x) f1 (a + m) l1 (gap_all x) h1
    have hpl := past_len x
    have hlen : (past x).length ≤ N := by simp at hN hxl; omega
    have hlF : (past x).length ≤ F := by simp at hF hxl; omega
    obtain ⟨bl, hbl⟩ : ∃ bl, (if k = 4 then ([] : B) else List.replicate n 32) = bl := ⟨_, rfl⟩
    have hbl32 : ∀ d ∈ gap x ++ bl, d = 32 := by
      intro d hd
      rcases List.mem_append.1 hd with hd | hd
      · exact gap_all x d hd
      · rw [← hbl] at hd
        split at hd
        · cases hd
        · exact (List.mem_replicate.1 hd).2
    obtain ⟨f0, ih⟩ := blanks_main n N (past x) hlen (past_head x) F f2 _ l1 hlF h2 (a' + m + (gap x ++ bl).length)
    have hb := blow_some num ref valid n F (c :: r) (by simp) k t m hn
    rw [hx, hw, hbl] at hb
    have hhead := blow_head num ref valid n F (past x) hlF f2 _ l1 (past_head x) h2
    obtain ⟨b, hbb⟩ : ∃ b, blow num ref valid n F (past x) = b := ⟨_, rfl⟩
    rw [hbb] at hb ih hhead
    have hfit : fits k x (gap x ++ (bl ++ b)) := by
      unfold fits
      cases hg : gap x with
      | cons d g =>
        left
        have : x = d :: (g ++ past x) := by have := gap_past x; rw [hg] at this; exact this.symm
        rw [this]
        rfl
      | nil =>
        have hxp : past x = x := by have := gap_past x; rw [hg] at this; exact this
        cases hbn : bl with
        | nil => left; rw [← hxp]; exact hhead
        | cons d bs =>
          right
          refine ⟨?_, ?_⟩
          · have := hbl32 d (by rw [hbn]; simp)
            rw [this]
            rfl
          · intro hk
            rw [if_pos hk] at hbl
            rw [← hbl] at hbn
            cases hbn
    have hwne : w ≠ [] := by
      intro e
      rw [e] at hwl
      simp at hwl
      omega
    have hnext := next_stable num ref valid w x (gap x ++ (bl ++ b)) k t hwne hfit (by rw [hwx, hwl]; exact hn)
    obtain ⟨w2, hw2⟩ : ∃ w2, w = c :: w2 := by
      cases w with
      | nil => exact absurd rfl hwne
      | cons d w2 =>
        simp only [List.cons_append, List.cons.injEq] at hwx
        exact ⟨w2, by rw [hwx.1]⟩
    refine ⟨f0 + (gap x ++ bl).length + 1, fun f' hf' => ?_⟩
    obtain ⟨q, rfl⟩ : ∃ q, f' = (q + (gap x ++ bl).length) + 1 := ⟨f' - (gap x ++ bl).length - 1, by omega⟩
    obtain ⟨l1', h3, h4⟩ := ih q (by omega)
    refine ⟨(k, t, a') :: l1', ?_, ?_⟩
    · rw [hb]
      have hd : (w ++ (gap x ++ (bl ++ b))).drop m = gap x ++ (bl ++ b) := by rw [← hwl]; exact List.drop_left
      have key : scanS num ref valid (q + (gap x ++ bl).length) ((w ++ (gap x ++ (bl ++ b))).drop m) (a' + m) = some l1' := by
        rw [hd, ← List.append_assoc, scan_skip num ref valid b q (gap x ++ bl) (a' + m) hbl32]
        exact h3
      rw [hwl] at hnext
      subst hw2
      exact scan_mk num ref valid _ a' c (w2 ++ (gap x ++ (bl ++ b))) hc k t m l1' hnext key
    · rw [hl]
      show (k, t) :: words l1' = (k, t) :: words l1
      rw [h4]
theorem build_blow (n : Nat) (S : B) : ∀ (N : Nat) (s : B), s.length ≤ N → s.head? ≠ some 32 → ∀ (F f : Nat) (pre : B) (l : List (Int × B × Nat)), s.length ≤ F → S = pre ++ s → scanS num ref valid f s pre.length = some l →
    build n S l = blow num ref valid n F s ∧ (l.head?.map (fun w => w.2.2)) = some pre.length
  | N, [], hN, hs, F, f, pre, l, hF, hS, h => by
    have hl : l = [(7, [], pre.length)] := by
      cases f with
      | zero => simp [scanS] at h
      | succ f => simpa [scanS] using h.symm
    rw [hl]
    refine ⟨?_, rfl⟩
    cases F <;> rfl
  | 0, c :: r, hN, hs, F, f, pre, l, hF, hS, h => by simp at hN
  | N + 1, c :: r, hN, hs, F, f, pre, l, hF, hS, h => by
    have hc : c ≠ 32 := by simpa using hs
    obtain ⟨F, rfl⟩ : ∃ G, F = G + 1 := ⟨F - 1, by simp at hF; omega⟩
    obtain ⟨f1, k, t, m, l1, hf, hn, h1, hl⟩ := scan_some num ref valid f _ c r hc l h
    obtain ⟨hm0, hm1⟩ := next_len num ref valid _ k t m hn
    obtain ⟨x, hx⟩ : ∃ x, (c :: r).drop m = x := ⟨_, rfl⟩
    obtain ⟨w, hw⟩ : ∃ w, (c :: r).take m = w := ⟨_, rfl⟩
    have hwl : w.length = m := by rw [← hw, List.length_take]; omega
    have hwx : w ++ x = c :: r := by rw [← hw, ← hx]; exact List.take_append_drop m _
    have hxl : x.length + m = (c :: r).length := by rw [← hwx, List.length_append]; omega
    rw [hx] at h1
    rw [← gap_past x] at h1
    obtain ⟨f2, e2, h2⟩ := scan_unskip num ref valid (past x) (gap x) f1 (pre.length + m) l1 (gap_all x) h1
    have hpl := past_len x
    have hlen : (past x).length ≤ N := by simp at hN hxl; omega
    have hlF : (past x).length ≤ F := by simp at hF hxl; omega
    have hS2 : S = (pre ++ w ++ gap x) ++ past x := by rw [hS, ← hwx, List.append_assoc, List.append_assoc, gap_past]
    have hpre : (pre ++ w ++ gap x).length = pre.length + m + (gap x).length := by rw [List.length_append, List.length_append, hwl]
    obtain ⟨ih1, ih2⟩ := build_blow n S N (past x) hlen (past_head x) F f2 (pre ++ w ++ gap x) l1 hlF hS2 (by rw [hpre]; exact h2)
    refine ⟨?_, by rw [hl]; rfl⟩
    rw [blow_some num ref valid n F (c :: r) (by simp) k t m hn, hx, hw, hl]
    cases l1 with
    | nil => simp at ih2
    | cons v l2 =>
      have hv : v.2.2 = pre.length + m + (gap x).length := by
        simp at ih2
        omega
      show (S.drop pre.length).take (v.2.2 - pre.length) ++ ((if k = 4 then [] else List.replicate n 32) ++ build n S (v :: l2)) = _
      rw [ih1, hv]
      have e1 : S.drop pre.length = w ++ (gap x ++ past x) := by rw [hS, ← hwx, gap_past]; exact List.drop_left
      have e2 : pre.length + m + (gap x).length - pre.length = (w ++ gap x).length := by rw [List.length_append, hwl]; omega
      rw [e1, e2, show w ++ (gap x ++ past x) = (w ++ gap x) ++ past x from (List.append_assoc _ _ _).symm, List.take_left, List.append_assoc]
theorem blow_len (n : Nat) : ∀ (F : Nat) (s : B), (blow num ref valid n F s).length ≤ (n + 1) * s.length
  | 0, s => by simp [blow]
  | F + 1, [] => by simp [blow]
  | F + 1, c :: r => by
    cases hn : nextS num ref valid (c :: r) with
    | none =>
      have : blow num ref valid n (F + 1) (c :: r) = [] := by
        conv => lhs; unfold blow
        simp only [hn]
      rw [this]
      simp
    | some p =>
      obtain ⟨k, t, m⟩ := p
      obtain ⟨hm0, hm1⟩ := next_len num ref valid _ k t m hn
      rw [blow_some num ref valid n F (c :: r) (by simp) k t m hn]
      have ih := blow_len n F (past ((c :: r).drop m))
      have hp := past_len ((c :: r).drop m)
      rw [List.length_append, List.length_append, List.length_append, List.length_take]
      have hb : (if k = 4 then ([] : B) else List.replicate n 32).length ≤ n := by
        split
        · simp
        · rw [List.length_replicate]; omega
      rw [List.length_drop] at hp
      obtain ⟨L, hL⟩ : ∃ L, (c :: r).length = L := ⟨_, rfl⟩
      rw [hL] at hp hm1 ⊢
      obtain ⟨P, hP⟩ : ∃ P, (past ((c :: r).drop m)).length = P := ⟨_, rfl⟩
      obtain ⟨G, hG⟩ : ∃ G, (gap ((c :: r).drop m)).length = G := ⟨_, rfl⟩
      rw [hP] at ih hp
      rw [hG] at hp ⊢
      have e : L = m + G + P := by omega
      have : (n + 1) * L = (n + 1) * m + (n + 1) * G + (n + 1) * P := by rw [e, Nat.mul_add, Nat.mul_add]
      have h1 : m + n ≤ (n + 1) * m := by
        obtain ⟨q, rfl⟩ : ∃ q, m = q + 1 := ⟨m - 1, by omega⟩
        rw [Nat.mul_add, Nat.mul_one, Nat.add_mul, Nat.one_mul]
        have := Nat.zero_le (n * q)
        omega
      have h2 : G ≤ (n + 1) * G := Nat.le_mul_of_pos_left G (Nat.succ_pos n)
      omega
theorem blanks_law (n : Nat) (s : B) (f : Nat) (l : List (Int × B × Nat)) (h : scanS num ref valid f s 0 = some l) :
    (build n s l).length ≤ (n + 1) * s.length ∧ ∃ f0, ∀ f', f0 ≤ f' → ∃ m, scanS num ref valid f' (build n s l) 0 = some m ∧ words m = words l := by
  have hg := gap_past s
  have h0 : scanS num ref valid f (gap s ++ past s) 0 = some l := by rw [hg]; exact h
  obtain ⟨f2, e2, h2⟩ := scan_unskip num ref valid (past s) (gap s) f 0 l (gap_all s) h0
  rw [Nat.zero_add] at h2
  obtain ⟨hb, _⟩ := build_blow num ref valid n s (past s).length (past s) (Nat.le_refl _) (past_head s) (past s).length f2 (gap s) l (Nat.le_refl _) hg.symm h2
  rw [hb]
  refine ⟨?_, blanks_main num ref valid n (past s).length (past s) (Nat.le_refl _) (past_head s) (past s).length f2 _ l (Nat.le_refl _) h2 0⟩
  have h3 := blow_len num ref valid n (past s).length (past s)
  have h4 := past_len s
  have : (n + 1) * (past s).length ≤ (n + 1) * s.length := Nat.mul_le_mul_left _ (by omega)
  omega
def begunS : B := [83, 85, 77, 40, 65, 49, 58, 36, 66, 50, 41, 32, 38, 32, 34, 97, 34, 34, 98, 34]
theorem begun_scan (n1 : num [83, 85, 77] = false) (r1 : ref [83, 85, 77] = false) (n2 : num [65, 49] = false) (r2 : ref [65, 49] = true) (n3 : num [36, 66, 50] = false) (r3 : ref [36, 66, 50] = true) (v1 : valid [97, 34, 98] = true) :
    scanS num ref valid 30 begunS 0 = some [(4, [83, 85, 77], 0), (6, [40], 3), (3, [65, 49], 4), (6, [58], 6), (3, [36, 66, 50], 7), (6, [41], 10), (6, [38], 12), (2, [97, 34, 98], 14), (7, [], 20)] := by
  have a1 : nextS num ref valid [83, 85, 77, 40, 65, 49, 58, 36, 66, 50, 41, 32, 38, 32, 34, 97, 34, 34, 98, 34] = some (4, [83, 85, 77], 3) := by
    show (if wordS num ref [83, 85, 77] _ = 0 then none else some (wordS num ref [83, 85, 77] _, _, _)) = _
    unfold wordS
    rw [n1, r1]
    rfl
  have a2 : nextS num ref valid [40, 65, 49, 58, 36, 66, 50, 41, 32, 38, 32, 34, 97, 34, 34, 98, 34] = some (6, [40], 1) := rfl
  have a3 : nextS num ref valid [65, 49, 58, 36, 66, 50, 41, 32, 38, 32, 34, 97, 34, 34, 98, 34] = some (3, [65, 49], 2) := by
    show (if wordS num ref [65, 49] _ = 0 then none else some (wordS num ref [65, 49] _, _, _)) = _
    unfold wordS
    rw [n2, r2]
    rfl
  have a4 : nextS num ref valid [58, 36, 66, 50, 41, 32, 38, 32, 34, 97, 34, 34, 98, 34] = some (6, [58], 1) := rfl
  have a5 : nextS num ref valid [36, 66, 50, 41, 32, 38, 32, 34, 97, 34, 34, 98, 34] = some (3, [36, 66, 50], 3) := by
    show (if wordS num ref [36, 66, 50] _ = 0 then none else some (wordS num ref [36, 66, 50] _, _, _)) = _
    unfold wordS
    rw [n3, r3]
    rfl
  have a6 : nextS num ref valid [41, 32, 38, 32, 34, 97, 34, 34, 98, 34] = some (6, [41], 1) := rfl
  have a7 : nextS num ref valid [38, 32, 34, 97, 34, 34, 98, 34] = some (6, [38], 1) := rfl
  have a8 : nextS num ref valid [34, 97, 34, 34, 98, 34] = some (2, [97, 34, 98], 6) := by
    show (qu valid [97, 34, 34, 98, 34] [] 1).map _ = _
    have : qu valid [97, 34, 34, 98, 34] [] 1 = some ([97, 34, 98], 6) := by
      rw [qu_other valid 97 (by decide), qu_two, qu_other valid 98 (by decide), qu_stop valid _ _ [] (by simp), if_pos ⟨by decide, v1⟩]
      rfl
    rw [this]
    rfl
  unfold begunS
  refine scan_mk num ref valid 29 0 83 _ (by decide) 4 _ 3 _ a1 ?_
  refine scan_mk num ref valid 28 3 40 _ (by decide) 6 _ 1 _ a2 ?_
  refine scan_mk num ref valid 27 4 65 _ (by decide) 3 _ 2 _ a3 ?_
  refine scan_mk num ref valid 26 6 58 _ (by decide) 6 _ 1 _ a4 ?_
  refine scan_mk num ref valid 25 7 36 _ (by decide) 3 _ 3 _ a5 ?_
  refine scan_mk num ref valid 24 10 41 _ (by decide) 6 _ 1 _ a6 ?_
  refine (scan_skip num ref valid _ 23 [32] 11 (by simp)).trans ?_
  refine scan_mk num ref valid 22 12 38 _ (by decide) 6 _ 1 _ a7 ?_
  refine (scan_skip num ref valid _ 21 [32] 13 (by simp)).trans ?_
  refine scan_mk num ref valid 20 14 34 _ (by decide) 2 _ 6 _ a8 ?_
  rfl
end
end Go.Proofs.YtpabggjnkoehfaaDoor.Lx
end
