/- Part 2 of what the claim's proof stands on: contracts of the program's functions, by walks, and plain laws. -/
import Derived.Test.YtfnbflhoaemmeaaGreatDoorZc1
import Derived.ArgAppend
import Derived.Below
import Derived.BigQuiet
import Derived.ChangeAlike
import Derived.Deep.AppendLies
import Derived.Deep.CutBlock
import Derived.Deep.DeepCutAuto
import Derived.Deep.Draws
import Derived.Deep.LoopGhost
import Derived.Deep.OwnRows
import Derived.Deep.QuietTactic
import Derived.Deep.RegionHeld3
import Derived.Deep.RegionWith
import Derived.KernelRfl
import Derived.Laws.BitsLemmas
import Derived.Laws.BytesArg
import Derived.Laws.Cover1
import Derived.Laws.IdiomCopy
import Derived.Laws.MakeOwn
import Derived.Laws.OwnMore
import Derived.Laws.Rows
import Derived.Laws.Slices
import Derived.Lib.AppendStr
import Derived.Lib.Bytealg
import Derived.Lib.ConvBytes
import Derived.Lib.ItoaNum
import Derived.Lib.ValidLaws
import Derived.Maps.AppendAt
import Derived.OrdersHeld
import Derived.OwnWalk
import Derived.RegionTactic
import Derived.RowKit
import Derived.RowKit3
import Derived.Tactics
import Derived.Test.YtfnbflhoaemmeaaGreatDoorProg
import Derived.WalkKit
import Derived.WideLaws
section
namespace Go.Proofs.YtfnbflhoaemmeaaGreatDoor.EFix
open Go.RowKit Go.Proofs.YtfnbflhoaemmeaaGreatDoor.Ext Go.Proofs.YtfnbflhoaemmeaaGreatDoor.EFxA Go.Proofs.YtfnbflhoaemmeaaGreatDoorW.PrintWords Go.Proofs.YtfnbflhoaemmeaaGreatDoorW.PrintLast Go.Proofs.YtfnbflhoaemmeaaGreatDoorW.PrintMore
attribute [local go_sem] max2_int min2_int max_two min_two max_three min_three max_four min_four   
set_option linter.unusedVariables false
set_option linter.unusedSimpArgs false
def fixnum_Sum.l0 : Nat → Int → Int → List Int → Int → Int → Option (Int × Bool)
  | 0, _, _, _, _, _ => none
  | k + 1, x4, x5, x9, x10, x11 => if x11 < x10 then (if 0 ≤ x11 then (if x11 < (x9.length : Int) then ((add64.f x5 (IntKind.u64.wrap (rd x9 x11)) 0).bind fun bt107 => ((add64.f x4 (IntKind.u64.wrap ((rd x9 x11) / 9223372036854775808)) bt107.2).bind fun bt109 => (fixnum_Sum.l0 k bt109.1 bt107.1 x9 x10 (wrap64 (x11 + 1))))) else (none)) else (none)) else (if x4 = (IntKind.u64.wrap ((wrap64 (x5)) / 9223372036854775808)) then (some (wrap64 (x5), true)) else (some (0, false)))
def fixnum_Sum.f (k : Nat) (l0 : List Int) : Option (Int × Bool) := fixnum_Sum.l0 k 0 0 l0 (l0.length : Int) 0
set_option maxHeartbeats 8000000 in
set_option maxRecDepth 100000 in
theorem fixnum_Sum.calls (k : Nat) (A0 : Option Addr) (c0 : Nat) (l0 : List Int) (r1 : Int) (r2 : Bool) (w : World) (hr0 : Kd.C (Kd.int .i64) w A0 l0.length l0) (hc0 : l0.length ≤ c0) (h : fixnum_Sum.f k l0 = some (r1, r2)) :
    Calls Tryz.prog 84 #[.slice A0 l0.length c0] w fun e w' => e = .returned (.tuple #[.int .i64 r1, .bool r2]) ∧ Drawn0 w w' := by
  have HR0 := Aside0.mk hr0
  have HC0 := Aside0.mk hc0
  clear hr0 hc0
  have H : (fixnum_Sum.l0 k 0 0 l0 (l0.length : Int) 0) = some (r1, r2) := h
  clear h
  have H' := Aside0.mk H
  clear H
  go_enter Tryz.func84, Tryz.ntmps84
  go_wp2
  go_loopg [4, 5, 11] k (fun kq v4 v5 v11 w' => ∃ (x4_1 : Int) (x5_1 : Int) (x11_1 : Int), v4 = .int .u64 x4_1 ∧ v5 = .int .u64 x5_1 ∧ v11 = .int .i64 x11_1 ∧ Aside0 (fixnum_Sum.l0 kq x4_1 x5_1 l0 (l0.length : Int) x11_1 = some (r1, r2)) ∧ Aside0 (kq ≤ k) ∧ Drawn0 w w')
  case atStart => exact ⟨(0), (0), (0), (by first | rfl | (simp; done) | (simp [*]; done)), (by first | rfl | (simp; done) | (simp [*]; done)), (by first | rfl | (simp; done) | (simp [*]; done)), H', ⟨Nat.le_refl _⟩, by repeat (first | exact Drawn0.refl _ | apply Drawn0.step)⟩
  case round =>
    clear H'
    obtain ⟨x4_1, x5_1, x11_1, rfl, rfl, rfl, HA, HK1, ⟨m1, rfl⟩⟩ := hrel
    cases gk with
    | zero => exact absurd HA.out (by simp [fixnum_Sum.l0])
    | succ k1 =>
      have H := HA.out
      clear HA
      simp only [fixnum_Sum.l0] at H
      by_cases c2 : x11_1 < (l0.length : Int)
      · rw [if_pos c2] at H
        have c2b0 : decide (x11_1 < (l0.length : Int)) = true := decide_eq_true c2
        clear c2
        by_cases c3 : 0 ≤ x11_1
        · rw [if_pos c3] at H
          have c3b0 : decide (0 ≤ x11_1) = true := decide_eq_true c3
          clear c3
          by_cases c4 : x11_1 < (l0.length : Int)
          · rw [if_pos c4] at H
            have c4b0 : decide (x11_1 < (l0.length : Int)) = true := decide_eq_true c4
            clear c4
            replace H := Option.bind_eq_some_iff.mp H
            obtain ⟨⟨t107, t108⟩, A50, H⟩ := H
            replace H : ((add64.f x4_1 (IntKind.u64.wrap ((rd l0 x11_1) / 9223372036854775808)) t108).bind fun bt109 => (fixnum_Sum.l0 k1 bt109.1 t107 l0 (l0.length : Int) (wrap64 (x11_1 + 1)))) = some (r1, r2) := H
            have A5 := Aside0.mk A50
            clear A50
            replace H := Option.bind_eq_some_iff.mp H
            obtain ⟨⟨t109, t110⟩, A60, H⟩ := H
            replace H : (fixnum_Sum.l0 k1 t109 t107 l0 (l0.length : Int) (wrap64 (x11_1 + 1))) = some (r1, r2) := H
            have A6 := Aside0.mk A60
            clear A60
            have H' := Aside0.mk H
            clear H
            have p106 : 0 ≤ (x11_1 : Int) := of_decide_eq_true (by first | (with_reducible assumption) | assumption)
            have q106 : x11_1 < (l0.length : Int) := of_decide_eq_true (by first | (with_reducible assumption) | assumption)
            obtain ⟨ad106, e106, hx106_0⟩ := Kd.at_int HR0.out x11_1 p106 q106
            cases e106
            replace p106 := eq_true p106
            replace q106 := eq_true q106
            try (have q106z := q106; simp only [ByteArray.size_extract, Nat.min_self] at q106z)
            go_wp2_with (first | ((with_reducible refine gate_callee (f := 107) rfl ?_); refine add64_event (some 19) rfl rfl rfl x5_1 (IntKind.u64.wrap (rd l0 x11_1)) 0 t107 t108 (by (try simp only [List.map_toArray, List.map_cons, List.map_nil]); first | done | rfl | (simp only [List.length_drop, List.length_take]; rfl)) A5.out ?_) | ((with_reducible refine gate_callee (f := 107) rfl ?_); refine add64_event (some 28) rfl rfl rfl x4_1 (IntKind.u64.wrap ((rd l0 x11_1) / 9223372036854775808)) t108 t109 t110 (by (try simp only [List.map_toArray, List.map_cons, List.map_nil]); first | done | rfl | (simp only [List.length_drop, List.length_take]; rfl)) A6.out ?_))
            go_roundg k1
            case measure => have := HK1.out; omega
            case rel => exact ⟨(t109), (t107), (wrap64 (x11_1 + 1)), (by first | rfl | (simp; done) | (simp [*]; done)), (by first | rfl | (simp; done) | (simp [*]; done)), (by first | rfl | (simp; done) | (simp [*]; done)), H', ⟨by have := HK1.out; omega⟩, by repeat (first | exact Drawn0.refl _ | apply Drawn0.step)⟩
          · rw [if_neg c4] at H
            exact absurd H (by simp)
        · rw [if_neg c3] at H
          exact absurd H (by simp)
      · rw [if_neg c2] at H
        have c2b0 : decide (x11_1 < (l0.length : Int)) = false := decide_eq_false c2
        clear c2
        by_cases c7 : x4_1 = (IntKind.u64.wrap ((wrap64 (x5_1)) / 9223372036854775808))
        · rw [if_pos c7] at H
          have c7b0 : (x4_1 == (IntKind.u64.wrap ((wrap64 (x5_1)) / 9223372036854775808))) = true := beq_iff_eq.mpr c7
          have c7b1 : (x4_1 != (IntKind.u64.wrap ((wrap64 (x5_1)) / 9223372036854775808))) = false := bne_eq_false_iff_eq.mpr c7
          clear c7
          simp only [Option.some.injEq, Prod.mk.injEq] at H
          obtain ⟨rfl, rfl⟩ := H
          go_wp2
          go_ret2
          exact ⟨by first | rfl | (simp; done) | (simp [*]; done) | (simp; generalize ByteArray.toList _ = l_; cases l_ <;> rfl), by repeat (first | exact Drawn0.refl _ | apply Drawn0.step)⟩
        · rw [if_neg c7] at H
          have c7b0 : (x4_1 == (IntKind.u64.wrap ((wrap64 (x5_1)) / 9223372036854775808))) = false := beq_eq_false_iff_ne.mpr c7
          have c7b1 : (x4_1 != (IntKind.u64.wrap ((wrap64 (x5_1)) / 9223372036854775808))) = true := bne_iff_ne.mpr c7
          simp only [Option.some.injEq, Prod.mk.injEq] at H
          obtain ⟨rfl, rfl⟩ := H
          go_wp2
          go_ret2
          exact ⟨by first | rfl | (simp; done) | (simp [*]; done) | (simp; generalize ByteArray.toList _ = l_; cases l_ <;> rfl), by repeat (first | exact Drawn0.refl _ | apply Drawn0.step)⟩
def fixnum_Sub.f (a0 : Int) (a1 : Int) : Option (Int × Bool) := if ((decide (a1 > 0)) != (decide ((wrap64 (a0 - a1)) < a0))) = true then (if a1 = 0 then (some (wrap64 (a0 - a1), true)) else (some (0, false))) else (some (wrap64 (a0 - a1), true))
set_option maxHeartbeats 8000000 in
set_option maxRecDepth 100000 in
theorem fixnum_Sub.calls (a0 : Int) (a1 : Int) (r1 : Int) (r2 : Bool) (w : World) (h : fixnum_Sub.f a0 a1 = some (r1, r2)) :
    Calls Tryz.prog 88 #[.int .i64 a0, .int .i64 a1] w fun e w' => e = .returned (.tuple #[.int .i64 r1, .bool r2]) ∧ Drawn0 w w' := by
  have H : (if ((decide (a1 > 0)) != (decide ((wrap64 (a0 - a1)) < a0))) = true then (if a1 = 0 then (some (wrap64 (a0 - a1), true)) else (some (0, false))) else (some (wrap64 (a0 - a1), true))) = some (r1, r2) := h
  clear h
  by_cases c3 : ((decide (a1 > 0)) != (decide ((wrap64 (a0 - a1)) < a0))) = true
  · rw [if_pos c3] at H
    have c3b0 : ((decide (a1 > 0)) != (decide ((wrap64 (a0 - a1)) < a0))) = true := c3
    (try (have c3b1 : decide ((decide (a1 > 0)) = (decide ((wrap64 (a0 - a1)) < a0))) = false := by simpa using c3))
    (try (have c3b2 : ((decide (a1 > 0)) == (decide ((wrap64 (a0 - a1)) < a0))) = false := by simpa using c3))
    (try (have c3b3 : ¬ ((decide (a1 > 0)) = (decide ((wrap64 (a0 - a1)) < a0))) := by simpa using c3))
    clear c3
    by_cases c4 : a1 = 0
    · rw [if_pos c4] at H
      have c4b0 : (a1 == 0) = true := beq_iff_eq.mpr c4
      have c4b1 : (a1 != 0) = false := bne_eq_false_iff_eq.mpr c4
      clear c4
      simp only [Option.some.injEq, Prod.mk.injEq] at H
      obtain ⟨rfl, rfl⟩ := H
      go_enter Tryz.func88, Tryz.ntmps88
      go_wp2
      go_ret2
      exact ⟨by first | rfl | (simp; done) | (simp [*]; done) | (simp; generalize ByteArray.toList _ = l_; cases l_ <;> rfl), by repeat (first | exact Drawn0.refl _ | apply Drawn0.step)⟩
    · rw [if_neg c4] at H
      have c4b0 : (a1 == 0) = false := beq_eq_false_iff_ne.mpr c4
      have c4b1 : (a1 != 0) = true := bne_iff_ne.mpr c4
      simp only [Option.some.injEq, Prod.mk.injEq] at H
      obtain ⟨rfl, rfl⟩ := H
      go_enter Tryz.func88, Tryz.ntmps88
      go_wp2
      go_ret2
      exact ⟨by first | rfl | (simp; done) | (simp [*]; done) | (simp; generalize ByteArray.toList _ = l_; cases l_ <;> rfl), by repeat (first | exact Drawn0.refl _ | apply Drawn0.step)⟩
  · rw [if_neg c3] at H
    have c3b0 : ((decide (a1 > 0)) != (decide ((wrap64 (a0 - a1)) < a0))) = false := by simpa using c3
    (try (have c3b1 : decide ((decide (a1 > 0)) = (decide ((wrap64 (a0 - a1)) < a0))) = true := by simpa using c3))
    (try (have c3b2 : ((decide (a1 > 0)) == (decide ((wrap64 (a0 - a1)) < a0))) = true := by simpa using c3))
    clear c3
    simp only [Option.some.injEq, Prod.mk.injEq] at H
    obtain ⟨rfl, rfl⟩ := H
    go_enter Tryz.func88, Tryz.ntmps88
    go_wp2
    go_ret2
    exact ⟨by first | rfl | (simp; done) | (simp [*]; done) | (simp; generalize ByteArray.toList _ = l_; cases l_ <;> rfl), by repeat (first | exact Drawn0.refl _ | apply Drawn0.step)⟩
def fixnum_Div.f (a0 : Int) (a1 : Int) : Option (Int × Bool) := (fixnum_abs.f a0).bind fun bt126 => ((fixnum_abs.f a1).bind fun bt128 => ((mul64.f bt126.1 10000).bind fun bt130 => (if bt128.1 ≤ bt130.1 then (some (0, false)) else ((math_bits_Div64.f bt130.1 bt130.2 bt128.1).bind fun bt132 => ((signed3.f bt132.1 (bt126.2 != bt128.2)).bind fun bt134 => (some (bt134.1, bt134.2)))))))
set_option maxHeartbeats 8000000 in
set_option maxRecDepth 100000 in
theorem fixnum_Div.calls (a0 : Int) (a1 : Int) (r1 : Int) (r2 : Bool) (w : World) (h : fixnum_Div.f a0 a1 = some (r1, r2)) :
    Calls Tryz.prog 85 #[.int .i64 a0, .int .i64 a1] w fun e w' => e = .returned (.tuple #[.int .i64 r1, .bool r2]) ∧ Drawn0 w w' := by
  have H : ((fixnum_abs.f a0).bind fun bt126 => ((fixnum_abs.f a1).bind fun bt128 => ((mul64.f bt126.1 10000).bind fun bt130 => (if bt128.1 ≤ bt130.1 then (some (0, false)) else ((math_bits_Div64.f bt130.1 bt130.2 bt128.1).bind fun bt132 => ((signed3.f bt132.1 (bt126.2 != bt128.2)).bind fun bt134 => (some (bt134.1, bt134.2)))))))) = some (r1, r2) := h
  clear h
  replace H := Option.bind_eq_some_iff.mp H
  obtain ⟨⟨t126, t127⟩, A30, H⟩ := H
  replace H : ((fixnum_abs.f a1).bind fun bt128 => ((mul64.f t126 10000).bind fun bt130 => (if bt128.1 ≤ bt130.1 then (some (0, false)) else ((math_bits_Div64.f bt130.1 bt130.2 bt128.1).bind fun bt132 => ((signed3.f bt132.1 (t127 != bt128.2)).bind fun bt134 => (some (bt134.1, bt134.2))))))) = some (r1, r2) := H
  have A3 := Aside0.mk A30
  clear A30
  replace H := Option.bind_eq_some_iff.mp H
  obtain ⟨⟨t128, t129⟩, A40, H⟩ := H
  replace H : ((mul64.f t126 10000).bind fun bt130 => (if t128 ≤ bt130.1 then (some (0, false)) else ((math_bits_Div64.f bt130.1 bt130.2 t128).bind fun bt132 => ((signed3.f bt132.1 (t127 != t129)).bind fun bt134 => (some (bt134.1, bt134.2)))))) = some (r1, r2) := H
  have A4 := Aside0.mk A40
  clear A40
  replace H := Option.bind_eq_some_iff.mp H
  obtain ⟨⟨t130, t131⟩, A50, H⟩ := H
  replace H : (if t128 ≤ t130 then (some (0, false)) else ((math_bits_Div64.f t130 t131 t128).bind fun bt132 => ((signed3.f bt132.1 (t127 != t129)).bind fun bt134 => (some (bt134.1, bt134.2))))) = some (r1, r2) := H
  have A5 := Aside0.mk A50
  clear A50
  by_cases c6 : t128 ≤ t130
  · rw [if_pos c6] at H
    have c6b0 : decide (t128 ≤ t130) = true := decide_eq_true c6
    clear c6
    simp only [Option.some.injEq, Prod.mk.injEq] at H
    obtain ⟨rfl, rfl⟩ := H
    go_enter Tryz.func85, Tryz.ntmps85
    go_wp2_with (first | ((with_reducible refine gate_callee (f := 76) rfl ?_); refine goesL_ (some 16) rfl rfl Tryz.func76 (by kernel_rfl) rfl #[.int .i64 a0] rfl (by (try simp only [List.map_toArray, List.map_cons, List.map_nil]); first | done | rfl | (simp only [List.length_drop, List.length_take]; rfl)) ?_; (with_reducible refine (fixnum_abs.calls a0 t126 t127 _ A3.out).mono ?_); rintro e w' ⟨rfl, ⟨nd, rfl⟩⟩; refine ⟨_, rfl, ?_⟩) | ((with_reducible refine gate_callee (f := 76) rfl ?_); refine goesL_ (some 21) rfl rfl Tryz.func76 (by kernel_rfl) rfl #[.int .i64 a1] rfl (by (try simp only [List.map_toArray, List.map_cons, List.map_nil]); first | done | rfl | (simp only [List.length_drop, List.length_take]; rfl)) ?_; (with_reducible refine (fixnum_abs.calls a1 t128 t129 _ A4.out).mono ?_); rintro e w' ⟨rfl, ⟨nd, rfl⟩⟩; refine ⟨_, rfl, ?_⟩) | ((with_reducible refine gate_callee (f := 108) rfl ?_); refine goesL_ (some 26) rfl rfl Tryz.func108 (by kernel_rfl) rfl #[.int .u64 t126, .int .u64 10000] rfl (by (try simp only [List.map_toArray, List.map_cons, List.map_nil]); first | done | rfl | (simp only [List.length_drop, List.length_take]; rfl)) ?_; (with_reducible refine (mul64.calls t126 10000 t130 t131 _ A5.out).mono ?_); rintro e w' ⟨rfl, ⟨nd, rfl⟩⟩; refine ⟨_, rfl, ?_⟩))
    go_ret2
    exact ⟨by first | rfl | (simp; done) | (simp [*]; done) | (simp; generalize ByteArray.toList _ = l_; cases l_ <;> rfl), by repeat (first | exact Drawn0.refl _ | apply Drawn0.step)⟩
  · rw [if_neg c6] at H
    have c6b0 : decide (t128 ≤ t130) = false := decide_eq_false c6
    clear c6
    replace H := Option.bind_eq_some_iff.mp H
    obtain ⟨⟨t132, t133⟩, A70, H⟩ := H
    replace H : ((signed3.f t132 (t127 != t129)).bind fun bt134 => (some (bt134.1, bt134.2))) = some (r1, r2) := H
    have A7 := Aside0.mk A70
    clear A70
    replace H := Option.bind_eq_some_iff.mp H
    obtain ⟨⟨t134, t135⟩, A80, H⟩ := H
    replace H : (some (t134, t135)) = some (r1, r2) := H
    have A8 := Aside0.mk A80
    clear A80
    simp only [Option.some.injEq, Prod.mk.injEq] at H
    obtain ⟨rfl, rfl⟩ := H
    go_enter Tryz.func85, Tryz.ntmps85
    go_wp2_with (first | ((with_reducible refine gate_callee (f := 76) rfl ?_); refine goesL_ (some 16) rfl rfl Tryz.func76 (by kernel_rfl) rfl #[.int .i64 a0] rfl (by (try simp only [List.map_toArray, List.map_cons, List.map_nil]); first | done | rfl | (simp only [List.length_drop, List.length_take]; rfl)) ?_; (with_reducible refine (fixnum_abs.calls a0 t126 t127 _ A3.out).mono ?_); rintro e w' ⟨rfl, ⟨nd, rfl⟩⟩; refine ⟨_, rfl, ?_⟩) | ((with_reducible refine gate_callee (f := 76) rfl ?_); refine goesL_ (some 21) rfl rfl Tryz.func76 (by kernel_rfl) rfl #[.int .i64 a1] rfl (by (try simp only [List.map_toArray, List.map_cons, List.map_nil]); first | done | rfl | (simp only [List.length_drop, List.length_take]; rfl)) ?_; (with_reducible refine (fixnum_abs.calls a1 t128 t129 _ A4.out).mono ?_); rintro e w' ⟨rfl, ⟨nd, rfl⟩⟩; refine ⟨_, rfl, ?_⟩) | ((with_reducible refine gate_callee (f := 108) rfl ?_); refine goesL_ (some 26) rfl rfl Tryz.func108 (by kernel_rfl) rfl #[.int .u64 t126, .int .u64 10000] rfl (by (try simp only [List.map_toArray, List.map_cons, List.map_nil]); first | done | rfl | (simp only [List.length_drop, List.length_take]; rfl)) ?_; (with_reducible refine (mul64.calls t126 10000 t130 t131 _ A5.out).mono ?_); rintro e w' ⟨rfl, ⟨nd, rfl⟩⟩; refine ⟨_, rfl, ?_⟩) | ((with_reducible refine gate_callee (f := 109) rfl ?_); refine goesL_ (some 36) rfl rfl Tryz.func109 (by kernel_rfl) rfl #[.int .u64 t130, .int .u64 t131, .int .u64 t128] rfl (by (try simp only [List.map_toArray, List.map_cons, List.map_nil]); first | done | rfl | (simp only [List.length_drop, List.length_take]; rfl)) ?_; (with_reducible refine (math_bits_Div64.calls t130 t131 t128 t132 t133 _ A7.out).mono ?_); rintro e w' ⟨rfl, ⟨nd, rfl⟩⟩; refine ⟨_, rfl, ?_⟩) | ((with_reducible refine gate_callee (f := 71) rfl ?_); refine goesL_ (some 43) rfl rfl Tryz.func71 (by kernel_rfl) rfl #[.int .u64 t132, .bool (t127 != t129)] rfl (by (try simp only [List.map_toArray, List.map_cons, List.map_nil]); first | done | rfl | (simp only [List.length_drop, List.length_take]; rfl)) ?_; (with_reducible refine (signed3.calls t132 (t127 != t129) t134 t135 _ A8.out).mono ?_); rintro e w' ⟨rfl, ⟨nd, rfl⟩⟩; refine ⟨_, rfl, ?_⟩))
    go_ret2
    exact ⟨by first | rfl | (simp; done) | (simp [*]; done) | (simp; generalize ByteArray.toList _ = l_; cases l_ <;> rfl), by repeat (first | exact Drawn0.refl _ | apply Drawn0.step)⟩
end Go.Proofs.YtfnbflhoaemmeaaGreatDoor.EFix
end
section
namespace Go.Proofs.YtfnbflhoaemmeaaGreatDoor.EFix
open Go.RowKit Go.Lib Go.Proofs.YtfnbflhoaemmeaaGreatDoorW.PrintWords Go.Proofs.YtfnbflhoaemmeaaGreatDoorW.PrintLast Go.Proofs.YtfnbflhoaemmeaaGreatDoor.Ext Go.Proofs.YtfnbflhoaemmeaaGreatDoor.EFxA
theorem signed3_f (u : Nat) (neg : Bool) (h : u < 18446744073709551616) : signed3.f (u : Int) neg = some (sgnS u neg) := by
  have := signed_f u neg h
  rw [signed3_eq _ _ (by omega) (by omega)] at this
  unfold signed3.f
  rw [if_pos ⟨by omega, by omega⟩, this]
theorem mul64_f (x y : Nat) (hx : x < 18446744073709551616) (hy : y < 18446744073709551616) : mul64.f (x : Int) (y : Int) = some (((x * y / 18446744073709551616 : Nat) : Int), ((x * y % 18446744073709551616 : Nat) : Int)) := by
  unfold mul64.f
  rw [if_pos ⟨⟨by omega, by omega⟩, by omega, by omega⟩]
  congr 2
theorem div64_f (P y : Nat) (h : (P / 18446744073709551616 = 0 ∧ 0 < y ∧ y < 18446744073709551616) ∨ (P / 18446744073709551616 < 10000 ∧ y = 10000)) :
    math_bits_Div64.f ((P / 18446744073709551616 : Nat) : Int) ((P % 18446744073709551616 : Nat) : Int) (y : Int) = some (((P / y : Nat) : Int), ((P % y : Nat) : Int)) := by
  have e : ((P / 18446744073709551616 : Nat) : Int) * 18446744073709551616 + ((P % 18446744073709551616 : Nat) : Int) = (P : Int) := by omega
  unfold math_bits_Div64.f
  rw [e, if_pos]
  · congr 2
  · refine ⟨by omega, by omega, ?_⟩
    rcases h with ⟨h1, h2, h3⟩ | ⟨h1, rfl⟩
    · exact .inl ⟨by omega, by omega, by omega⟩
    · by_cases c : P / 18446744073709551616 = 0
      · exact .inl ⟨by omega, by omega, by omega⟩
      · exact .inr ⟨by omega, by omega, by omega⟩
def divS (a b : Int) : Int × Bool := if b.natAbs ≤ a.natAbs * 10000 / 18446744073709551616 then (0, false) else sgnS (a.natAbs * 10000 / b.natAbs) (decide (a < 0) != decide (b < 0))
theorem div_f (a b : Int) (h0 : -9223372036854775808 ≤ a) (h1 : a ≤ 9223372036854775807) (g0 : -9223372036854775808 ≤ b) (g1 : b ≤ 9223372036854775807)
    (hb : b.natAbs = 0 ∨ a.natAbs * 10000 / 18446744073709551616 = 0 ∨ b.natAbs = 10000) : fixnum_Div.f a b = some (divS a b) := by
  unfold fixnum_Div.f divS
  rw [abs_f a h0 h1, Option.bind_some, abs_f b g0 g1, Option.bind_some]
  have := mul64_f a.natAbs 10000 (by omega) (by omega)
  rw [show ((10000 : Nat) : Int) = 10000 from rfl] at this
  rw [this, Option.bind_some]
  have hu : a.natAbs ≤ 9223372036854775808 := by omega
  have hv : b.natAbs ≤ 9223372036854775808 := by omega
  generalize a.natAbs = u at *
  generalize b.natAbs = v at *
  by_cases c : v ≤ u * 10000 / 18446744073709551616
  · rw [if_pos (by omega), if_pos c]
  · rw [if_neg (by omega), if_neg c]
    rw [div64_f (u * 10000) v (by omega), Option.bind_some]
    have hq : u * 10000 / v < 18446744073709551616 := by
      rw [Nat.div_lt_iff_lt_mul (by omega)]
      rcases hb with h | h | h
      · omega
      · have : u * 10000 < 18446744073709551616 := by omega
        exact Nat.lt_of_lt_of_le this (Nat.le_mul_of_pos_right _ (by omega))
      · subst h; omega
    rw [signed3_f _ _ hq, Option.bind_some]
end Go.Proofs.YtfnbflhoaemmeaaGreatDoor.EFix
end
section
namespace Go.Proofs.YtfnbflhoaemmeaaGreatDoor.EFix
open Go.RowKit Go.Lib Go.Proofs.YtfnbflhoaemmeaaGreatDoorW.PrintWords Go.Proofs.YtfnbflhoaemmeaaGreatDoorW.PrintLast Go.Proofs.YtfnbflhoaemmeaaGreatDoor.Ext Go.Proofs.YtfnbflhoaemmeaaGreatDoor.EFxA
theorem add64_f (x y c : Int) (h : (0 ≤ x ∧ x < 18446744073709551616) ∧ (0 ≤ y ∧ y < 18446744073709551616) ∧ 0 ≤ c ∧ c ≤ 1) : add64.f x y c = some ((x + y + c) % 18446744073709551616, (x + y + c) / 18446744073709551616) := by
  unfold add64.f
  rw [if_pos h]
def sumS (T : Int) : Int × Bool := if -9223372036854775808 ≤ T ∧ T ≤ 9223372036854775807 then (T, true) else (0, false)
theorem sum_l (l : List Int) (hl : l.length ≤ 1000000) (hw : ∀ a, a ∈ l → -9223372036854775808 ≤ a ∧ a ≤ 9223372036854775807) (d : Nat) : ∀ (k j : Nat) (x4 x5 S : Int), j + d = l.length → d + 1 ≤ k →
    (0 ≤ x4 ∧ x4 < 18446744073709551616) → (0 ≤ x5 ∧ x5 < 18446744073709551616) → (x4 * 18446744073709551616 + x5) % 340282366920938463463374607431768211456 = S % 340282366920938463463374607431768211456 →
    -((j : Int) * 9223372036854775808) ≤ S → S ≤ (j : Int) * 9223372036854775808 →
    fixnum_Sum.l0 k x4 x5 l (l.length : Int) (j : Int) = some (sumS (S + (l.drop j).sum)) := by
  induction d with
  | zero =>
    intro k j x4 x5 S hj hk h4 h5 hm s0 s1
    obtain ⟨k, rfl⟩ : ∃ m, k = m + 1 := ⟨k - 1, by omega⟩
    rw [fixnum_Sum.l0, if_neg (by omega), List.drop_of_length_le (by omega), List.sum_nil, Int.add_zero]
    have ew : IntKind.u64.wrap (wrap64 x5 / 9223372036854775808) = if x5 < 9223372036854775808 then 0 else 18446744073709551615 := by
      rw [wrap_u64]
      unfold wrap64
      split <;> omega
    rw [ew]
    unfold sumS
    have e5 : wrap64 x5 = if x5 < 9223372036854775808 then x5 else x5 - 18446744073709551616 := by
      unfold wrap64
      split <;> omega
    rw [e5]
    by_cases c : x5 < 9223372036854775808
    · rw [if_pos c, if_pos c]
      by_cases c4 : x4 = 0
      · rw [if_pos c4, if_pos (by omega), show x5 = S by omega]
      · rw [if_neg c4, if_neg (by omega)]
    · rw [if_neg c, if_neg c]
      by_cases c4 : x4 = 18446744073709551615
      · rw [if_pos c4, if_pos (by omega), show x5 - 18446744073709551616 = S by omega]
      · rw [if_neg c4, if_neg (by omega)]
  | succ d ih =>
    intro k j x4 x5 S hj hk h4 h5 hm s0 s1
    obtain ⟨k, rfl⟩ : ∃ m, k = m + 1 := ⟨k - 1, by omega⟩
    have hjl : j < l.length := by omega
    have er : rd l (j : Int) = l[j] := by simp [rd, hjl]
    have ha := hw l[j] (List.getElem_mem hjl)
    rw [fixnum_Sum.l0, if_pos (by omega), if_pos (by omega), if_pos (by omega), er, List.drop_eq_getElem_cons hjl, List.sum_cons]
    generalize l[j] = a at ha
    have eA : IntKind.u64.wrap a = a % 18446744073709551616 := wrap_u64 a
    have eB : IntKind.u64.wrap (a / 9223372036854775808) = if a < 0 then 18446744073709551615 else 0 := by
      rw [wrap_u64]
      split <;> omega
    rw [eA, eB, add64_f _ _ _ (by omega), Option.bind_some]
    rw [add64_f _ _ _ (by refine ⟨h4, ?_, ?_, ?_⟩ <;> (try split) <;> omega), Option.bind_some]
    have := ih k (j + 1) ((x4 + (if a < 0 then 18446744073709551615 else 0) + (x5 + a % 18446744073709551616 + 0) / 18446744073709551616) % 18446744073709551616) ((x5 + a % 18446744073709551616 + 0) % 18446744073709551616) (S + a) (by omega) (by omega) (by omega) (by omega) (by split <;> omega) (by omega) (by omega)
    rw [wr _ (by omega) (by omega)]
    rw [show (((j + 1 : Nat) : Int)) = (j : Int) + 1 by omega] at this
    rw [this]
    congr 2
    omega
theorem sum_f (l : List Int) (hl : l.length ≤ 1000000) (hw : ∀ a, a ∈ l → -9223372036854775808 ≤ a ∧ a ≤ 9223372036854775807) (k : Nat) (hk : l.length + 1 ≤ k) : fixnum_Sum.f k l = some (sumS l.sum) := by
  unfold fixnum_Sum.f
  have := sum_l l hl hw l.length k 0 0 0 0 (by omega) hk (by omega) (by omega) (by omega) (by omega) (by omega)
  simpa using this
end Go.Proofs.YtfnbflhoaemmeaaGreatDoor.EFix
end
section
namespace Go.Proofs.YtfnbflhoaemmeaaGreatDoor.EFix
set_option linter.unusedVariables false
theorem kn_mul (y1 y0 q r u : Nat) (h : q * y1 + r = u) : q * (y1 * 4294967296 + y0) + r * 4294967296 = u * 4294967296 + q * y0 := by
  rw [← h, Nat.mul_add, ← Nat.mul_assoc, Nat.add_mul]
  omega
theorem kn_lin {Z a b P x : Nat} (e : Z + a = b + P) (h : a + x < P) : b + x < Z := by omega
theorem kn_lin2 {Z a b P x : Nat} (e : Z + a = b + P) (h : P ≤ a + x) : Z ≤ b + x := by omega
theorem kn_down (y1 y0 u x q r : Nat) (h : q * y1 + r = u) (hu : u < y1 * 4294967296 + y0) (hx : x < 4294967296) (ht : 4294967296 ≤ q ∨ r * 4294967296 + x < q * y0) :
    (u * 4294967296 + x) / (y1 * 4294967296 + y0) < q := by
  have e := kn_mul y1 y0 q r u h
  have hy : 0 < y1 * 4294967296 + y0 := by omega
  rw [Nat.div_lt_iff_lt_mul hy]
  rcases ht with ht | ht
  · obtain ⟨Y, hY⟩ : ∃ Y, y1 * 4294967296 + y0 = Y := ⟨_, rfl⟩
    rw [hY] at hu ⊢
    have h1 := Nat.mul_le_mul_right Y ht
    clear e h hY ht
    obtain ⟨Z, hZ⟩ : ∃ Z, q * Y = Z := ⟨_, rfl⟩
    rw [hZ] at h1 ⊢
    have h2 : Y * 4294967296 ≤ Z := by rw [Nat.mul_comm]; exact h1
    have h3 : (u + 1) * 4294967296 ≤ Y * 4294967296 := Nat.mul_le_mul_right _ hu
    rw [Nat.add_mul, Nat.one_mul] at h3
    exact Nat.lt_of_lt_of_le (Nat.add_lt_add_left hx _) (Nat.le_trans h3 h2)
  · obtain ⟨Z, hZ⟩ : ∃ Z, q * (y1 * 4294967296 + y0) = Z := ⟨_, rfl⟩
    obtain ⟨P, hP⟩ : ∃ P, q * y0 = P := ⟨_, rfl⟩
    rw [hZ, hP] at e
    rw [hP] at ht
    rw [hZ]
    clear hZ hP h hu hy hx
    exact kn_lin e ht
theorem kn_fits (y1 y0 u x q r : Nat) (h : q * y1 + r = u) (hy : 0 < y1 * 4294967296 + y0) (ht : q * y0 ≤ r * 4294967296 + x) : q ≤ (u * 4294967296 + x) / (y1 * 4294967296 + y0) := by
  have e := kn_mul y1 y0 q r u h
  rw [Nat.le_div_iff_mul_le hy]
  obtain ⟨Z, hZ⟩ : ∃ Z, q * (y1 * 4294967296 + y0) = Z := ⟨_, rfl⟩
  obtain ⟨P, hP⟩ : ∃ P, q * y0 = P := ⟨_, rfl⟩
  rw [hZ, hP] at e
  rw [hP] at ht
  rw [hZ]
  clear hZ hP h hy
  exact kn_lin2 e ht
theorem kn_break (y1 y0 u x q r : Nat) (h : q * y1 + r = u) (hy : 0 < y1 * 4294967296 + y0) (h0 : y0 < 4294967296) (hq : q ≤ 4294967296) (hr : 4294967296 ≤ r) : q ≤ (u * 4294967296 + x) / (y1 * 4294967296 + y0) := by
  refine kn_fits y1 y0 u x q r h hy ?_
  have h1 : q * y0 ≤ 4294967296 * y0 := Nat.mul_le_mul_right _ hq
  omega
theorem kn_first (y1 y0 u x : Nat) (hy1 : 2147483648 ≤ y1) (h0 : y0 < 4294967296) (hu : u < y1 * 4294967296 + y0) (hx : x < 4294967296) :
    (u * 4294967296 + x) / (y1 * 4294967296 + y0) ≤ u / y1 ∧ u / y1 ≤ 4294967297 := by
  constructor
  · have h1 : (u * 4294967296 + x) / (y1 * 4294967296 + y0) ≤ (u * 4294967296 + x) / (y1 * 4294967296) := Nat.div_le_div_left (by omega) (by omega)
    have h2 : (u * 4294967296 + x) / (y1 * 4294967296) = u / y1 := by
      rw [Nat.mul_comm y1, ← Nat.div_div_eq_div_mul]
      congr 1
      omega
    omega
  · have h1 : u / y1 < 4294967298 := by
      rw [Nat.div_lt_iff_lt_mul (by omega)]
      omega
    omega
theorem kn_two (u x1 x0 y : Nat) (hy : 0 < y) (hx0 : x0 < 4294967296) : (u * 18446744073709551616 + x1 * 4294967296 + x0) / y = (u * 4294967296 + x1) / y * 4294967296 + ((u * 4294967296 + x1) % y * 4294967296 + x0) / y := by
  have e := Nat.div_add_mod (u * 4294967296 + x1) y
  obtain ⟨q, hq⟩ : ∃ q, (u * 4294967296 + x1) / y = q := ⟨_, rfl⟩
  obtain ⟨r, hr⟩ : ∃ r, (u * 4294967296 + x1) % y = r := ⟨_, rfl⟩
  rw [hq, hr] at e
  rw [hq, hr]
  have e2 : u * 18446744073709551616 + x1 * 4294967296 + x0 = (r * 4294967296 + x0) + y * (q * 4294967296) := by
    rw [← Nat.mul_assoc]
    omega
  rw [e2, Nat.add_mul_div_left _ _ hy]
  omega
theorem kn_digit (u x y : Nat) (hu : u < y) (hx : x < 4294967296) : (u * 4294967296 + x) / y < 4294967296 := by
  rw [Nat.div_lt_iff_lt_mul (by omega)]
  omega
theorem norm_y (y : Nat) (h1 : 1 ≤ y) (h2 : y < 18446744073709551616) : Lib.bitLen y ≤ 64 ∧ 1 ≤ Lib.bitLen y ∧ 9223372036854775808 ≤ y * 2 ^ (64 - Lib.bitLen y) ∧ y * 2 ^ (64 - Lib.bitLen y) < 18446744073709551616 := by
  obtain ⟨a1, a2, a3⟩ := Lib.bitLenAux_bounds 64 y h2 (by omega)
  have e : Lib.bitLen y = Lib.bitLenAux 64 y := rfl
  rw [← e] at a1 a2 a3
  obtain ⟨L, hL⟩ : ∃ L, Lib.bitLen y = L := ⟨_, rfl⟩
  rw [hL] at a1 a2 a3 ⊢
  have hL64 : L ≤ 64 := by
    rcases Nat.lt_or_ge 64 L with h | h
    · exfalso
      have h3 : 2 ^ 64 ≤ 2 ^ (L - 1) := Nat.pow_le_pow_right (by decide) (by omega)
      have h4 : (2 : Nat) ^ 64 = 18446744073709551616 := rfl
      rw [h4] at h3
      omega
    · exact h
  refine ⟨hL64, a1, ?_, ?_⟩
  · have h3 : 2 ^ (L - 1) * 2 ^ (64 - L) ≤ y * 2 ^ (64 - L) := Nat.mul_le_mul_right _ a2
    rw [← Nat.pow_add, show L - 1 + (64 - L) = 63 by omega] at h3
    exact h3
  · have h3 : y * 2 ^ (64 - L) < 2 ^ L * 2 ^ (64 - L) := Nat.mul_lt_mul_of_pos_right a3 (Nat.two_pow_pos _)
    rw [← Nat.pow_add, show L + (64 - L) = 64 by omega] at h3
    exact h3
theorem shift_split (hi lo s : Nat) (hs : s ≤ 64) : (hi * 18446744073709551616 + lo) * 2 ^ s = (hi * 2 ^ s + lo / 2 ^ (64 - s)) * 18446744073709551616 + lo * 2 ^ s % 18446744073709551616 := by
  have h64 : (18446744073709551616 : Nat) = 2 ^ (64 - s) * 2 ^ s := by rw [← Nat.pow_add, show 64 - s + s = 64 by omega]
  have h1 : lo * 2 ^ s / 18446744073709551616 = lo / 2 ^ (64 - s) := by rw [h64]; exact Nat.mul_div_mul_right _ _ (Nat.two_pow_pos s)
  have h2 := Nat.div_add_mod (lo * 2 ^ s) 18446744073709551616
  rw [h1] at h2
  rw [Nat.add_mul, Nat.add_mul, Nat.mul_right_comm hi]
  omega
theorem shift_div (U y s : Nat) : U * 2 ^ s / (y * 2 ^ s) = U / y := Nat.mul_div_mul_right _ _ (Nat.two_pow_pos s)
end Go.Proofs.YtfnbflhoaemmeaaGreatDoor.EFix
namespace Go.Proofs.YtfnbflhoaemmeaaGreatDoor.Ext
open Go.RowKit Go.Proofs.YtfnbflhoaemmeaaGreatDoorW.PrintWords Go.Proofs.YtfnbflhoaemmeaaGreatDoor.EFix
theorem cast_shl (x s : Nat) : (x : Int) * 2 ^ s = ((x * 2 ^ s : Nat) : Int) := by rw [Int.natCast_mul, Int.natCast_pow]; rfl
theorem cast_shr (x s : Nat) : (x : Int) / 2 ^ s = ((x / 2 ^ s : Nat) : Int) := by rw [Int.natCast_ediv, Int.natCast_pow]; rfl
theorem shl_fits (x s : Nat) (h : x * 2 ^ s < 18446744073709551616) : IntKind.u64.wrap ((x : Int) * 2 ^ s) = ((x * 2 ^ s : Nat) : Int) := by rw [cast_shl]; exact wraps_u64 _ (by omega) (by omega)
theorem shl_cut (x s : Nat) : IntKind.u64.wrap ((x : Int) * 2 ^ s) = ((x * 2 ^ s % 18446744073709551616 : Nat) : Int) := by rw [cast_shl, wrap_u64]; omega
theorem or_shift (hi r s : Nat) (hs : s ≤ 64) (h : hi * 2 ^ s < 18446744073709551616) (hr : r < 2 ^ s) : bits .or .u64 ((hi * 2 ^ s : Nat) : Int) (r : Int) = ((hi * 2 ^ s + r : Nat) : Int) := by
  have e : ((2 ^ s : Nat) : Int) = (2 : Int) ^ s := by rw [Int.natCast_pow]; rfl
  have hp : (2 : Nat) ^ s ≤ 2 ^ 64 := Nat.pow_le_pow_right (by decide) hs
  have h64 : (2 : Nat) ^ 64 = 18446744073709551616 := rfl
  rw [h64] at hp
  have h64' : (2 : Int) ^ 64 = 18446744073709551616 := rfl
  have hm : ((hi * 2 ^ s : Nat) : Int) % 2 ^ s = 0 := by rw [← cast_shl]; exact Int.mul_emod_left _ _
  have := bits_join .u64 64 (by decide) wraps_u64 s ((hi * 2 ^ s : Nat) : Int) (r : Int) (Int.natCast_nonneg _) hm (by rw [h64']; exact Int.ofNat_lt.2 h) (Int.natCast_nonneg _) (by rw [← e]; exact Int.ofNat_lt.2 hr) (by rw [h64']; exact Int.ofNat_lt.2 (Nat.lt_of_lt_of_le hr hp))
  rw [this, Int.natCast_add]
end Go.Proofs.YtfnbflhoaemmeaaGreatDoor.Ext
namespace Go.Proofs.YtfnbflhoaemmeaaGreatDoor.Ext
open Go.RowKit Go.Proofs.YtfnbflhoaemmeaaGreatDoorW.PrintWords Go.Proofs.YtfnbflhoaemmeaaGreatDoor.EFix
set_option linter.unusedVariables false
def Kn (y1 y0 u x q r : Nat) : Prop := q * y1 + r = u ∧ (u * 4294967296 + x) / (y1 * 4294967296 + y0) ≤ q ∧ q ≤ 4294967297 ∧ r < 4294967296
def KnB (y1 y0 u x : Nat) : Prop := 2147483648 ≤ y1 ∧ y1 < 4294967296 ∧ y0 < 4294967296 ∧ u < y1 * 4294967296 + y0 ∧ x < 4294967296
theorem kn_start {y1 y0 u x : Nat} (b : KnB y1 y0 u x) : Kn y1 y0 u x (u / y1) (u % y1) := by
  obtain ⟨b1, b2, b3, b4, b5⟩ := b
  obtain ⟨h1, h2⟩ := kn_first y1 y0 u x b1 b3 b4 b5
  have h3 : u % y1 < y1 := Nat.mod_lt _ (by omega)
  refine ⟨?_, h1, h2, by omega⟩
  rw [Nat.mul_comm]
  exact Nat.div_add_mod u y1
theorem kn_ybound {q y0 : Nat} (h : q ≤ 4294967297) (h0 : y0 < 4294967296) : q * y0 < 18446744073709551616 := by
  have := Nat.mul_le_mul h (show y0 ≤ 4294967295 by omega)
  omega
theorem kn_fits2 {y1 y0 u x q r : Nat} (b : KnB y1 y0 u x) (k : Kn y1 y0 u x q r) (ht : ¬ (r * 4294967296 + x < q * y0)) : q = (u * 4294967296 + x) / (y1 * 4294967296 + y0) := by
  obtain ⟨b1, b2, b3, b4, b5⟩ := b
  obtain ⟨k1, k2, k3, k4⟩ := k
  exact Nat.le_antisymm (kn_fits y1 y0 u x q r k1 (by omega) (by omega)) k2
theorem kn_less {y1 y0 u x q r : Nat} (b : KnB y1 y0 u x) (k : Kn y1 y0 u x q r) (ht : 4294967296 ≤ q ∨ r * 4294967296 + x < q * y0) :
    1 ≤ q ∧ (q - 1) * y1 + (r + y1) = u ∧ (u * 4294967296 + x) / (y1 * 4294967296 + y0) ≤ q - 1 ∧ q - 1 ≤ 4294967296 := by
  obtain ⟨b1, b2, b3, b4, b5⟩ := b
  obtain ⟨k1, k2, k3, k4⟩ := k
  have h := kn_down y1 y0 u x q r k1 b4 b5 ht
  obtain ⟨D, hD⟩ : ∃ D, (u * 4294967296 + x) / (y1 * 4294967296 + y0) = D := ⟨_, rfl⟩
  rw [hD] at h k2 ⊢
  clear ht hD
  refine ⟨by omega, ?_, by omega, by omega⟩
  rw [Nat.sub_mul, Nat.one_mul]
  have : y1 ≤ q * y1 := Nat.le_mul_of_pos_left _ (by omega)
  omega
theorem kn_next {y1 y0 u x q r : Nat} (b : KnB y1 y0 u x) (k : Kn y1 y0 u x q r) (ht : 4294967296 ≤ q ∨ r * 4294967296 + x < q * y0) (hr : ¬ (4294967296 ≤ r + y1)) : Kn y1 y0 u x (q - 1) (r + y1) := by
  obtain ⟨h0, h1, h2, h3⟩ := kn_less b k ht
  exact ⟨h1, h2, by omega, by omega⟩
theorem kn_stop {y1 y0 u x q r : Nat} (b : KnB y1 y0 u x) (k : Kn y1 y0 u x q r) (ht : 4294967296 ≤ q ∨ r * 4294967296 + x < q * y0) (hr : 4294967296 ≤ r + y1) : q - 1 = (u * 4294967296 + x) / (y1 * 4294967296 + y0) := by
  obtain ⟨h0, h1, h2, h3⟩ := kn_less b k ht
  obtain ⟨b1, b2, b3, b4, b5⟩ := b
  exact Nat.le_antisymm (kn_break y1 y0 u x (q - 1) (r + y1) h1 (by omega) b3 h3 hr) h2
theorem w_mul (q y : Nat) (h : q * y < 18446744073709551616) : IntKind.u64.wrap ((q : Int) * (y : Int)) = (q : Int) * (y : Int) := by
  rw [← Int.natCast_mul]
  exact wraps_u64 _ (by omega) (by omega)
theorem w_first (u y1 : Nat) : (u : Int) - ((u / y1 : Nat) : Int) * (y1 : Int) = ((u % y1 : Nat) : Int) := by
  have := Nat.div_add_mod u y1
  rw [← Int.natCast_mul]
  rw [Nat.mul_comm] at this
  omega
theorem w_rest {u x q Y : Nat} (hY : 0 < Y) (hy : Y < 18446744073709551616) (h : q = (u * 4294967296 + x) / Y) :
    IntKind.u64.wrap (IntKind.u64.wrap (IntKind.u64.wrap ((u : Int) * 4294967296) + (x : Int)) - IntKind.u64.wrap ((q : Int) * (Y : Int))) = (((u * 4294967296 + x) % Y : Nat) : Int) := by
  have e := Nat.div_add_mod (u * 4294967296 + x) Y
  rw [← h, Nat.mul_comm] at e
  have hm : (u * 4294967296 + x) % Y < Y := Nat.mod_lt _ hY
  obtain ⟨m, hmm⟩ : ∃ m, (u * 4294967296 + x) % Y = m := ⟨_, rfl⟩
  rw [hmm] at e hm
  rw [hmm, ← Int.natCast_mul]
  obtain ⟨P, hP⟩ : ∃ P, q * Y = P := ⟨_, rfl⟩
  rw [hP] at e
  rw [hP]
  simp only [wrap_u64]
  omega
theorem w_two {d1 d0 RQ : Nat} (e : d1 * 4294967296 + d0 = RQ) (h : RQ < 18446744073709551616) : IntKind.u64.wrap (IntKind.u64.wrap ((d1 : Int) * 4294967296) + (d0 : Int)) = (RQ : Int) := by
  simp only [wrap_u64]
  omega
theorem w_two2 {d1 d0 RQ : Nat} (e : d1 * 4294967296 + d0 = RQ) (h : RQ < 18446744073709551616) : IntKind.u64.wrap ((d1 : Int) * 4294967296 + (d0 : Int)) = (RQ : Int) := by
  simp only [wrap_u64]
  omega
theorem kn_whole {hi lo y s Y U Wd x1 x0 D1 D0 V : Nat} (hs : s ≤ 64) (hy : 0 < y) (hY : y * 2 ^ s = Y) (hU : hi * 2 ^ s + lo / 2 ^ (64 - s) = U) (hW : lo * 2 ^ s % 18446744073709551616 = Wd)
    (e1 : Wd / 4294967296 = x1) (e0 : Wd % 4294967296 = x0) (d1 : D1 = (U * 4294967296 + x1) / Y) (v : V = (U * 4294967296 + x1) % Y) (d0 : D0 = (V * 4294967296 + x0) / Y) :
    D1 * 4294967296 + D0 = (hi * 18446744073709551616 + lo) / y ∧ (V * 4294967296 + x0) % Y = (hi * 18446744073709551616 + lo) % y * 2 ^ s := by
  have h := shift_split hi lo s hs
  rw [hU, hW] at h
  have hp : 0 < 2 ^ s := Nat.two_pow_pos s
  have hY0 : 0 < Y := by rw [← hY]; exact Nat.mul_pos hy hp
  have e2 : U * 18446744073709551616 + Wd = U * 18446744073709551616 + x1 * 4294967296 + x0 := by omega
  constructor
  · have k := kn_two U x1 x0 Y hY0 (by omega)
    have g := shift_div (hi * 18446744073709551616 + lo) y s
    rw [hY, h, e2] at g
    rw [← v, ← d1, ← d0] at k
    exact k.symm.trans g
  · have g := Nat.mul_mod_mul_right (2 ^ s) (hi * 18446744073709551616 + lo) y
    rw [hY, h, e2] at g
    have e3 := Nat.div_add_mod (U * 4294967296 + x1) Y
    rw [← v, ← d1] at e3
    have e4 : U * 18446744073709551616 + x1 * 4294967296 + x0 = (V * 4294967296 + x0) + Y * (D1 * 4294967296) := by
      have e5 : Y * (D1 * 4294967296) = Y * D1 * 4294967296 := (Nat.mul_assoc _ _ _).symm
      clear g h e2
      omega
    have e6 : ((V * 4294967296 + x0) + Y * (D1 * 4294967296)) % Y = (V * 4294967296 + x0) % Y := Nat.add_mul_mod_self_left _ _ _
    rw [← e4] at e6
    exact e6.symm.trans g
end Go.Proofs.YtfnbflhoaemmeaaGreatDoor.Ext
end
section
namespace Go.Proofs.YtfnbflhoaemmeaaGreatDoor.Ext
open Go.RowKit Go.Proofs.YtfnbflhoaemmeaaGreatDoorW.PrintWords Go.Proofs.YtfnbflhoaemmeaaGreatDoorW.PrintLast Go.Proofs.YtfnbflhoaemmeaaGreatDoorW.PrintMore Go.Proofs.YtfnbflhoaemmeaaGreatDoor.EFix
attribute [local go_sem] max2_int min2_int max_two min_two max_three min_three max_four min_four
set_option linter.unusedVariables false
set_option linter.unusedSimpArgs false
set_option maxHeartbeats 4000000 in
set_option maxRecDepth 100000 in
theorem div64_gen (hi lo y : Nat) (h0 : 0 < hi) (hs0 : Lib.bitLen y < 64) (h1 : hi < y) (hy : y < 18446744073709551616) (hlo : lo < 18446744073709551616) (w : World) :
    Calls Tryz.prog 109 #[.int .u64 (hi : Int), .int .u64 (lo : Int), .int .u64 (y : Int)] w fun e w' => e = .returned (.tuple #[.int .u64 (((hi * 18446744073709551616 + lo) / y : Nat) : Int), .int .u64 (((hi * 18446744073709551616 + lo) % y : Nat) : Int)]) ∧ Drawn0 w w' := by
  obtain ⟨n1, n2, n3, n4⟩ := norm_y y (by omega) hy
  obtain ⟨L, hL⟩ : ∃ L, Lib.bitLen y = L := ⟨_, rfl⟩
  rw [hL] at n1 n2 n3 n4
  have hlz := fun w => Go.Proofs.Tryz.bits_LeadingZeros64 (y : Int) w (by omega) (by omega)
  rw [Int.toNat_natCast, hL] at hlz
  obtain ⟨s, hs⟩ : ∃ s : Nat, 64 - L = s := ⟨_, rfl⟩
  rw [hs] at n3 n4
  have e64 : (64 : Int) - (L : Int) = (s : Int) := by omega
  rw [e64] at hlz
  have s63 : s ≤ 63 := by omega
  have k0 : ((y : Int) == 0) = false := beq_eq_false_iff_ne.2 (by omega)
  have k0' : decide ((y : Int) = 0) = false := decide_eq_false (by omega)
  have k1 : decide ((y : Int) ≤ (hi : Int)) = false := decide_eq_false (by omega)
  have k2 : ((hi : Int) == 0) = false := beq_eq_false_iff_ne.2 (by omega)
  have k2' : decide ((hi : Int) = 0) = false := decide_eq_false (by omega)
  have k3 : IntKind.u64.wrap (s : Int) = (s : Int) := wraps_u64 _ (by omega) (by omega)
  have s0 : 0 < s := by omega
  have s64 : 64 - s ≤ 63 := by omega
  have hH : hi * 2 ^ s < 18446744073709551616 := Nat.lt_of_le_of_lt (Nat.mul_le_mul_right _ (by omega)) n4
  have g1 := shl_fits y s n4
  have g2 := shl_fits hi s hH
  have g3 := cast_shr lo (64 - s)
  have g5 := shl_cut lo s
  have hR : lo / 2 ^ (64 - s) < 2 ^ s := by
    rw [Nat.div_lt_iff_lt_mul (Nat.two_pow_pos _), ← Nat.pow_add, show s + (64 - s) = 64 by omega]
    exact hlo
  have g4 := or_shift hi (lo / 2 ^ (64 - s)) s (by omega) hH hR
  obtain ⟨Y, hY⟩ : ∃ Y, y * 2 ^ s = Y := ⟨_, rfl⟩
  obtain ⟨H, hHH⟩ : ∃ H, hi * 2 ^ s = H := ⟨_, rfl⟩
  obtain ⟨R, hRR⟩ : ∃ R, lo / 2 ^ (64 - s) = R := ⟨_, rfl⟩
  obtain ⟨Wd, hWd⟩ : ∃ W, lo * 2 ^ s % 18446744073709551616 = W := ⟨_, rfl⟩
  obtain ⟨U, hU⟩ : ∃ U, H + R = U := ⟨_, rfl⟩
  obtain ⟨c, hc⟩ : ∃ c, 64 - s = c := ⟨_, rfl⟩
  rw [hY] at g1 n3 n4
  rw [hHH] at g2 g4 hH
  rw [hRR] at g3 g4 hR
  rw [hWd] at g5
  rw [hU] at g4
  rw [hc] at g3
  have i1 : (s < 64) = True := eq_true (by omega)
  have i2 : (c < 64) = True := eq_true (by omega)
  have i3 : ((s : Int) < 64) = True := eq_true (by omega)
  have i4 : decide ((s : Int) < 64) = true := decide_eq_true (by omega)
  have i5 : IntKind.u64.wrap (64 - (s : Int)) = (c : Int) := by rw [wraps_u64 _ (by omega) (by omega)]; omega
  have i6 : (64 : Int) - (s : Int) = (c : Int) := by omega
  have i7 : decide ((c : Int) < 64) = true := decide_eq_true (by omega)
  have i8 : ((c : Int) < 64) = True := eq_true (by omega)
  obtain ⟨y1, hy1⟩ : ∃ a, Y / 4294967296 = a := ⟨_, rfl⟩
  obtain ⟨y0, hy0⟩ : ∃ a, Y % 4294967296 = a := ⟨_, rfl⟩
  obtain ⟨x1, hx1⟩ : ∃ a, Wd / 4294967296 = a := ⟨_, rfl⟩
  obtain ⟨x0, hx0⟩ : ∃ a, Wd % 4294967296 = a := ⟨_, rfl⟩
  have hWlt : Wd < 18446744073709551616 := by rw [← hWd]; exact Nat.mod_lt _ (by decide)
  have hULt : U < Y := by
    rw [← hU, ← hHH, ← hY]
    have : (hi + 1) * 2 ^ s ≤ y * 2 ^ s := Nat.mul_le_mul_right _ h1
    rw [Nat.add_mul, Nat.one_mul] at this
    omega
  have j1 : (Y : Int) / 4294967296 = (y1 : Int) := by omega
  have j2 : bits .and .u64 (Y : Int) 4294967295 = (y0 : Int) := by rw [and_32 _ (by omega) (by omega)]; omega
  have j3 : (Wd : Int) / 4294967296 = (x1 : Int) := by omega
  have j4 : bits .and .u64 (Wd : Int) 4294967295 = (x0 : Int) := by rw [and_32 _ (by omega) (by omega)]; omega
  have HB1 : Aside0 (KnB y1 y0 U x1) := ⟨by unfold KnB; omega⟩
  have HYY : Aside0 (y1 * 4294967296 + y0 = Y) := ⟨by omega⟩
  have Ypos : 0 < Y := by omega
  have HK1 := Aside0.mk (kn_start HB1.out)
  have j51 : (U : Int).tdiv (y1 : Int) = ((U / y1 : Nat) : Int) := by rw [Int.tdiv_eq_ediv_of_nonneg (by omega), ← Int.natCast_ediv]
  have j61 := w_first U y1
  have j81 := w_mul (U / y1) y1 (Nat.lt_of_le_of_lt (Nat.div_mul_le_self U y1) (by omega))
  have j01 : (U : Int) / (y1 : Int) = ((U / y1 : Nat) : Int) := by rw [← Int.natCast_ediv]
  obtain ⟨Q1, hQ1⟩ : ∃ Q, U / y1 = Q := ⟨_, rfl⟩
  obtain ⟨R1, hR1⟩ : ∃ R, U % y1 = R := ⟨_, rfl⟩
  rw [hQ1] at j51 j61 j81 j01 HK1
  rw [hR1] at j61 HK1
  clear hQ1 hR1
  have j71 : IntKind.u64.wrap (Q1 : Int) = (Q1 : Int) := wraps_u64 _ (by omega) (by have := HK1.out.2.2.1; omega)
  have j91 : IntKind.u64.wrap (R1 : Int) = (R1 : Int) := wraps_u64 _ (by omega) (by have := HK1.out.2.2.2; omega)
  have j11 : (y1 == 0) = false := beq_eq_false_iff_ne.2 (by have := HB1.out.1; omega)
  have j12 : decide ((y1 : Int) = 0) = false := decide_eq_false (by have := HB1.out.1; omega)
  have j13 : ((y1 : Int) == 0) = false := beq_eq_false_iff_ne.2 (by have := HB1.out.1; omega)
  have HU : Aside0 (hi * 2 ^ s + lo / 2 ^ (64 - s) = U) := ⟨by rw [hHH, hRR, hU]⟩
  have HY := Aside0.mk (And.intro hY (And.intro hWd hc))
  have HX := Aside0.mk (And.intro hx1 hx0)
  have HX0 : Aside0 (x0 < 4294967296) := ⟨by omega⟩
  have HLT := Aside0.mk (And.intro hULt hWlt)
  clear hY hHH hRR hWd hU hc hy1 hy0 hx1 hx0 hULt hWlt
  clear hL hs e64
  obtain ⟨F, hF⟩ : ∃ F, 4294967300 = F := ⟨_, rfl⟩
  have HF := Aside0.mk hF
  clear hF
  obtain ⟨RQ, hRQ⟩ : ∃ a, (hi * 18446744073709551616 + lo) / y = a := ⟨_, rfl⟩
  obtain ⟨RR, hRR'⟩ : ∃ a, (hi * 18446744073709551616 + lo) % y = a := ⟨_, rfl⟩
  rw [hRQ, hRR']
  have HR3 : Aside0 (RQ < 18446744073709551616) := ⟨by rw [← hRQ, Nat.div_lt_iff_lt_mul (by omega)]; omega⟩
  have HR := Aside0.mk (And.intro hRQ hRR')
  clear hRQ hRR'
  go_enter Tryz.func109, Tryz.ntmps109
  go_upto_block 0 with (first | ((with_reducible refine gate_callee (f := 128) rfl ?_); refine goesL_ (some 35) rfl rfl Tryz.func128 (by kernel_rfl) rfl #[.int .u64 (y : Int)] rfl (by (try simp only [List.map_toArray, List.map_cons, List.map_nil]); first | done | rfl) ?_; (refine (hlz _).mono ?_); rintro e w10 ⟨rfl, rfl⟩; refine ⟨_, rfl, ?_⟩))
  have HD : Drawn0 w10 w10 := Drawn0.refl _
  go_wp2
  go_loopg [15, 16] F (fun kq v15 v16 w' => ∃ q r : Nat, v15 = .int .u64 (q : Int) ∧ v16 = .int .u64 (r : Int) ∧ q < kq ∧ Aside0 (Kn y1 y0 U x1 q r) ∧ Aside0 (Drawn0 w10 w'))
  case atStart => exact ⟨Q1, R1, rfl, rfl, by have := HK1.out.2.2.1; have := HF.out; omega, HK1, ⟨by repeat (first | exact HD | exact Drawn0.refl _ | apply Drawn0.step)⟩⟩
  case round =>
    obtain ⟨qv1, rv1, rfl, rfl, hk, HK, HDn⟩ := hrel
    clear HD
    have HD := HDn.out
    clear HDn
    obtain ⟨b2, k3, k4⟩ : Aside0 (y1 < 4294967296) ∧ qv1 ≤ 4294967297 ∧ rv1 < 4294967296 := ⟨⟨HB1.out.2.1⟩, HK.out.2.2.1, HK.out.2.2.2⟩
    have m1 : IntKind.u64.wrap ((qv1 : Int) * (y0 : Int)) = (qv1 : Int) * (y0 : Int) := w_mul qv1 y0 (kn_ybound k3 HB1.out.2.2.1)
    have m2 : IntKind.u64.wrap (4294967296 * (rv1 : Int)) = 4294967296 * (rv1 : Int) := wraps_u64 _ (by omega) (by omega)
    have m3 : IntKind.u64.wrap (4294967296 * (rv1 : Int) + (x1 : Int)) = 4294967296 * (rv1 : Int) + (x1 : Int) := wraps_u64 _ (by have := HB1.out.2.2.2.2; omega) (by have := HB1.out.2.2.2.2; omega)
    by_cases ht : 4294967296 ≤ qv1 ∨ rv1 * 4294967296 + x1 < qv1 * y0
    · have hl := kn_less HB1.out HK.out ht
      have hq1 : 1 ≤ qv1 := hl.1
      have HL := Aside0.mk hl
      clear hl
      have m4 : IntKind.u64.wrap ((qv1 : Int) - 1) = ((qv1 - 1 : Nat) : Int) := by rw [wraps_u64 _ (by omega) (by omega)]; omega
      have m5 : IntKind.u64.wrap ((rv1 : Int) + (y1 : Int)) = ((rv1 + y1 : Nat) : Int) := by have := b2.out; rw [wraps_u64 _ (by omega) (by omega)]; omega
      by_cases hr : 4294967296 ≤ rv1 + y1
      · have hD := kn_stop HB1.out HK.out ht hr
        have m6 : decide (4294967296 ≤ ((rv1 + y1 : Nat) : Int)) = true := decide_eq_true (by omega)
        have m6' : decide (4294967296 ≤ (rv1 : Int) + (y1 : Int)) = true := decide_eq_true (by omega)
        obtain ⟨dv1, hd⟩ : ∃ dv1, qv1 - 1 = dv1 := ⟨_, rfl⟩
        rw [hd] at m4 hD
        clear hd
        by_cases hq : 4294967296 ≤ qv1
        · have m7 : decide (4294967296 ≤ (qv1 : Int)) = true := decide_eq_true (by omega)
          have hDD : dv1 = (U * 4294967296 + x1) / Y := hD.trans (by rw [HYY.out])
          have rr1 := w_rest (u := U) (x := x1) (Y := Y) (q := dv1) Ypos n4 hDD
          have hd1 := kn_digit U x1 Y HLT.out.1 HB1.out.2.2.2.2
          rw [← hDD] at hd1
          obtain ⟨V, hV⟩ : ∃ V, (U * 4294967296 + x1) % Y = V := ⟨_, rfl⟩
          have hVlt : V < Y := by rw [← hV]; exact Nat.mod_lt _ Ypos
          rw [hV] at rr1
          have HV : Aside0 (V = (U * 4294967296 + x1) % Y) := ⟨hV.symm⟩
          have HD1 := Aside0.mk hDD
          have HB2 : Aside0 (KnB y1 y0 V x0) := ⟨by have := HB1.out; have := HX0.out; have := HYY.out; unfold KnB at *; omega⟩
          clear hD hDD hV
          have HK2 := Aside0.mk (kn_start HB2.out)
          have j52 : (V : Int).tdiv (y1 : Int) = ((V / y1 : Nat) : Int) := by rw [Int.tdiv_eq_ediv_of_nonneg (by omega), ← Int.natCast_ediv]
          have j62 := w_first V y1
          have j82 := w_mul (V / y1) y1 (Nat.lt_of_le_of_lt (Nat.div_mul_le_self V y1) (by omega))
          have j02 : (V : Int) / (y1 : Int) = ((V / y1 : Nat) : Int) := by rw [← Int.natCast_ediv]
          obtain ⟨Q2, hQ2⟩ : ∃ Q, V / y1 = Q := ⟨_, rfl⟩
          obtain ⟨R2, hR2⟩ : ∃ R, V % y1 = R := ⟨_, rfl⟩
          rw [hQ2] at j52 j62 j82 j02 HK2
          rw [hR2] at j62 HK2
          clear hQ2 hR2
          have j72 : IntKind.u64.wrap (Q2 : Int) = (Q2 : Int) := wraps_u64 _ (by omega) (by have := HK2.out.2.2.1; omega)
          have j92 : IntKind.u64.wrap (R2 : Int) = (R2 : Int) := wraps_u64 _ (by omega) (by have := HK2.out.2.2.2; omega)
          go_wp2
          go_loopg [16, 18] F (fun kq v16 v18 w' => ∃ q r : Nat, v18 = .int .u64 (q : Int) ∧ v16 = .int .u64 (r : Int) ∧ q < kq ∧ Aside0 (Kn y1 y0 V x0 q r) ∧ Aside0 (Drawn0 w10 w'))
          case atStart => exact ⟨Q2, R2, rfl, rfl, by have := HK2.out.2.2.1; have := HF.out; omega, HK2, ⟨by repeat (first | exact HD | exact Drawn0.refl _ | apply Drawn0.step)⟩⟩
          case round =>
            obtain ⟨qv2, rv2, rfl, rfl, hk, HK, HDn⟩ := hrel
            clear HD
            have HD := HDn.out
            clear HDn
            obtain ⟨b2, k3, k4⟩ : Aside0 (y1 < 4294967296) ∧ qv2 ≤ 4294967297 ∧ rv2 < 4294967296 := ⟨⟨HB2.out.2.1⟩, HK.out.2.2.1, HK.out.2.2.2⟩
            have m1 : IntKind.u64.wrap ((qv2 : Int) * (y0 : Int)) = (qv2 : Int) * (y0 : Int) := w_mul qv2 y0 (kn_ybound k3 HB2.out.2.2.1)
            have m2 : IntKind.u64.wrap (4294967296 * (rv2 : Int)) = 4294967296 * (rv2 : Int) := wraps_u64 _ (by omega) (by omega)
            have m3 : IntKind.u64.wrap (4294967296 * (rv2 : Int) + (x0 : Int)) = 4294967296 * (rv2 : Int) + (x0 : Int) := wraps_u64 _ (by have := HB2.out.2.2.2.2; omega) (by have := HB2.out.2.2.2.2; omega)
            by_cases ht : 4294967296 ≤ qv2 ∨ rv2 * 4294967296 + x0 < qv2 * y0
            · have hl := kn_less HB2.out HK.out ht
              have hq1 : 1 ≤ qv2 := hl.1
              have HL := Aside0.mk hl
              clear hl
              have m4 : IntKind.u64.wrap ((qv2 : Int) - 1) = ((qv2 - 1 : Nat) : Int) := by rw [wraps_u64 _ (by omega) (by omega)]; omega
              have m5 : IntKind.u64.wrap ((rv2 : Int) + (y1 : Int)) = ((rv2 + y1 : Nat) : Int) := by have := b2.out; rw [wraps_u64 _ (by omega) (by omega)]; omega
              by_cases hr : 4294967296 ≤ rv2 + y1
              · have hD := kn_stop HB2.out HK.out ht hr
                have m6 : decide (4294967296 ≤ ((rv2 + y1 : Nat) : Int)) = true := decide_eq_true (by omega)
                have m6' : decide (4294967296 ≤ (rv2 : Int) + (y1 : Int)) = true := decide_eq_true (by omega)
                obtain ⟨dv2, hd⟩ : ∃ dv2, qv2 - 1 = dv2 := ⟨_, rfl⟩
                rw [hd] at m4 hD
                clear hd
                by_cases hq : 4294967296 ≤ qv2
                · have m7 : decide (4294967296 ≤ (qv2 : Int)) = true := decide_eq_true (by omega)
                  have hDD : dv2 = (V * 4294967296 + x0) / Y := hD.trans (by rw [HYY.out])
                  have n5 := w_rest (u := V) (x := x0) (Y := Y) (q := dv2) Ypos n4 hDD
                  obtain ⟨e1, e2⟩ := kn_whole (by omega) (by omega) HY.out.1 HU.out HY.out.2.1 HX.out.1 HX.out.2 HD1.out HV.out hDD
                  obtain ⟨Z, hZ⟩ : ∃ Z, (V * 4294967296 + x0) % Y = Z := ⟨_, rfl⟩
                  rw [hZ] at n5 e2
                  rw [HR.out.1] at e1
                  rw [HR.out.2] at e2
                  have n6 : (Z : Int) / 2 ^ s = (RR : Int) := by rw [cast_shr, e2, Nat.mul_div_cancel _ (Nat.two_pow_pos s)]
                  have n7 : IntKind.u64.wrap (IntKind.u64.wrap ((dv1 : Int) * 4294967296) + (dv2 : Int)) = (RQ : Int) := w_two e1 HR3.out
                  have n8 : IntKind.u64.wrap ((dv1 : Int) * 4294967296 + (dv2 : Int)) = (RQ : Int) := w_two2 e1 HR3.out
                  clear hD hDD e1 e2 hZ
                  go_wp2
                  go_ret2
                  exact ⟨by first | rfl | (simp [*]; done), by repeat (first | exact HD | exact Drawn0.refl _ | apply Drawn0.step)⟩
                · have m7 : decide (4294967296 ≤ (qv2 : Int)) = false := decide_eq_false (by omega)
                  have m8 : decide (4294967296 * (rv2 : Int) + (x0 : Int) < (qv2 : Int) * (y0 : Int)) = true := decide_eq_true (by rw [← Int.natCast_mul]; rcases ht with h | h <;> omega)
                  have hDD : dv2 = (V * 4294967296 + x0) / Y := hD.trans (by rw [HYY.out])
                  have n5 := w_rest (u := V) (x := x0) (Y := Y) (q := dv2) Ypos n4 hDD
                  obtain ⟨e1, e2⟩ := kn_whole (by omega) (by omega) HY.out.1 HU.out HY.out.2.1 HX.out.1 HX.out.2 HD1.out HV.out hDD
                  obtain ⟨Z, hZ⟩ : ∃ Z, (V * 4294967296 + x0) % Y = Z := ⟨_, rfl⟩
                  rw [hZ] at n5 e2
                  rw [HR.out.1] at e1
                  rw [HR.out.2] at e2
                  have n6 : (Z : Int) / 2 ^ s = (RR : Int) := by rw [cast_shr, e2, Nat.mul_div_cancel _ (Nat.two_pow_pos s)]
                  have n7 : IntKind.u64.wrap (IntKind.u64.wrap ((dv1 : Int) * 4294967296) + (dv2 : Int)) = (RQ : Int) := w_two e1 HR3.out
                  have n8 : IntKind.u64.wrap ((dv1 : Int) * 4294967296 + (dv2 : Int)) = (RQ : Int) := w_two2 e1 HR3.out
                  clear hD hDD e1 e2 hZ
                  go_wp2
                  go_ret2
                  exact ⟨by first | rfl | (simp [*]; done), by repeat (first | exact HD | exact Drawn0.refl _ | apply Drawn0.step)⟩
              · have hN := kn_next HB2.out HK.out ht hr
                have m6 : decide (4294967296 ≤ ((rv2 + y1 : Nat) : Int)) = false := decide_eq_false (by omega)
                have m6' : decide (4294967296 ≤ (rv2 : Int) + (y1 : Int)) = false := decide_eq_false (by omega)
                obtain ⟨k2, rfl⟩ : ∃ k2, gk = k2 + 1 := ⟨gk - 1, by omega⟩
                have hk2 : qv2 - 1 < k2 := by omega
                obtain ⟨dv2, hd⟩ : ∃ dv2, qv2 - 1 = dv2 := ⟨_, rfl⟩
                obtain ⟨ev2, he⟩ : ∃ ev2, rv2 + y1 = ev2 := ⟨_, rfl⟩
                rw [hd] at m4 hN hk2
                rw [he] at m5 m6 hN
                clear hd he
                by_cases hq : 4294967296 ≤ qv2
                · have m7 : decide (4294967296 ≤ (qv2 : Int)) = true := decide_eq_true (by omega)
                  go_wp2
                  go_roundg k2
                  case measure => omega
                  case rel => exact ⟨dv2, ev2, rfl, rfl, hk2, ⟨hN⟩, ⟨by repeat (first | exact HD | exact Drawn0.refl _ | apply Drawn0.step)⟩⟩
                · have m7 : decide (4294967296 ≤ (qv2 : Int)) = false := decide_eq_false (by omega)
                  have m8 : decide (4294967296 * (rv2 : Int) + (x0 : Int) < (qv2 : Int) * (y0 : Int)) = true := decide_eq_true (by rw [← Int.natCast_mul]; rcases ht with h | h <;> omega)
                  go_wp2
                  go_roundg k2
                  case measure => omega
                  case rel => exact ⟨dv2, ev2, rfl, rfl, hk2, ⟨hN⟩, ⟨by repeat (first | exact HD | exact Drawn0.refl _ | apply Drawn0.step)⟩⟩
            · obtain ⟨h1, h2⟩ : ¬ (4294967296 ≤ qv2) ∧ ¬ (rv2 * 4294967296 + x0 < qv2 * y0) := ⟨fun h => ht (Or.inl h), fun h => ht (Or.inr h)⟩
              have hD := kn_fits2 HB2.out HK.out h2
              have m7 : decide (4294967296 ≤ (qv2 : Int)) = false := decide_eq_false (by omega)
              have m8 : decide (4294967296 * (rv2 : Int) + (x0 : Int) < (qv2 : Int) * (y0 : Int)) = false := decide_eq_false (by rw [← Int.natCast_mul]; omega)
              clear h1 h2 ht
              have hDD : qv2 = (V * 4294967296 + x0) / Y := hD.trans (by rw [HYY.out])
              have n5 := w_rest (u := V) (x := x0) (Y := Y) (q := qv2) Ypos n4 hDD
              obtain ⟨e1, e2⟩ := kn_whole (by omega) (by omega) HY.out.1 HU.out HY.out.2.1 HX.out.1 HX.out.2 HD1.out HV.out hDD
              obtain ⟨Z, hZ⟩ : ∃ Z, (V * 4294967296 + x0) % Y = Z := ⟨_, rfl⟩
              rw [hZ] at n5 e2
              rw [HR.out.1] at e1
              rw [HR.out.2] at e2
              have n6 : (Z : Int) / 2 ^ s = (RR : Int) := by rw [cast_shr, e2, Nat.mul_div_cancel _ (Nat.two_pow_pos s)]
              have n7 : IntKind.u64.wrap (IntKind.u64.wrap ((dv1 : Int) * 4294967296) + (qv2 : Int)) = (RQ : Int) := w_two e1 HR3.out
              have n8 : IntKind.u64.wrap ((dv1 : Int) * 4294967296 + (qv2 : Int)) = (RQ : Int) := w_two2 e1 HR3.out
              clear hD hDD e1 e2 hZ
              go_wp2
              go_ret2
              exact ⟨by first | rfl | (simp [*]; done), by repeat (first | exact HD | exact Drawn0.refl _ | apply Drawn0.step)⟩
        · have m7 : decide (4294967296 ≤ (qv1 : Int)) = false := decide_eq_false (by omega)
          have m8 : decide (4294967296 * (rv1 : Int) + (x1 : Int) < (qv1 : Int) * (y0 : Int)) = true := decide_eq_true (by rw [← Int.natCast_mul]; rcases ht with h | h <;> omega)
          have hDD : dv1 = (U * 4294967296 + x1) / Y := hD.trans (by rw [HYY.out])
          have rr1 := w_rest (u := U) (x := x1) (Y := Y) (q := dv1) Ypos n4 hDD
          have hd1 := kn_digit U x1 Y HLT.out.1 HB1.out.2.2.2.2
          rw [← hDD] at hd1
          obtain ⟨V, hV⟩ : ∃ V, (U * 4294967296 + x1) % Y = V := ⟨_, rfl⟩
          have hVlt : V < Y := by rw [← hV]; exact Nat.mod_lt _ Ypos
          rw [hV] at rr1
          have HV : Aside0 (V = (U * 4294967296 + x1) % Y) := ⟨hV.symm⟩
          have HD1 := Aside0.mk hDD
          have HB2 : Aside0 (KnB y1 y0 V x0) := ⟨by have := HB1.out; have := HX0.out; have := HYY.out; unfold KnB at *; omega⟩
          clear hD hDD hV
          have HK2 := Aside0.mk (kn_start HB2.out)
          have j52 : (V : Int).tdiv (y1 : Int) = ((V / y1 : Nat) : Int) := by rw [Int.tdiv_eq_ediv_of_nonneg (by omega), ← Int.natCast_ediv]
          have j62 := w_first V y1
          have j82 := w_mul (V / y1) y1 (Nat.lt_of_le_of_lt (Nat.div_mul_le_self V y1) (by omega))
          have j02 : (V : Int) / (y1 : Int) = ((V / y1 : Nat) : Int) := by rw [← Int.natCast_ediv]
          obtain ⟨Q2, hQ2⟩ : ∃ Q, V / y1 = Q := ⟨_, rfl⟩
          obtain ⟨R2, hR2⟩ : ∃ R, V % y1 = R := ⟨_, rfl⟩
          rw [hQ2] at j52 j62 j82 j02 HK2
          rw [hR2] at j62 HK2
          clear hQ2 hR2
          have j72 : IntKind.u64.wrap (Q2 : Int) = (Q2 : Int) := wraps_u64 _ (by omega) (by have := HK2.out.2.2.1; omega)
          have j92 : IntKind.u64.wrap (R2 : Int) = (R2 : Int) := wraps_u64 _ (by omega) (by have := HK2.out.2.2.2; omega)
          go_wp2
          go_loopg [16, 18] F (fun kq v16 v18 w' => ∃ q r : Nat, v18 = .int .u64 (q : Int) ∧ v16 = .int .u64 (r : Int) ∧ q < kq ∧ Aside0 (Kn y1 y0 V x0 q r) ∧ Aside0 (Drawn0 w10 w'))
          case atStart => exact ⟨Q2, R2, rfl, rfl, by have := HK2.out.2.2.1; have := HF.out; omega, HK2, ⟨by repeat (first | exact HD | exact Drawn0.refl _ | apply Drawn0.step)⟩⟩
          case round =>
            obtain ⟨qv2, rv2, rfl, rfl, hk, HK, HDn⟩ := hrel
            clear HD
            have HD := HDn.out
            clear HDn
            obtain ⟨b2, k3, k4⟩ : Aside0 (y1 < 4294967296) ∧ qv2 ≤ 4294967297 ∧ rv2 < 4294967296 := ⟨⟨HB2.out.2.1⟩, HK.out.2.2.1, HK.out.2.2.2⟩
            have m1 : IntKind.u64.wrap ((qv2 : Int) * (y0 : Int)) = (qv2 : Int) * (y0 : Int) := w_mul qv2 y0 (kn_ybound k3 HB2.out.2.2.1)
            have m2 : IntKind.u64.wrap (4294967296 * (rv2 : Int)) = 4294967296 * (rv2 : Int) := wraps_u64 _ (by omega) (by omega)
            have m3 : IntKind.u64.wrap (4294967296 * (rv2 : Int) + (x0 : Int)) = 4294967296 * (rv2 : Int) + (x0 : Int) := wraps_u64 _ (by have := HB2.out.2.2.2.2; omega) (by have := HB2.out.2.2.2.2; omega)
            by_cases ht : 4294967296 ≤ qv2 ∨ rv2 * 4294967296 + x0 < qv2 * y0
            · have hl := kn_less HB2.out HK.out ht
              have hq1 : 1 ≤ qv2 := hl.1
              have HL := Aside0.mk hl
              clear hl
              have m4 : IntKind.u64.wrap ((qv2 : Int) - 1) = ((qv2 - 1 : Nat) : Int) := by rw [wraps_u64 _ (by omega) (by omega)]; omega
              have m5 : IntKind.u64.wrap ((rv2 : Int) + (y1 : Int)) = ((rv2 + y1 : Nat) : Int) := by have := b2.out; rw [wraps_u64 _ (by omega) (by omega)]; omega
              by_cases hr : 4294967296 ≤ rv2 + y1
              · have hD := kn_stop HB2.out HK.out ht hr
                have m6 : decide (4294967296 ≤ ((rv2 + y1 : Nat) : Int)) = true := decide_eq_true (by omega)
                have m6' : decide (4294967296 ≤ (rv2 : Int) + (y1 : Int)) = true := decide_eq_true (by omega)
                obtain ⟨dv2, hd⟩ : ∃ dv2, qv2 - 1 = dv2 := ⟨_, rfl⟩
                rw [hd] at m4 hD
                clear hd
                by_cases hq : 4294967296 ≤ qv2
                · have m7 : decide (4294967296 ≤ (qv2 : Int)) = true := decide_eq_true (by omega)
                  have hDD : dv2 = (V * 4294967296 + x0) / Y := hD.trans (by rw [HYY.out])
                  have n5 := w_rest (u := V) (x := x0) (Y := Y) (q := dv2) Ypos n4 hDD
                  obtain ⟨e1, e2⟩ := kn_whole (by omega) (by omega) HY.out.1 HU.out HY.out.2.1 HX.out.1 HX.out.2 HD1.out HV.out hDD
                  obtain ⟨Z, hZ⟩ : ∃ Z, (V * 4294967296 + x0) % Y = Z := ⟨_, rfl⟩
                  rw [hZ] at n5 e2
                  rw [HR.out.1] at e1
                  rw [HR.out.2] at e2
                  have n6 : (Z : Int) / 2 ^ s = (RR : Int) := by rw [cast_shr, e2, Nat.mul_div_cancel _ (Nat.two_pow_pos s)]
                  have n7 : IntKind.u64.wrap (IntKind.u64.wrap ((dv1 : Int) * 4294967296) + (dv2 : Int)) = (RQ : Int) := w_two e1 HR3.out
                  have n8 : IntKind.u64.wrap ((dv1 : Int) * 4294967296 + (dv2 : Int)) = (RQ : Int) := w_two2 e1 HR3.out
                  clear hD hDD e1 e2 hZ
                  go_wp2
                  go_ret2
                  exact ⟨by first | rfl | (simp [*]; done), by repeat (first | exact HD | exact Drawn0.refl _ | apply Drawn0.step)⟩
                · have m7 : decide (4294967296 ≤ (qv2 : Int)) = false := decide_eq_false (by omega)
                  have m8 : decide (4294967296 * (rv2 : Int) + (x0 : Int) < (qv2 : Int) * (y0 : Int)) = true := decide_eq_true (by rw [← Int.natCast_mul]; rcases ht with h | h <;> omega)
                  have hDD : dv2 = (V * 4294967296 + x0) / Y := hD.trans (by rw [HYY.out])
                  have n5 := w_rest (u := V) (x := x0) (Y := Y) (q := dv2) Ypos n4 hDD
                  obtain ⟨e1, e2⟩ := kn_whole (by omega) (by omega) HY.out.1 HU.out HY.out.2.1 HX.out.1 HX.out.2 HD1.out HV.out hDD
                  obtain ⟨Z, hZ⟩ : ∃ Z, (V * 4294967296 + x0) % Y = Z := ⟨_, rfl⟩
                  rw [hZ] at n5 e2
                  rw [HR.out.1] at e1
                  rw [HR.out.2] at e2
                  have n6 : (Z : Int) / 2 ^ s = (RR : Int) := by rw [cast_shr, e2, Nat.mul_div_cancel _ (Nat.two_pow_pos s)]
                  have n7 : IntKind.u64.wrap (IntKind.u64.wrap ((dv1 : Int) * 4294967296) + (dv2 : Int)) = (RQ : Int) := w_two e1 HR3.out
                  have n8 : IntKind.u64.wrap ((dv1 : Int) * 4294967296 + (dv2 : Int)) = (RQ : Int) := w_two2 e1 HR3.out
                  clear hD hDD e1 e2 hZ
                  go_wp2
                  go_ret2
                  exact ⟨by first | rfl | (simp [*]; done), by repeat (first | exact HD | exact Drawn0.refl _ | apply Drawn0.step)⟩
              · have hN := kn_next HB2.out HK.out ht hr
                have m6 : decide (4294967296 ≤ ((rv2 + y1 : Nat) : Int)) = false := decide_eq_false (by omega)
                have m6' : decide (4294967296 ≤ (rv2 : Int) + (y1 : Int)) = false := decide_eq_false (by omega)
                obtain ⟨k2, rfl⟩ : ∃ k2, gk = k2 + 1 := ⟨gk - 1, by omega⟩
                have hk2 : qv2 - 1 < k2 := by omega
                obtain ⟨dv2, hd⟩ : ∃ dv2, qv2 - 1 = dv2 := ⟨_, rfl⟩
                obtain ⟨ev2, he⟩ : ∃ ev2, rv2 + y1 = ev2 := ⟨_, rfl⟩
                rw [hd] at m4 hN hk2
                rw [he] at m5 m6 hN
                clear hd he
                by_cases hq : 4294967296 ≤ qv2
                · have m7 : decide (4294967296 ≤ (qv2 : Int)) = true := decide_eq_true (by omega)
                  go_wp2
                  go_roundg k2
                  case measure => omega
                  case rel => exact ⟨dv2, ev2, rfl, rfl, hk2, ⟨hN⟩, ⟨by repeat (first | exact HD | exact Drawn0.refl _ | apply Drawn0.step)⟩⟩
                · have m7 : decide (4294967296 ≤ (qv2 : Int)) = false := decide_eq_false (by omega)
                  have m8 : decide (4294967296 * (rv2 : Int) + (x0 : Int) < (qv2 : Int) * (y0 : Int)) = true := decide_eq_true (by rw [← Int.natCast_mul]; rcases ht with h | h <;> omega)
                  go_wp2
                  go_roundg k2
                  case measure => omega
                  case rel => exact ⟨dv2, ev2, rfl, rfl, hk2, ⟨hN⟩, ⟨by repeat (first | exact HD | exact Drawn0.refl _ | apply Drawn0.step)⟩⟩
            · obtain ⟨h1, h2⟩ : ¬ (4294967296 ≤ qv2) ∧ ¬ (rv2 * 4294967296 + x0 < qv2 * y0) := ⟨fun h => ht (Or.inl h), fun h => ht (Or.inr h)⟩
              have hD := kn_fits2 HB2.out HK.out h2
              have m7 : decide (4294967296 ≤ (qv2 : Int)) = false := decide_eq_false (by omega)
              have m8 : decide (4294967296 * (rv2 : Int) + (x0 : Int) < (qv2 : Int) * (y0 : Int)) = false := decide_eq_false (by rw [← Int.natCast_mul]; omega)
              clear h1 h2 ht
              have hDD : qv2 = (V * 4294967296 + x0) / Y := hD.trans (by rw [HYY.out])
              have n5 := w_rest (u := V) (x := x0) (Y := Y) (q := qv2) Ypos n4 hDD
              obtain ⟨e1, e2⟩ := kn_whole (by omega) (by omega) HY.out.1 HU.out HY.out.2.1 HX.out.1 HX.out.2 HD1.out HV.out hDD
              obtain ⟨Z, hZ⟩ : ∃ Z, (V * 4294967296 + x0) % Y = Z := ⟨_, rfl⟩
              rw [hZ] at n5 e2
              rw [HR.out.1] at e1
              rw [HR.out.2] at e2
              have n6 : (Z : Int) / 2 ^ s = (RR : Int) := by rw [cast_shr, e2, Nat.mul_div_cancel _ (Nat.two_pow_pos s)]
              have n7 : IntKind.u64.wrap (IntKind.u64.wrap ((dv1 : Int) * 4294967296) + (qv2 : Int)) = (RQ : Int) := w_two e1 HR3.out
              have n8 : IntKind.u64.wrap ((dv1 : Int) * 4294967296 + (qv2 : Int)) = (RQ : Int) := w_two2 e1 HR3.out
              clear hD hDD e1 e2 hZ
              go_wp2
              go_ret2
              exact ⟨by first | rfl | (simp [*]; done), by repeat (first | exact HD | exact Drawn0.refl _ | apply Drawn0.step)⟩
      · have hN := kn_next HB1.out HK.out ht hr
        have m6 : decide (4294967296 ≤ ((rv1 + y1 : Nat) : Int)) = false := decide_eq_false (by omega)
        have m6' : decide (4294967296 ≤ (rv1 : Int) + (y1 : Int)) = false := decide_eq_false (by omega)
        obtain ⟨k2, rfl⟩ : ∃ k2, gk = k2 + 1 := ⟨gk - 1, by omega⟩
        have hk2 : qv1 - 1 < k2 := by omega
        obtain ⟨dv1, hd⟩ : ∃ dv1, qv1 - 1 = dv1 := ⟨_, rfl⟩
        obtain ⟨ev1, he⟩ : ∃ ev1, rv1 + y1 = ev1 := ⟨_, rfl⟩
        rw [hd] at m4 hN hk2
        rw [he] at m5 m6 hN
        clear hd he
        by_cases hq : 4294967296 ≤ qv1
        · have m7 : decide (4294967296 ≤ (qv1 : Int)) = true := decide_eq_true (by omega)
          go_wp2
          go_roundg k2
          case measure => omega
          case rel => exact ⟨dv1, ev1, rfl, rfl, hk2, ⟨hN⟩, ⟨by repeat (first | exact HD | exact Drawn0.refl _ | apply Drawn0.step)⟩⟩
        · have m7 : decide (4294967296 ≤ (qv1 : Int)) = false := decide_eq_false (by omega)
          have m8 : decide (4294967296 * (rv1 : Int) + (x1 : Int) < (qv1 : Int) * (y0 : Int)) = true := decide_eq_true (by rw [← Int.natCast_mul]; rcases ht with h | h <;> omega)
          go_wp2
          go_roundg k2
          case measure => omega
          case rel => exact ⟨dv1, ev1, rfl, rfl, hk2, ⟨hN⟩, ⟨by repeat (first | exact HD | exact Drawn0.refl _ | apply Drawn0.step)⟩⟩
    · obtain ⟨h1, h2⟩ : ¬ (4294967296 ≤ qv1) ∧ ¬ (rv1 * 4294967296 + x1 < qv1 * y0) := ⟨fun h => ht (Or.inl h), fun h => ht (Or.inr h)⟩
      have hD := kn_fits2 HB1.out HK.out h2
      have m7 : decide (4294967296 ≤ (qv1 : Int)) = false := decide_eq_false (by omega)
      have m8 : decide (4294967296 * (rv1 : Int) + (x1 : Int) < (qv1 : Int) * (y0 : Int)) = false := decide_eq_false (by rw [← Int.natCast_mul]; omega)
      clear h1 h2 ht
      have hDD : qv1 = (U * 4294967296 + x1) / Y := hD.trans (by rw [HYY.out])
      have rr1 := w_rest (u := U) (x := x1) (Y := Y) (q := qv1) Ypos n4 hDD
      have hd1 := kn_digit U x1 Y HLT.out.1 HB1.out.2.2.2.2
      rw [← hDD] at hd1
      obtain ⟨V, hV⟩ : ∃ V, (U * 4294967296 + x1) % Y = V := ⟨_, rfl⟩
      have hVlt : V < Y := by rw [← hV]; exact Nat.mod_lt _ Ypos
      rw [hV] at rr1
      have HV : Aside0 (V = (U * 4294967296 + x1) % Y) := ⟨hV.symm⟩
      have HD1 := Aside0.mk hDD
      have HB2 : Aside0 (KnB y1 y0 V x0) := ⟨by have := HB1.out; have := HX0.out; have := HYY.out; unfold KnB at *; omega⟩
      clear hD hDD hV
      have HK2 := Aside0.mk (kn_start HB2.out)
      have j52 : (V : Int).tdiv (y1 : Int) = ((V / y1 : Nat) : Int) := by rw [Int.tdiv_eq_ediv_of_nonneg (by omega), ← Int.natCast_ediv]
      have j62 := w_first V y1
      have j82 := w_mul (V / y1) y1 (Nat.lt_of_le_of_lt (Nat.div_mul_le_self V y1) (by omega))
      have j02 : (V : Int) / (y1 : Int) = ((V / y1 : Nat) : Int) := by rw [← Int.natCast_ediv]
      obtain ⟨Q2, hQ2⟩ : ∃ Q, V / y1 = Q := ⟨_, rfl⟩
      obtain ⟨R2, hR2⟩ : ∃ R, V % y1 = R := ⟨_, rfl⟩
      rw [hQ2] at j52 j62 j82 j02 HK2
      rw [hR2] at j62 HK2
      clear hQ2 hR2
      have j72 : IntKind.u64.wrap (Q2 : Int) = (Q2 : Int) := wraps_u64 _ (by omega) (by have := HK2.out.2.2.1; omega)
      have j92 : IntKind.u64.wrap (R2 : Int) = (R2 : Int) := wraps_u64 _ (by omega) (by have := HK2.out.2.2.2; omega)
      go_wp2
      go_loopg [16, 18] F (fun kq v16 v18 w' => ∃ q r : Nat, v18 = .int .u64 (q : Int) ∧ v16 = .int .u64 (r : Int) ∧ q < kq ∧ Aside0 (Kn y1 y0 V x0 q r) ∧ Aside0 (Drawn0 w10 w'))
      case atStart => exact ⟨Q2, R2, rfl, rfl, by have := HK2.out.2.2.1; have := HF.out; omega, HK2, ⟨by repeat (first | exact HD | exact Drawn0.refl _ | apply Drawn0.step)⟩⟩
      case round =>
        obtain ⟨qv2, rv2, rfl, rfl, hk, HK, HDn⟩ := hrel
        clear HD
        have HD := HDn.out
        clear HDn
        obtain ⟨b2, k3, k4⟩ : Aside0 (y1 < 4294967296) ∧ qv2 ≤ 4294967297 ∧ rv2 < 4294967296 := ⟨⟨HB2.out.2.1⟩, HK.out.2.2.1, HK.out.2.2.2⟩
        have m1 : IntKind.u64.wrap ((qv2 : Int) * (y0 : Int)) = (qv2 : Int) * (y0 : Int) := w_mul qv2 y0 (kn_ybound k3 HB2.out.2.2.1)
        have m2 : IntKind.u64.wrap (4294967296 * (rv2 : Int)) = 4294967296 * (rv2 : Int) := wraps_u64 _ (by omega) (by omega)
        have m3 : IntKind.u64.wrap (4294967296 * (rv2 : Int) + (x0 : Int)) = 4294967296 * (rv2 : Int) + (x0 : Int) := wraps_u64 _ (by have := HB2.out.2.2.2.2; omega) (by have := HB2.out.2.2.2.2; omega)
        by_cases ht : 4294967296 ≤ qv2 ∨ rv2 * 4294967296 + x0 < qv2 * y0
        · have hl := kn_less HB2.out HK.out ht
          have hq1 : 1 ≤ qv2 := hl.1
          have HL := Aside0.mk hl
          clear hl
          have m4 : IntKind.u64.wrap ((qv2 : Int) - 1) = ((qv2 - 1 : Nat) : Int) := by rw [wraps_u64 _ (by omega) (by omega)]; omega
          have m5 : IntKind.u64.wrap ((rv2 : Int) + (y1 : Int)) = ((rv2 + y1 : Nat) : Int) := by have := b2.out; rw [wraps_u64 _ (by omega) (by omega)]; omega
          by_cases hr : 4294967296 ≤ rv2 + y1
          · have hD := kn_stop HB2.out HK.out ht hr
            have m6 : decide (4294967296 ≤ ((rv2 + y1 : Nat) : Int)) = true := decide_eq_true (by omega)
            have m6' : decide (4294967296 ≤ (rv2 : Int) + (y1 : Int)) = true := decide_eq_true (by omega)
            obtain ⟨dv2, hd⟩ : ∃ dv2, qv2 - 1 = dv2 := ⟨_, rfl⟩
            rw [hd] at m4 hD
            clear hd
            by_cases hq : 4294967296 ≤ qv2
            · have m7 : decide (4294967296 ≤ (qv2 : Int)) = true := decide_eq_true (by omega)
              have hDD : dv2 = (V * 4294967296 + x0) / Y := hD.trans (by rw [HYY.out])
              have n5 := w_rest (u := V) (x := x0) (Y := Y) (q := dv2) Ypos n4 hDD
              obtain ⟨e1, e2⟩ := kn_whole (by omega) (by omega) HY.out.1 HU.out HY.out.2.1 HX.out.1 HX.out.2 HD1.out HV.out hDD
              obtain ⟨Z, hZ⟩ : ∃ Z, (V * 4294967296 + x0) % Y = Z := ⟨_, rfl⟩
              rw [hZ] at n5 e2
              rw [HR.out.1] at e1
              rw [HR.out.2] at e2
              have n6 : (Z : Int) / 2 ^ s = (RR : Int) := by rw [cast_shr, e2, Nat.mul_div_cancel _ (Nat.two_pow_pos s)]
              have n7 : IntKind.u64.wrap (IntKind.u64.wrap ((qv1 : Int) * 4294967296) + (dv2 : Int)) = (RQ : Int) := w_two e1 HR3.out
              have n8 : IntKind.u64.wrap ((qv1 : Int) * 4294967296 + (dv2 : Int)) = (RQ : Int) := w_two2 e1 HR3.out
              clear hD hDD e1 e2 hZ
              go_wp2
              go_ret2
              exact ⟨by first | rfl | (simp [*]; done), by repeat (first | exact HD | exact Drawn0.refl _ | apply Drawn0.step)⟩
            · have m7 : decide (4294967296 ≤ (qv2 : Int)) = false := decide_eq_false (by omega)
              have m8 : decide (4294967296 * (rv2 : Int) + (x0 : Int) < (qv2 : Int) * (y0 : Int)) = true := decide_eq_true (by rw [← Int.natCast_mul]; rcases ht with h | h <;> omega)
              have hDD : dv2 = (V * 4294967296 + x0) / Y := hD.trans (by rw [HYY.out])
              have n5 := w_rest (u := V) (x := x0) (Y := Y) (q := dv2) Ypos n4 hDD
              obtain ⟨e1, e2⟩ := kn_whole (by omega) (by omega) HY.out.1 HU.out HY.out.2.1 HX.out.1 HX.out.2 HD1.out HV.out hDD
              obtain ⟨Z, hZ⟩ : ∃ Z, (V * 4294967296 + x0) % Y = Z := ⟨_, rfl⟩
              rw [hZ] at n5 e2
              rw [HR.out.1] at e1
              rw [HR.out.2] at e2
              have n6 : (Z : Int) / 2 ^ s = (RR : Int) := by rw [cast_shr, e2, Nat.mul_div_cancel _ (Nat.two_pow_pos s)]
              have n7 : IntKind.u64.wrap (IntKind.u64.wrap ((qv1 : Int) * 4294967296) + (dv2 : Int)) = (RQ : Int) := w_two e1 HR3.out
              have n8 : IntKind.u64.wrap ((qv1 : Int) * 4294967296 + (dv2 : Int)) = (RQ : Int) := w_two2 e1 HR3.out
              clear hD hDD e1 e2 hZ
              go_wp2
              go_ret2
              exact ⟨by first | rfl | (simp [*]; done), by repeat (first | exact HD | exact Drawn0.refl _ | apply Drawn0.step)⟩
          · have hN := kn_next HB2.out HK.out ht hr
            have m6 : decide (4294967296 ≤ ((rv2 + y1 : Nat) : Int)) = false := decide_eq_false (by omega)
            have m6' : decide (4294967296 ≤ (rv2 : Int) + (y1 : Int)) = false := decide_eq_false (by omega)
            obtain ⟨k2, rfl⟩ : ∃ k2, gk = k2 + 1 := ⟨gk - 1, by omega⟩
            have hk2 : qv2 - 1 < k2 := by omega
            obtain ⟨dv2, hd⟩ : ∃ dv2, qv2 - 1 = dv2 := ⟨_, rfl⟩
            obtain ⟨ev2, he⟩ : ∃ ev2, rv2 + y1 = ev2 := ⟨_, rfl⟩
            rw [hd] at m4 hN hk2
            rw [he] at m5 m6 hN
            clear hd he
            by_cases hq : 4294967296 ≤ qv2
            · have m7 : decide (4294967296 ≤ (qv2 : Int)) = true := decide_eq_true (by omega)
              go_wp2
              go_roundg k2
              case measure => omega
              case rel => exact ⟨dv2, ev2, rfl, rfl, hk2, ⟨hN⟩, ⟨by repeat (first | exact HD | exact Drawn0.refl _ | apply Drawn0.step)⟩⟩
            · have m7 : decide (4294967296 ≤ (qv2 : Int)) = false := decide_eq_false (by omega)
              have m8 : decide (4294967296 * (rv2 : Int) + (x0 : Int) < (qv2 : Int) * (y0 : Int)) = true := decide_eq_true (by rw [← Int.natCast_mul]; rcases ht with h | h <;> omega)
              go_wp2
              go_roundg k2
              case measure => omega
              case rel => exact ⟨dv2, ev2, rfl, rfl, hk2, ⟨hN⟩, ⟨by repeat (first | exact HD | exact Drawn0.refl _ | apply Drawn0.step)⟩⟩
        · obtain ⟨h1, h2⟩ : ¬ (4294967296 ≤ qv2) ∧ ¬ (rv2 * 4294967296 + x0 < qv2 * y0) := ⟨fun h => ht (Or.inl h), fun h => ht (Or.inr h)⟩
          have hD := kn_fits2 HB2.out HK.out h2
          have m7 : decide (4294967296 ≤ (qv2 : Int)) = false := decide_eq_false (by omega)
          have m8 : decide (4294967296 * (rv2 : Int) + (x0 : Int) < (qv2 : Int) * (y0 : Int)) = false := decide_eq_false (by rw [← Int.natCast_mul]; omega)
          clear h1 h2 ht
          have hDD : qv2 = (V * 4294967296 + x0) / Y := hD.trans (by rw [HYY.out])
          have n5 := w_rest (u := V) (x := x0) (Y := Y) (q := qv2) Ypos n4 hDD
          obtain ⟨e1, e2⟩ := kn_whole (by omega) (by omega) HY.out.1 HU.out HY.out.2.1 HX.out.1 HX.out.2 HD1.out HV.out hDD
          obtain ⟨Z, hZ⟩ : ∃ Z, (V * 4294967296 + x0) % Y = Z := ⟨_, rfl⟩
          rw [hZ] at n5 e2
          rw [HR.out.1] at e1
          rw [HR.out.2] at e2
          have n6 : (Z : Int) / 2 ^ s = (RR : Int) := by rw [cast_shr, e2, Nat.mul_div_cancel _ (Nat.two_pow_pos s)]
          have n7 : IntKind.u64.wrap (IntKind.u64.wrap ((qv1 : Int) * 4294967296) + (qv2 : Int)) = (RQ : Int) := w_two e1 HR3.out
          have n8 : IntKind.u64.wrap ((qv1 : Int) * 4294967296 + (qv2 : Int)) = (RQ : Int) := w_two2 e1 HR3.out
          clear hD hDD e1 e2 hZ
          go_wp2
          go_ret2
          exact ⟨by first | rfl | (simp [*]; done), by repeat (first | exact HD | exact Drawn0.refl _ | apply Drawn0.step)⟩
end Go.Proofs.YtfnbflhoaemmeaaGreatDoor.Ext
namespace Go.Proofs.YtfnbflhoaemmeaaGreatDoor.Ext
open Go.RowKit Go.Lib Go.Proofs.YtfnbflhoaemmeaaGreatDoorW.PrintWords Go.Proofs.YtfnbflhoaemmeaaGreatDoorW.PrintLast Go.Proofs.YtfnbflhoaemmeaaGreatDoorW.PrintMore Go.Proofs.YtfnbflhoaemmeaaGreatDoor.EFxA Go.Proofs.YtfnbflhoaemmeaaGreatDoor.EFix
attribute [local go_sem] max2_int min2_int max_two min_two max_three min_three max_four min_four
set_option linter.unusedVariables false
set_option linter.unusedSimpArgs false
theorem top_e {hi lo x1 x0 V : Nat} (hx1 : lo / 4294967296 = x1) (hx0 : lo % 4294967296 = x0) (hV : hi * 4294967296 + x1 = V) : V * 4294967296 + x0 = hi * 18446744073709551616 + lo := by
  have h := Nat.div_add_mod lo 4294967296
  rw [hx1, hx0] at h
  clear hx1 hx0
  subst hV
  rw [Nat.add_mul, Nat.mul_assoc]
  omega
set_option maxHeartbeats 4000000 in
set_option maxRecDepth 100000 in
theorem div64_top (hi lo : Nat) (h0 : 0 < hi) (h1 : hi < 10000) (hlo : lo < 18446744073709551616) (w : World) :
    Calls Tryz.prog 109 #[.int .u64 (hi : Int), .int .u64 (lo : Int), .int .u64 9223372036854775808] w fun e w' => e = .returned (.tuple #[.int .u64 (((hi * 18446744073709551616 + lo) / 9223372036854775808 : Nat) : Int), .int .u64 (((hi * 18446744073709551616 + lo) % 9223372036854775808 : Nat) : Int)]) ∧ Drawn0 w w' := by
  have hlz := fun w => Go.Proofs.Tryz.bits_LeadingZeros64 9223372036854775808 w (by omega) (by omega)
  have hb : (64 : Int) - ((Lib.bitLen (9223372036854775808 : Int).toNat : Nat) : Int) = 0 := by decide +kernel
  rw [hb] at hlz
  clear hb
  have k1 : decide (9223372036854775808 ≤ (hi : Int)) = false := decide_eq_false (by omega)
  have k2 : ((hi : Int) == 0) = false := beq_eq_false_iff_ne.2 (by omega)
  have k2' : decide ((hi : Int) = 0) = false := decide_eq_false (by omega)
  have f0 : ((hi : Int) = 0) = False := eq_false (by omega)
  obtain ⟨x1, hx1⟩ : ∃ a, lo / 4294967296 = a := ⟨_, rfl⟩
  obtain ⟨x0, hx0⟩ : ∃ a, lo % 4294967296 = a := ⟨_, rfl⟩
  have j3 : (lo : Int) / 4294967296 = (x1 : Int) := by omega
  have j4 : bits .and .u64 (lo : Int) 4294967295 = (x0 : Int) := by rw [and_32 _ (by omega) (by omega)]; omega
  have j5 : bits .or .u64 (hi : Int) 0 = (hi : Int) := by have := or_shift hi 0 0 (by omega) (by omega) (by decide); simpa using this
  have m0 : (lo : Int) / 18446744073709551616 = 0 := by omega
  have m1 : bits .and .u64 9223372036854775808 4294967295 = 0 := by rw [and_32 _ (by omega) (by omega)]; rfl
  have m2 : (hi : Int).tdiv 2147483648 = 0 := by rw [Int.tdiv_eq_ediv_of_nonneg (by omega)]; omega
  have m3 : IntKind.u64.wrap (hi : Int) = (hi : Int) := wraps_u64 _ (by omega) (by omega)
  have m4 : IntKind.u64.wrap (4294967296 * (hi : Int)) = 4294967296 * (hi : Int) := wraps_u64 _ (by omega) (by omega)
  have m5 : IntKind.u64.wrap (4294967296 * (hi : Int) + (x1 : Int)) = 4294967296 * (hi : Int) + (x1 : Int) := wraps_u64 _ (by omega) (by omega)
  have m6 : decide (4294967296 * (hi : Int) + (x1 : Int) < 0) = false := decide_eq_false (by omega)
  obtain ⟨V, hV⟩ : ∃ V, hi * 4294967296 + x1 = V := ⟨_, rfl⟩
  have e : V * 4294967296 + x0 = hi * 18446744073709551616 + lo := top_e hx1 hx0 hV
  have m7 : IntKind.u64.wrap ((hi : Int) * 4294967296) = (hi : Int) * 4294967296 := wraps_u64 _ (by omega) (by omega)
  have m8 : IntKind.u64.wrap ((hi : Int) * 4294967296 + (x1 : Int)) = (V : Int) := by rw [wraps_u64 _ (by omega) (by omega)]; omega
  have m9 : IntKind.u64.wrap (V : Int) = (V : Int) := wraps_u64 _ (by omega) (by omega)
  obtain ⟨Q0, hQ0⟩ : ∃ Q, V / 2147483648 = Q := ⟨_, rfl⟩
  obtain ⟨R0, hR0⟩ : ∃ R, V % 2147483648 = R := ⟨_, rfl⟩
  have t0 : (V : Int).tdiv 2147483648 = (Q0 : Int) := by rw [Int.tdiv_eq_ediv_of_nonneg (by omega)]; omega
  have t1 : IntKind.u64.wrap (Q0 : Int) = (Q0 : Int) := wraps_u64 _ (by omega) (by omega)
  have t2 : IntKind.u64.wrap ((Q0 : Int) * 2147483648) = (Q0 : Int) * 2147483648 := wraps_u64 _ (by omega) (by omega)
  have t3 : (V : Int) - (Q0 : Int) * 2147483648 = (R0 : Int) := by omega
  have t4 : IntKind.u64.wrap (R0 : Int) = (R0 : Int) := wraps_u64 _ (by omega) (by omega)
  have t5 : decide (4294967296 ≤ (Q0 : Int)) = false := decide_eq_false (by omega)
  have t6 : IntKind.u64.wrap (4294967296 * (R0 : Int)) = 4294967296 * (R0 : Int) := wraps_u64 _ (by omega) (by omega)
  have t7 : IntKind.u64.wrap (4294967296 * (R0 : Int) + (x0 : Int)) = 4294967296 * (R0 : Int) + (x0 : Int) := wraps_u64 _ (by omega) (by omega)
  have t8 : decide (4294967296 * (R0 : Int) + (x0 : Int) < 0) = false := decide_eq_false (by omega)
  have res : (hi * 18446744073709551616 + lo) / 9223372036854775808 = Q0 := by rw [← e]; clear e; omega
  have res2 : IntKind.u64.wrap (IntKind.u64.wrap (IntKind.u64.wrap ((V : Int) * 4294967296) + (x0 : Int)) - IntKind.u64.wrap ((Q0 : Int) * 9223372036854775808)) = (((hi * 18446744073709551616 + lo) % 9223372036854775808 : Nat) : Int) := by
    have r := w_rest (u := V) (x := x0) (q := Q0) (Y := 9223372036854775808) (by omega) (by omega) (by rw [e]; exact res.symm)
    rw [e] at r
    exact r
  obtain ⟨RR, hRR⟩ : ∃ a, (hi * 18446744073709551616 + lo) % 9223372036854775808 = a := ⟨_, rfl⟩
  rw [hRR] at res2
  rw [res, hRR]
  clear e hV hQ0 hR0 hx1 hx0 res hRR
  go_enter Tryz.func109, Tryz.ntmps109
  go_upto_block 0 with (first | ((with_reducible refine gate_callee (f := 128) rfl ?_); refine goesL_ (some 35) rfl rfl Tryz.func128 (by kernel_rfl) rfl #[.int .u64 9223372036854775808] rfl (by (try simp only [List.map_toArray, List.map_cons, List.map_nil]); first | done | rfl) ?_; (refine (hlz _).mono ?_); rintro e w10 ⟨rfl, rfl⟩; refine ⟨_, rfl, ?_⟩))
  go_wp2
  go_loopg [15, 16] 1 (fun kq v15 v16 w' => v15 = .int .u64 0 ∧ v16 = .int .u64 (hi : Int) ∧ Drawn0 w10 w')
  case atStart => exact ⟨by first | rfl | (simp [*]; done), by first | rfl | (simp [*]; done), by repeat (first | exact Drawn0.refl _ | apply Drawn0.step)⟩
  case round =>
    obtain ⟨rfl, rfl, HD⟩ := hrel
    go_wp2
    go_loopg [16, 18] 1 (fun kq v16 v18 w' => v16 = .int .u64 (R0 : Int) ∧ v18 = .int .u64 (Q0 : Int) ∧ Drawn0 w10 w')
    case atStart => exact ⟨by first | rfl | (simp [*]; done), by first | rfl | (simp [*]; done), by repeat (first | exact HD | exact Drawn0.refl _ | apply Drawn0.step)⟩
    case round =>
      obtain ⟨rfl, rfl, HD⟩ := hrel
      go_wp2
      go_ret2
      exact ⟨by first | rfl | (simp [res2]; done) | (simp [*]; done), by repeat (first | exact HD | exact Drawn0.refl _ | apply Drawn0.step)⟩
theorem div64_calls (hi lo y : Nat) (h0 : 0 < hi) (h1 : hi < y) (h2 : hi < 10000) (hy : y ≤ 9223372036854775808) (hlo : lo < 18446744073709551616) (w : World) :
    Calls Tryz.prog 109 #[.int .u64 (hi : Int), .int .u64 (lo : Int), .int .u64 (y : Int)] w fun e w' => e = .returned (.tuple #[.int .u64 (((hi * 18446744073709551616 + lo) / y : Nat) : Int), .int .u64 (((hi * 18446744073709551616 + lo) % y : Nat) : Int)]) ∧ Drawn0 w w' := by
  by_cases c : Lib.bitLen y < 64
  · exact div64_gen hi lo y h0 c h1 (by omega) hlo w
  · obtain ⟨n1, n2, n3, n4⟩ := norm_y y (by omega) (by omega)
    have e : Lib.bitLen y = 64 := by omega
    rw [e] at n3
    have ey : y = 9223372036854775808 := by omega
    subst ey
    exact div64_top hi lo h0 h2 hlo w
set_option maxHeartbeats 8000000 in
set_option maxRecDepth 100000 in
theorem div_calls (a b : Int) (ha : -9223372036854775808 ≤ a ∧ a ≤ 9223372036854775807) (hb : -9223372036854775808 ≤ b ∧ b ≤ 9223372036854775807) (w : World) :
    Calls Tryz.prog 85 #[.int .i64 a, .int .i64 b] w fun e w' => e = .returned (.tuple #[.int .i64 (divS a b).1, .bool (divS a b).2]) ∧ Drawn0 w w' := by
  by_cases c : b.natAbs = 0 ∨ a.natAbs * 10000 / 18446744073709551616 = 0 ∨ b.natAbs = 10000
  · have h := div_f a b ha.1 ha.2 hb.1 hb.2 c
    exact fixnum_Div.calls a b _ _ w h
  · have A1 := Aside0.mk (abs_f a ha.1 ha.2)
    have A2 := Aside0.mk (abs_f b hb.1 hb.2)
    have hm := mul64_f a.natAbs 10000 (by omega) (by omega)
    have hu : a.natAbs ≤ 9223372036854775808 := by omega
    have hv : b.natAbs ≤ 9223372036854775808 := by omega
    obtain ⟨R, hR⟩ : ∃ R, divS a b = R := ⟨_, rfl⟩
    rw [hR]
    unfold divS at hR
    obtain ⟨n, hn⟩ : ∃ n, decide (a < 0) = n := ⟨_, rfl⟩
    obtain ⟨m, hmm⟩ : ∃ n, decide (b < 0) = n := ⟨_, rfl⟩
    rw [hn] at A1 hR
    rw [hmm] at A2 hR
    obtain ⟨x, hx⟩ : ∃ x, a.natAbs = x := ⟨_, rfl⟩
    obtain ⟨y, hy⟩ : ∃ x, b.natAbs = x := ⟨_, rfl⟩
    rw [hx] at A1 hm hu hR c
    rw [hy] at A2 hv hR c
    clear hn hmm hx hy
    have hlo : x * 10000 % 18446744073709551616 < 18446744073709551616 := Nat.mod_lt _ (by decide)
    have hH : x * 10000 / 18446744073709551616 < 10000 := by omega
    have e := Nat.div_add_mod (x * 10000) 18446744073709551616
    obtain ⟨hi, hhi⟩ : ∃ h, x * 10000 / 18446744073709551616 = h := ⟨_, rfl⟩
    obtain ⟨lo, hlo'⟩ : ∃ h, x * 10000 % 18446744073709551616 = h := ⟨_, rfl⟩
    rw [hhi] at hm hR c hH e
    rw [hlo'] at hm hlo e
    rw [show ((10000 : Nat) : Int) = 10000 from rfl] at hm
    have A3 := Aside0.mk hm
    clear hm hhi hlo'
    by_cases d : y ≤ hi
    · rw [if_pos d] at hR
      have d1 : decide ((y : Int) ≤ (hi : Int)) = true := decide_eq_true (by omega)
      subst hR
      clear e c
      go_enter Tryz.func85, Tryz.ntmps85
      go_wp2_with (first
        | ((with_reducible refine gate_callee (f := 76) rfl ?_); refine goesL_ (some 16) rfl rfl Tryz.func76 (by kernel_rfl) rfl #[.int .i64 a] rfl (by (try simp only [List.map_toArray, List.map_cons, List.map_nil]); first | done | rfl) ?_; (refine (fixnum_abs.calls a x n _ A1.out).mono ?_); rintro e w' ⟨rfl, ⟨nd, rfl⟩⟩; refine ⟨_, rfl, ?_⟩)
        | ((with_reducible refine gate_callee (f := 76) rfl ?_); refine goesL_ (some 21) rfl rfl Tryz.func76 (by kernel_rfl) rfl #[.int .i64 b] rfl (by (try simp only [List.map_toArray, List.map_cons, List.map_nil]); first | done | rfl) ?_; (refine (fixnum_abs.calls b y m _ A2.out).mono ?_); rintro e w' ⟨rfl, ⟨nd, rfl⟩⟩; refine ⟨_, rfl, ?_⟩)
        | ((with_reducible refine gate_callee (f := 108) rfl ?_); refine goesL_ (some 26) rfl rfl Tryz.func108 (by kernel_rfl) rfl #[.int .u64 (x : Int), .int .u64 10000] rfl (by (try simp only [List.map_toArray, List.map_cons, List.map_nil]); first | done | rfl) ?_; (refine (mul64.calls x 10000 hi lo _ A3.out).mono ?_); rintro e w' ⟨rfl, ⟨nd, rfl⟩⟩; refine ⟨_, rfl, ?_⟩))
      go_ret2
      exact ⟨by first | rfl | (simp; done) | (simp [*]; done), by repeat (first | exact Drawn0.refl _ | apply Drawn0.step)⟩
    · rw [if_neg d] at hR
      have d1 : decide ((y : Int) ≤ (hi : Int)) = false := decide_eq_false (by omega)
      have e2 : hi * 18446744073709551616 + lo = x * 10000 := by omega
      have hd := fun w => div64_calls hi lo y (by omega) (by omega) hH hv hlo w
      rw [e2] at hd
      have hq : x * 10000 / y < 18446744073709551616 := by
        rw [Nat.div_lt_iff_lt_mul (by omega)]
        have : (hi + 1) * 18446744073709551616 ≤ 18446744073709551616 * y := by rw [Nat.mul_comm]; exact Nat.mul_le_mul_left _ (by omega)
        omega
      have hs := signed3_f (x * 10000 / y) (n != m) hq
      rw [hR] at hs
      obtain ⟨q, hqq⟩ : ∃ q, x * 10000 / y = q := ⟨_, rfl⟩
      rw [hqq] at hd hs
      obtain ⟨rm, hrm⟩ : ∃ q, x * 10000 % y = q := ⟨_, rfl⟩
      rw [hrm] at hd
      obtain ⟨r1, r2⟩ := R
      have HD := Aside0.mk hd
      have A5 := Aside0.mk hs
      clear hd hs hqq hrm hR e2 e c hq
      go_enter Tryz.func85, Tryz.ntmps85
      go_wp2_with (first
        | ((with_reducible refine gate_callee (f := 76) rfl ?_); refine goesL_ (some 16) rfl rfl Tryz.func76 (by kernel_rfl) rfl #[.int .i64 a] rfl (by (try simp only [List.map_toArray, List.map_cons, List.map_nil]); first | done | rfl) ?_; (refine (fixnum_abs.calls a x n _ A1.out).mono ?_); rintro e w' ⟨rfl, ⟨nd, rfl⟩⟩; refine ⟨_, rfl, ?_⟩)
        | ((with_reducible refine gate_callee (f := 76) rfl ?_); refine goesL_ (some 21) rfl rfl Tryz.func76 (by kernel_rfl) rfl #[.int .i64 b] rfl (by (try simp only [List.map_toArray, List.map_cons, List.map_nil]); first | done | rfl) ?_; (refine (fixnum_abs.calls b y m _ A2.out).mono ?_); rintro e w' ⟨rfl, ⟨nd, rfl⟩⟩; refine ⟨_, rfl, ?_⟩)
        | ((with_reducible refine gate_callee (f := 108) rfl ?_); refine goesL_ (some 26) rfl rfl Tryz.func108 (by kernel_rfl) rfl #[.int .u64 (x : Int), .int .u64 10000] rfl (by (try simp only [List.map_toArray, List.map_cons, List.map_nil]); first | done | rfl) ?_; (refine (mul64.calls x 10000 hi lo _ A3.out).mono ?_); rintro e w' ⟨rfl, ⟨nd, rfl⟩⟩; refine ⟨_, rfl, ?_⟩)
        | ((with_reducible refine gate_callee (f := 109) rfl ?_); refine goesL_ (some 36) rfl rfl Tryz.func109 (by kernel_rfl) rfl #[.int .u64 (hi : Int), .int .u64 (lo : Int), .int .u64 (y : Int)] rfl (by (try simp only [List.map_toArray, List.map_cons, List.map_nil]); first | done | rfl) ?_; (refine (HD.out _).mono ?_); rintro e w' ⟨rfl, ⟨nd, rfl⟩⟩; refine ⟨_, rfl, ?_⟩)
        | ((with_reducible refine gate_callee (f := 71) rfl ?_); refine goesL_ (some 43) rfl rfl Tryz.func71 (by kernel_rfl) rfl #[.int .u64 (q : Int), .bool (n != m)] rfl (by (try simp only [List.map_toArray, List.map_cons, List.map_nil]); first | done | rfl) ?_; (refine (signed3.calls q (n != m) r1 r2 _ A5.out).mono ?_); rintro e w' ⟨rfl, ⟨nd, rfl⟩⟩; refine ⟨_, rfl, ?_⟩))
      go_ret2
      exact ⟨by first | rfl | (simp; done) | (simp [*]; done), by repeat (first | exact Drawn0.refl _ | apply Drawn0.step)⟩
end Go.Proofs.YtfnbflhoaemmeaaGreatDoor.Ext
end
section
namespace Go.Proofs.YtfnbflhoaemmeaaGreatDoor.EFix
open Go.RowKit Go.Lib Go.Proofs.YtfnbflhoaemmeaaGreatDoor.Ext
def fin (N : Nat) (neg : Bool) : Int × Bool := if N < 18446744073709551616 then sgnS N neg else (0, false)
end Go.Proofs.YtfnbflhoaemmeaaGreatDoor.EFix
end
section
namespace Go.Proofs.YtfnbflhoaemmeaaGreatDoor.Ext
open Go.RowKit Go.Proofs.YtfnbflhoaemmeaaGreatDoorW.PrintWords Go.Proofs.YtfnbflhoaemmeaaGreatDoorW.PrintLast Go.Proofs.YtfnbflhoaemmeaaGreatDoorW.PrintMore
attribute [local go_sem] max2_int min2_int max_two min_two max_three min_three max_four min_four
set_option linter.unusedVariables false
set_option linter.unusedSimpArgs false
def cs6 (l : List Int) : Array Value := #[.int .u64 (l.getD 0 0), .int .u64 (l.getD 1 0), .int .u64 (l.getD 2 0), .int .u64 (l.getD 3 0), .int .u64 (l.getD 4 0), .int .u64 (l.getD 5 0)]
def dig6 (a : List Int) : Prop := ∀ m, 0 ≤ a.getD m 0 ∧ a.getD m 0 < 4294967296
end Go.Proofs.YtfnbflhoaemmeaaGreatDoor.Ext
end
section
namespace Go.Proofs.YtfnbflhoaemmeaaGreatDoor.Ext
open Go.RowKit Go.Proofs.YtfnbflhoaemmeaaGreatDoorW.PrintWords Go.Proofs.YtfnbflhoaemmeaaGreatDoorW.PrintLast Go.Proofs.YtfnbflhoaemmeaaGreatDoorW.PrintMore
attribute [local go_sem] max2_int min2_int max_two min_two max_three min_three max_four min_four cs6
set_option linter.unusedVariables false
set_option linter.unusedSimpArgs false
end Go.Proofs.YtfnbflhoaemmeaaGreatDoor.Ext
end
section
namespace Go.Proofs.YtfnbflhoaemmeaaGreatDoor.Ext
open Go.RowKit Go.Proofs.YtfnbflhoaemmeaaGreatDoorW.PrintWords Go.Proofs.YtfnbflhoaemmeaaGreatDoorW.PrintLast Go.Proofs.YtfnbflhoaemmeaaGreatDoorW.PrintMore
attribute [local go_sem] max2_int min2_int max_two min_two max_three min_three max_four min_four cs6
set_option linter.unusedVariables false
set_option linter.unusedSimpArgs false
end Go.Proofs.YtfnbflhoaemmeaaGreatDoor.Ext
end
section
namespace Go.Proofs.YtfnbflhoaemmeaaGreatDoor.Ext
open Go.RowKit Go.Proofs.YtfnbflhoaemmeaaGreatDoor.EFix
def val6 (l : List Int) : Int := l.getD 0 0 + l.getD 1 0 * 4294967296 + l.getD 2 0 * 18446744073709551616 + l.getD 3 0 * 79228162514264337593543950336 + l.getD 4 0 * 340282366920938463463374607431768211456 + l.getD 5 0 * 1461501637330902918203684832716283019655932542976
end Go.Proofs.YtfnbflhoaemmeaaGreatDoor.Ext
end
section
namespace Go.Proofs.YtfnbflhoaemmeaaGreatDoor.Ext
open Go.RowKit Go.Proofs.YtfnbflhoaemmeaaGreatDoorW.PrintWords Go.Proofs.YtfnbflhoaemmeaaGreatDoorW.PrintLast Go.Proofs.YtfnbflhoaemmeaaGreatDoorW.PrintMore
attribute [local go_sem] max2_int min2_int max_two min_two max_three min_three max_four min_four cs6
set_option linter.unusedVariables false
set_option linter.unusedSimpArgs false
end Go.Proofs.YtfnbflhoaemmeaaGreatDoor.Ext
end
section
namespace Go.Proofs.YtfnbflhoaemmeaaGreatDoor.Ext
open Go.RowKit Go.Lib Go.Proofs.YtfnbflhoaemmeaaGreatDoorW.PrintWords Go.Proofs.YtfnbflhoaemmeaaGreatDoor.EFix
set_option linter.unusedVariables false
def cap (N : Nat) (V : List Int) : Prop := dig6 V ∧ V.length = 6 ∧ ((N < 79228162514264337593543950336 ∧ val6 V = (N : Int)) ∨ (79228162514264337593543950336 ≤ N ∧ 79228162514264337593543950336 ≤ val6 V ∧ val6 V < 158456325028528675187087900672))
end Go.Proofs.YtfnbflhoaemmeaaGreatDoor.Ext
end
section
namespace Go.Proofs.YtfnbflhoaemmeaaGreatDoor.EFix
open Go.RowKit Go.Proofs.YtfnbflhoaemmeaaGreatDoor.Ext Go.Proofs.YtfnbflhoaemmeaaGreatDoor.EFxA Go.Proofs.YtfnbflhoaemmeaaGreatDoorW.PrintWords Go.Proofs.YtfnbflhoaemmeaaGreatDoorW.PrintLast Go.Proofs.YtfnbflhoaemmeaaGreatDoorW.PrintMore
attribute [local go_sem] max2_int min2_int max_two min_two max_three min_three max_four min_four   
set_option linter.unusedVariables false
set_option linter.unusedSimpArgs false
end Go.Proofs.YtfnbflhoaemmeaaGreatDoor.EFix
end
section
namespace Go.Proofs.YtfnbflhoaemmeaaGreatDoor.EVal
open Go.RowKit Go.Proofs.YtfnbflhoaemmeaaGreatDoor.Ext Go.Proofs.YtfnbflhoaemmeaaGreatDoor.EFxA Go.Proofs.YtfnbflhoaemmeaaGreatDoor.EFix Go.Proofs.YtfnbflhoaemmeaaGreatDoorW.PrintWords Go.Proofs.YtfnbflhoaemmeaaGreatDoorW.PrintLast Go.Proofs.YtfnbflhoaemmeaaGreatDoorW.PrintMore
attribute [local go_sem] max2_int min2_int max_two min_two max_three min_three max_four min_four   
set_option linter.unusedVariables false
set_option linter.unusedSimpArgs false
def errW : Option Int → Value
  | none => .nilIface
  | some c => .iface 0 (.int .i64 c)
theorem errW_none : errW none = .nilIface := rfl
theorem errW_some (c : Int) : errW (some c) = .iface 0 (.int .i64 c) := rfl
structure S24 where
  f0 : Int
  f1 : Int
  f2 : ByteArray
  f3 : Bool
  f4 : Int
def z24 : S24 := ⟨(0 : Int), (0 : Int), (⟨#[]⟩ : ByteArray), false, (0 : Int)⟩
def k24 : Kd S24 := Kd.iso (Kd.pair (Kd.int .i64) (Kd.pair (Kd.int .i64) (Kd.pair Kd.string (Kd.pair Kd.bool (Kd.int .i64))))) (fun x : S24 => (x.f0, x.f1, x.f2, x.f3, x.f4))
theorem k24_open {w : World} {x : S24} {cs : List Value} (h : k24.K w x cs) : cs = [.int .i64 x.f0, .int .i64 x.f1, .string x.f2, .bool x.f3, .int .i64 x.f4] := by
  obtain ⟨_, _, rfl, rfl, ⟨_, _, rfl, rfl, ⟨_, _, rfl, rfl, ⟨_, _, rfl, rfl, rfl⟩⟩⟩⟩ := h
  exact rfl
theorem k24_mkM (w : World) (base : Nat) (ok : Nat → Prop) (x : S24)  : k24.M w base ok x [.int .i64 x.f0, .int .i64 x.f1, .string x.f2, .bool x.f3, .int .i64 x.f4] := ⟨[.int .i64 x.f0], [.int .i64 x.f1, .string x.f2, .bool x.f3, .int .i64 x.f4], rfl, rfl, ⟨[.int .i64 x.f1], [.string x.f2, .bool x.f3, .int .i64 x.f4], rfl, rfl, ⟨[.string x.f2], [.bool x.f3, .int .i64 x.f4], rfl, rfl, ⟨[.bool x.f3], [.int .i64 x.f4], rfl, rfl, rfl⟩⟩⟩⟩
def rd_T24 (xs : List S24) (i : Int) : S24 := xs.getD i.toNat z24
theorem at_T24 {w : World} {A : Option Addr} {n : Nat} {xs : List S24} (h : Kd.C k24 w A n xs) (i : Int) (h0 : 0 ≤ i) (h1 : i < n) : ∃ ad , A = some ad ∧ w.cell? (ad.add (i.toNat * 5)) = some (.int .i64 (rd_T24 xs i).f0) ∧ w.cell? ⟨(ad.add (i.toNat * 5)).block, (ad.add (i.toNat * 5)).off + 1, none⟩ = some (.int .i64 (rd_T24 xs i).f1) ∧ w.cell? ⟨(ad.add (i.toNat * 5)).block, (ad.add (i.toNat * 5)).off + 2, none⟩ = some (.string (rd_T24 xs i).f2) ∧ w.cell? ⟨(ad.add (i.toNat * 5)).block, (ad.add (i.toNat * 5)).off + 3, none⟩ = some (.bool (rd_T24 xs i).f3) ∧ w.cell? ⟨(ad.add (i.toNat * 5)).block, (ad.add (i.toNat * 5)).off + 4, none⟩ = some (.int .i64 (rd_T24 xs i).f4) := by
  obtain ⟨ad, c, e, _, hK, hc0⟩ := Kd.C_get h z24 i h0 h1
  have hc : ∀ j u, c[j]? = some u → w.cell? (ad.add (i.toNat * 5 + j)) = some u := hc0
  obtain rfl := k24_open hK
  exact ⟨ad, e, hc 0 _ rfl, by rw [← add_field _ _ 1 (by omega)]; exact hc 1 _ rfl, by rw [← add_field _ _ 2 (by omega)]; exact hc 2 _ rfl, by rw [← add_field _ _ 3 (by omega)]; exact hc 3 _ rfl, by rw [← add_field _ _ 4 (by omega)]; exact hc 4 _ rfl⟩
theorem bA {w W : World} (h : Below w.heap.size w W) (o : Obj) : Below w.heap.size w (W.alloc o) := below_alloc h o
theorem bN {B : Nat} {w W : World} (h : Below B w W) (n : Nat) : Below B w (W.drewN n) := pw_below_drewN h n
theorem bD {B : Nat} {w W : World} (h : Below B w W) : Below B w W.drew := below_drew1 h
theorem five {w : World} {g : Nat} {v0 v1 v2 v3 v4 : Value} (h : w.heap[g]? = some (.cells #[v0, v1, v2, v3, v4] 24 (0, 0))) :
    w.cell? ⟨g, 0, none⟩ = some v0 ∧ w.cell? ⟨g, 1, none⟩ = some v1 ∧ w.cell? ⟨g, 2, none⟩ = some v2 ∧ w.cell? ⟨g, 3, none⟩ = some v3 ∧ w.cell? ⟨g, 4, none⟩ = some v4 ∧
    w.frozen? ⟨g, 0, none⟩ = false ∧ w.frozen? ⟨g, 1, none⟩ = false ∧ w.frozen? ⟨g, 2, none⟩ = false ∧ w.frozen? ⟨g, 3, none⟩ = false ∧ w.frozen? ⟨g, 4, none⟩ = false :=
  ⟨(blk_cell h 0).trans rfl, (blk_cell h 1).trans rfl, (blk_cell h 2).trans rfl, (blk_cell h 3).trans rfl, (blk_cell h 4).trans rfl, blk_frozen h 0, blk_frozen h 1, blk_frozen h 2, blk_frozen h 3, blk_frozen h 4⟩
end Go.Proofs.YtfnbflhoaemmeaaGreatDoor.EVal
end
section
namespace Go.Proofs.YtfnbflhoaemmeaaGreatDoor.EVal
open Go.RowKit Go.Proofs.YtfnbflhoaemmeaaGreatDoor.Ext Go.Proofs.YtfnbflhoaemmeaaGreatDoor.EFxA Go.Proofs.YtfnbflhoaemmeaaGreatDoor.EFix Go.Proofs.YtfnbflhoaemmeaaGreatDoorW.PrintWords Go.Proofs.YtfnbflhoaemmeaaGreatDoorW.PrintLast Go.Proofs.YtfnbflhoaemmeaaGreatDoorW.PrintMore
attribute [local go_sem] max2_int min2_int max_two min_two max_three min_three max_four min_four   
set_option linter.unusedVariables false
set_option linter.unusedSimpArgs false
mutual
def counterpaneref1_Utf8.l0 : Nat → ByteArray → Int → Option (Bool)
 | 0, _, _ => none
 | k + 1, x0, x3 => if x3 < (x0.size : Int) then (if 0 ≤ x3 then (if (bt x0 x3) < 128 then (counterpaneref1_Utf8.l0 k x0 (wrap64 (x3 + 1))) else (if (bt x0 x3) ≥ 194 then (counterpaneref1_Utf8.j1 k x0 x3 (bt x0 x3) (decide ((bt x0 x3) ≤ 223))) else (counterpaneref1_Utf8.j1 k x0 x3 (bt x0 x3) false))) else (none)) else (some true)
def counterpaneref1_Utf8.j3 : Nat → ByteArray → Int → Int → Int → Option (Bool)
 | 0, _, _, _, _ => none
 | k + 1, x0, x3, x4, x5 => if (wrap64 (x3 + x5)) ≥ (x0.size : Int) then (some false) else (if 0 ≤ (wrap64 (x3 + 1)) then (if (wrap64 (x3 + 1)) < (x0.size : Int) then (if x4 = 224 then (if (bt x0 (wrap64 (x3 + 1))) < 160 then (counterpaneref1_Utf8.j4 k x0 x3 x5 true) else (if x4 = 237 then (if (bt x0 (wrap64 (x3 + 1))) > 159 then (counterpaneref1_Utf8.j4 k x0 x3 x5 true) else (if x4 = 240 then (if (bt x0 (wrap64 (x3 + 1))) < 144 then (counterpaneref1_Utf8.j4 k x0 x3 x5 true) else (if x4 = 244 then (counterpaneref1_Utf8.j4 k x0 x3 x5 (decide ((bt x0 (wrap64 (x3 + 1))) > 143))) else (counterpaneref1_Utf8.j4 k x0 x3 x5 false))) else (if x4 = 244 then (counterpaneref1_Utf8.j4 k x0 x3 x5 (decide ((bt x0 (wrap64 (x3 + 1))) > 143))) else (counterpaneref1_Utf8.j4 k x0 x3 x5 false)))) else (if x4 = 240 then (if (bt x0 (wrap64 (x3 + 1))) < 144 then (counterpaneref1_Utf8.j4 k x0 x3 x5 true) else (if x4 = 244 then (counterpaneref1_Utf8.j4 k x0 x3 x5 (decide ((bt x0 (wrap64 (x3 + 1))) > 143))) else (counterpaneref1_Utf8.j4 k x0 x3 x5 false))) else (if x4 = 244 then (counterpaneref1_Utf8.j4 k x0 x3 x5 (decide ((bt x0 (wrap64 (x3 + 1))) > 143))) else (counterpaneref1_Utf8.j4 k x0 x3 x5 false))))) else (if x4 = 237 then (if (bt x0 (wrap64 (x3 + 1))) > 159 then (counterpaneref1_Utf8.j4 k x0 x3 x5 true) else (if x4 = 240 then (if (bt x0 (wrap64 (x3 + 1))) < 144 then (counterpaneref1_Utf8.j4 k x0 x3 x5 true) else (if x4 = 244 then (counterpaneref1_Utf8.j4 k x0 x3 x5 (decide ((bt x0 (wrap64 (x3 + 1))) > 143))) else (counterpaneref1_Utf8.j4 k x0 x3 x5 false))) else (if x4 = 244 then (counterpaneref1_Utf8.j4 k x0 x3 x5 (decide ((bt x0 (wrap64 (x3 + 1))) > 143))) else (counterpaneref1_Utf8.j4 k x0 x3 x5 false)))) else (if x4 = 240 then (if (bt x0 (wrap64 (x3 + 1))) < 144 then (counterpaneref1_Utf8.j4 k x0 x3 x5 true) else (if x4 = 244 then (counterpaneref1_Utf8.j4 k x0 x3 x5 (decide ((bt x0 (wrap64 (x3 + 1))) > 143))) else (counterpaneref1_Utf8.j4 k x0 x3 x5 false))) else (if x4 = 244 then (counterpaneref1_Utf8.j4 k x0 x3 x5 (decide ((bt x0 (wrap64 (x3 + 1))) > 143))) else (counterpaneref1_Utf8.j4 k x0 x3 x5 false))))) else (none)) else (none))
def counterpaneref1_Utf8.j4 : Nat → ByteArray → Int → Int → Bool → Option (Bool)
 | 0, _, _, _, _ => none
 | k + 1, x0, x3, x5, x80 => if x80 = true then (some false) else (counterpaneref1_Utf8.l1 k x0 x3 x5 1)
def counterpaneref1_Utf8.l1 : Nat → ByteArray → Int → Int → Int → Option (Bool)
 | 0, _, _, _, _ => none
 | k + 1, x0, x3, x5, x7 => if x7 ≤ x5 then (if 0 ≤ (wrap64 (x3 + x7)) then (if (wrap64 (x3 + x7)) < (x0.size : Int) then (if (bt x0 (wrap64 (x3 + x7))) < 128 then (some false) else (if (bt x0 (wrap64 (x3 + x7))) > 191 then (some false) else (counterpaneref1_Utf8.l1 k x0 x3 x5 (wrap64 (x7 + 1))))) else (none)) else (none)) else (counterpaneref1_Utf8.l0 k x0 (wrap64 (x3 + (wrap64 (x5 + 1)))))
def counterpaneref1_Utf8.j1 : Nat → ByteArray → Int → Int → Bool → Option (Bool)
 | 0, _, _, _, _ => none
 | k + 1, x0, x3, x4, x20 => if x20 = true then (counterpaneref1_Utf8.j3 k x0 x3 x4 1) else (if x4 ≥ 224 then (counterpaneref1_Utf8.j2 k x0 x3 x4 (decide (x4 ≤ 239))) else (counterpaneref1_Utf8.j2 k x0 x3 x4 false))
def counterpaneref1_Utf8.j2 : Nat → ByteArray → Int → Int → Bool → Option (Bool)
 | 0, _, _, _, _ => none
 | k + 1, x0, x3, x4, x27 => if x27 = true then (counterpaneref1_Utf8.j3 k x0 x3 x4 2) else (if x4 ≥ 240 then (if x4 ≤ 244 then (counterpaneref1_Utf8.j3 k x0 x3 x4 3) else (some false)) else (some false))
end
def counterpaneref1_Utf8.f (k : Nat) (a0 : ByteArray) : Option (Bool) := counterpaneref1_Utf8.l0 k a0 0
set_option maxHeartbeats 8000000 in
set_option maxRecDepth 100000 in
theorem counterpaneref1_Utf8.calls (k : Nat) (a0 : ByteArray) (r : Bool) (w : World) (h : counterpaneref1_Utf8.f k a0 = some r) :
  Calls Tryz.prog 50 #[.string a0] w fun e w' => e = .returned (.bool r) ∧ Drawn0 w w' := by
 have H : (counterpaneref1_Utf8.l0 k a0 0) = some r := h
 clear h
 have H' := Aside0.mk H
 clear H
 go_enter Tryz.func50, Tryz.ntmps50
 go_wp2
 go_loopg [3] k (fun kq v3 w' => ∃ (x3_1 : Int), v3 = .int .i64 x3_1 ∧ Aside0 (counterpaneref1_Utf8.l0 kq a0 x3_1 = some r) ∧ Aside0 (kq ≤ k) ∧ Drawn0 w w')
 case atStart => exact ⟨(0), (by first | rfl | (simp; done) | (simp [*]; done)), H', ⟨Nat.le_refl _⟩, by repeat (first | exact Drawn0.refl _ | apply Drawn0.step)⟩
 case round =>
  clear H'
  obtain ⟨x3_1, rfl, HA, HK1, ⟨m1, rfl⟩⟩ := hrel
  cases gk with
  | zero => exact absurd HA.out (by simp [counterpaneref1_Utf8.l0])
  | succ k1 =>
   have H := HA.out
   clear HA
   simp only [counterpaneref1_Utf8.l0] at H
   by_cases c2 : x3_1 < (a0.size : Int)
   ·rw [if_pos c2] at H
    have c2b0 : decide (x3_1 < (a0.size : Int)) = true := decide_eq_true c2
    clear c2
    by_cases c3 : 0 ≤ x3_1
    ·rw [if_pos c3] at H
     have c3b0 : decide (0 ≤ x3_1) = true := decide_eq_true c3
     clear c3
     have HC5 := Aside0.mk H
     clear H
     have p4 : 0 ≤ (x3_1 : Int) := of_decide_eq_true (by first | (with_reducible assumption) | assumption)
     have q4 : x3_1 < (a0.size : Int) := of_decide_eq_true (by first | (with_reducible assumption) | assumption)
     have hx4 := bt_at a0 x3_1
     replace p4 := eq_true p4
     replace q4 := eq_true q4
     try (have q4z := q4; simp only [ByteArray.size_extract, Nat.min_self] at q4z)
     go_upto_block 2 with (fail)
     go_cut [3, 5] (fun v3 v5 wc => ∃ (kq : Nat) (x3_4 : Int) (x5_4 : Int), v3 = .int .i64 x3_4 ∧ v5 = .int .i64 x5_4 ∧ Aside0 (counterpaneref1_Utf8.j3 kq a0 x3_4 (bt a0 x3_1) x5_4 = some r) ∧ Aside0 (kq ≤ k1) ∧ Drawn0 w wc)
     case first =>
      have H := HC5.out
      clear HC5
      by_cases c6 : (bt a0 x3_1) < 128
      ·rw [if_pos c6] at H
       have c6b0 : decide ((bt a0 x3_1) < 128) = true := decide_eq_true c6
       clear c6
       (first | rw [c6b0] | (simp only [i64_w, i32_w]; rw [c6b0]) | skip)
       have H' := Aside0.mk H
       clear H
       go_wp2
       go_roundg k1
       case measure => have := HK1.out; omega
       case rel => exact ⟨(wrap64 (x3_1 + 1)), (by first | rfl | (simp; done) | (simp [*]; done)), H', ⟨by have := HK1.out; omega⟩, by repeat (first | exact Drawn0.refl _ | apply Drawn0.step)⟩
      ·rw [if_neg c6] at H
       have c6b0 : decide ((bt a0 x3_1) < 128) = false := decide_eq_false c6
       clear c6
       (first | rw [c6b0] | (simp only [i64_w, i32_w]; rw [c6b0]) | skip)
       have HC7 := Aside0.mk H
       clear H
       go_upto_region 8 with (fail)
       go_cut [20] (fun v20 wc => ∃ (kq : Nat) (x20_6 : Bool), v20 = .bool x20_6 ∧ Aside0 (counterpaneref1_Utf8.j1 kq a0 x3_1 (bt a0 x3_1) x20_6 = some r) ∧ Aside0 (kq ≤ k1) ∧ Drawn0 w wc)
       case first =>
        have H := HC7.out
        clear HC7
        by_cases c8 : (bt a0 x3_1) ≥ 194
        ·rw [if_pos c8] at H
         have c8b0 : decide (194 ≤ (bt a0 x3_1)) = true := decide_eq_true c8
         clear c8
         (first | rw [c8b0] | (simp only [i64_w, i32_w]; rw [c8b0]) | skip)
         have H' := Aside0.mk H
         clear H
         go_wp2
         go_meet
         case rel => exact ⟨_, (decide ((bt a0 x3_1) ≤ 223)), (by first | rfl | (simp; done) | (simp [*]; done)), H', ⟨by have := HK1.out; first | omega | exact Nat.le_refl _⟩, by repeat (first | exact Drawn0.refl _ | apply Drawn0.step)⟩
        ·rw [if_neg c8] at H
         have c8b0 : decide (194 ≤ (bt a0 x3_1)) = false := decide_eq_false c8
         clear c8
         (first | rw [c8b0] | (simp only [i64_w, i32_w]; rw [c8b0]) | skip)
         have H' := Aside0.mk H
         clear H
         go_wp2
         go_meet
         case rel => exact ⟨_, (false), (by first | rfl | (simp; done) | (simp [*]; done)), H', ⟨by have := HK1.out; first | omega | exact Nat.le_refl _⟩, by repeat (first | exact Drawn0.refl _ | apply Drawn0.step)⟩
       case rest =>
        clear HC7
        try clear c2
        try clear c2b0
        try clear p2
        try clear c3
        try clear c3b0
        try clear p4
        try clear q4
        try clear hx4
        try clear c5
        try clear c6
        try clear c6b0
        try clear p6
        try clear c8
        try clear c8b0
        try clear p4
        try clear q4
        obtain ⟨kq, x20_6, rfl, HA, HJ6, ⟨mc6, rfl⟩⟩ := hcut
        cases kq with
        | zero => exact absurd HA.out (by simp [counterpaneref1_Utf8.j1])
        | succ kj6 =>
         have H := HA.out
         clear HA
         simp only [counterpaneref1_Utf8.j1] at H
         by_cases c9 : x20_6 = true
         ·subst c9
          have H1 : (counterpaneref1_Utf8.j3 kj6 a0 x3_1 (bt a0 x3_1) 1) = some r := by rw [if_pos rfl] at H; exact H
          clear H
          have H := H1
          clear H1
          have H' := Aside0.mk H
          clear H
          go_wp2
          go_meet
          case rel => exact ⟨_, (x3_1), (1), (by first | rfl | (simp; done) | (simp [*]; done)), (by first | rfl | (simp; done) | (simp [*]; done)), H', ⟨by have := HK1.out; have := HJ6.out; first | omega | exact Nat.le_refl _⟩, by repeat (first | exact Drawn0.refl _ | apply Drawn0.step)⟩
         ·replace c9 := Bool.eq_false_iff.mpr c9
          subst c9
          have H1 : (if (bt a0 x3_1) ≥ 224 then (counterpaneref1_Utf8.j2 kj6 a0 x3_1 (bt a0 x3_1) (decide ((bt a0 x3_1) ≤ 239))) else (counterpaneref1_Utf8.j2 kj6 a0 x3_1 (bt a0 x3_1) false)) = some r := by rw [if_neg (show ¬ (false = true) by decide)] at H; exact H
          clear H
          have H := H1
          clear H1
          have HC10 := Aside0.mk H
          clear H
          go_upto_region 10 with (fail)
          go_cut [27] (fun v27 wc => ∃ (kq : Nat) (x27_9 : Bool), v27 = .bool x27_9 ∧ Aside0 (counterpaneref1_Utf8.j2 kq a0 x3_1 (bt a0 x3_1) x27_9 = some r) ∧ Aside0 (kq ≤ kj6) ∧ Drawn0 w wc)
          case first =>
           have H := HC10.out
           clear HC10
           by_cases c11 : (bt a0 x3_1) ≥ 224
           ·rw [if_pos c11] at H
            have c11b0 : decide (224 ≤ (bt a0 x3_1)) = true := decide_eq_true c11
            clear c11
            (first | rw [c11b0] | (simp only [i64_w, i32_w]; rw [c11b0]) | skip)
            have H' := Aside0.mk H
            clear H
            go_wp2
            go_meet
            case rel => exact ⟨_, (decide ((bt a0 x3_1) ≤ 239)), (by first | rfl | (simp; done) | (simp [*]; done)), H', ⟨by have := HK1.out; have := HJ6.out; first | omega | exact Nat.le_refl _⟩, by repeat (first | exact Drawn0.refl _ | apply Drawn0.step)⟩
           ·rw [if_neg c11] at H
            have c11b0 : decide (224 ≤ (bt a0 x3_1)) = false := decide_eq_false c11
            clear c11
            (first | rw [c11b0] | (simp only [i64_w, i32_w]; rw [c11b0]) | skip)
            have H' := Aside0.mk H
            clear H
            go_wp2
            go_meet
            case rel => exact ⟨_, (false), (by first | rfl | (simp; done) | (simp [*]; done)), H', ⟨by have := HK1.out; have := HJ6.out; first | omega | exact Nat.le_refl _⟩, by repeat (first | exact Drawn0.refl _ | apply Drawn0.step)⟩
          case rest =>
           clear HC10
           try clear c1
           try clear c2
           try clear c2b0
           try clear p2
           try clear c3
           try clear c3b0
           try clear p4
           try clear q4
           try clear hx4
           try clear c5
           try clear c6
           try clear c6b0
           try clear p6
           try clear c8
           try clear c8b0
           try clear c9
           try clear c11
           try clear c11b0
           try clear p2
           try clear p4
           try clear p6
           try clear q4
           obtain ⟨kq, x27_9, rfl, HA, HJ9, ⟨mc9, rfl⟩⟩ := hcut
           cases kq with
           | zero => exact absurd HA.out (by simp [counterpaneref1_Utf8.j2])
           | succ kj9 =>
            have H := HA.out
            clear HA
            simp only [counterpaneref1_Utf8.j2] at H
            by_cases c12 : x27_9 = true
            ·subst c12
             have H1 : (counterpaneref1_Utf8.j3 kj9 a0 x3_1 (bt a0 x3_1) 2) = some r := by rw [if_pos rfl] at H; exact H
             clear H
             have H := H1
             clear H1
             have H' := Aside0.mk H
             clear H
             go_wp2
             go_meet
             case rel => exact ⟨_, (x3_1), (2), (by first | rfl | (simp; done) | (simp [*]; done)), (by first | rfl | (simp; done) | (simp [*]; done)), H', ⟨by have := HK1.out; have := HJ6.out; have := HJ9.out; first | omega | exact Nat.le_refl _⟩, by repeat (first | exact Drawn0.refl _ | apply Drawn0.step)⟩
            ·replace c12 := Bool.eq_false_iff.mpr c12
             subst c12
             have H1 : (if (bt a0 x3_1) ≥ 240 then (if (bt a0 x3_1) ≤ 244 then (counterpaneref1_Utf8.j3 kj9 a0 x3_1 (bt a0 x3_1) 3) else (some false)) else (some false)) = some r := by rw [if_neg (show ¬ (false = true) by decide)] at H; exact H
             clear H
             have H := H1
             clear H1
             by_cases c13 : (bt a0 x3_1) ≥ 240
             ·rw [if_pos c13] at H
              have c13b0 : decide (240 ≤ (bt a0 x3_1)) = true := decide_eq_true c13
              clear c13
              by_cases c14 : (bt a0 x3_1) ≤ 244
              ·rw [if_pos c14] at H
               have c14b0 : decide ((bt a0 x3_1) ≤ 244) = true := decide_eq_true c14
               clear c14
               have H' := Aside0.mk H
               clear H
               go_wp2
               go_meet
               case rel => exact ⟨_, (x3_1), (3), (by first | rfl | (simp; done) | (simp [*]; done)), (by first | rfl | (simp; done) | (simp [*]; done)), H', ⟨by have := HK1.out; have := HJ6.out; have := HJ9.out; first | omega | exact Nat.le_refl _⟩, by repeat (first | exact Drawn0.refl _ | apply Drawn0.step)⟩
              ·rw [if_neg c14] at H
               have c14b0 : decide ((bt a0 x3_1) ≤ 244) = false := decide_eq_false c14
               clear c14
               obtain rfl := Option.some.inj H
               go_wp2
               go_ret
               exact ⟨by first | rfl | (simp; done) | (simp [*]; done) | (simp; generalize ByteArray.toList _ = l_; cases l_ <;> rfl), by repeat (first | exact Drawn0.refl _ | apply Drawn0.step)⟩
             ·rw [if_neg c13] at H
              have c13b0 : decide (240 ≤ (bt a0 x3_1)) = false := decide_eq_false c13
              clear c13
              obtain rfl := Option.some.inj H
              go_wp2
              go_ret
              exact ⟨by first | rfl | (simp; done) | (simp [*]; done) | (simp; generalize ByteArray.toList _ = l_; cases l_ <;> rfl), by repeat (first | exact Drawn0.refl _ | apply Drawn0.step)⟩
     case rest =>
      clear HC5
      try clear c1
      try clear c2
      try clear c2b0
      try clear p2
      try clear c3
      try clear c3b0
      try clear p4
      try clear q4
      try clear hx4
      try clear c5
      try clear c6
      try clear c6b0
      try clear p6
      try clear c8
      try clear c8b0
      try clear c9
      try clear c11
      try clear c11b0
      try clear c12
      try clear c13
      try clear c13b0
      try clear c14
      try clear c14b0
      try clear p2
      try clear p4
      try clear p6
      try clear q4
      obtain ⟨kq, x3_4, x5_4, rfl, rfl, HA, HJ4, ⟨mc4, rfl⟩⟩ := hcut
      cases kq with
      | zero => exact absurd HA.out (by simp [counterpaneref1_Utf8.j3])
      | succ kj4 =>
       have H := HA.out
       clear HA
       simp only [counterpaneref1_Utf8.j3] at H
       by_cases c15 : (wrap64 (x3_4 + x5_4)) ≥ (a0.size : Int)
       ·rw [if_pos c15] at H
        have c15b0 : decide ((a0.size : Int) ≤ (wrap64 (x3_4 + x5_4))) = true := decide_eq_true c15
        clear c15
        obtain rfl := Option.some.inj H
        go_wp2
        go_ret
        exact ⟨by first | rfl | (simp; done) | (simp [*]; done) | (simp; generalize ByteArray.toList _ = l_; cases l_ <;> rfl), by repeat (first | exact Drawn0.refl _ | apply Drawn0.step)⟩
       ·rw [if_neg c15] at H
        have c15b0 : decide ((a0.size : Int) ≤ (wrap64 (x3_4 + x5_4))) = false := decide_eq_false c15
        clear c15
        obtain ⟨ji16, hji16⟩ : ∃ j_ : Int, (wrap64 (x3_4 + 1)) = j_ := ⟨_, rfl⟩
        replace H : (if 0 ≤ (ji16) then (if (ji16) < (a0.size : Int) then (if (bt a0 x3_1) = 224 then (if (bt a0 (ji16)) < 160 then (counterpaneref1_Utf8.j4 kj4 a0 x3_4 x5_4 true) else (if (bt a0 x3_1) = 237 then (if (bt a0 (ji16)) > 159 then (counterpaneref1_Utf8.j4 kj4 a0 x3_4 x5_4 true) else (if (bt a0 x3_1) = 240 then (if (bt a0 (ji16)) < 144 then (counterpaneref1_Utf8.j4 kj4 a0 x3_4 x5_4 true) else (if (bt a0 x3_1) = 244 then (counterpaneref1_Utf8.j4 kj4 a0 x3_4 x5_4 (decide ((bt a0 (ji16)) > 143))) else (counterpaneref1_Utf8.j4 kj4 a0 x3_4 x5_4 false))) else (if (bt a0 x3_1) = 244 then (counterpaneref1_Utf8.j4 kj4 a0 x3_4 x5_4 (decide ((bt a0 (ji16)) > 143))) else (counterpaneref1_Utf8.j4 kj4 a0 x3_4 x5_4 false)))) else (if (bt a0 x3_1) = 240 then (if (bt a0 (ji16)) < 144 then (counterpaneref1_Utf8.j4 kj4 a0 x3_4 x5_4 true) else (if (bt a0 x3_1) = 244 then (counterpaneref1_Utf8.j4 kj4 a0 x3_4 x5_4 (decide ((bt a0 (ji16)) > 143))) else (counterpaneref1_Utf8.j4 kj4 a0 x3_4 x5_4 false))) else (if (bt a0 x3_1) = 244 then (counterpaneref1_Utf8.j4 kj4 a0 x3_4 x5_4 (decide ((bt a0 (ji16)) > 143))) else (counterpaneref1_Utf8.j4 kj4 a0 x3_4 x5_4 false))))) else (if (bt a0 x3_1) = 237 then (if (bt a0 (ji16)) > 159 then (counterpaneref1_Utf8.j4 kj4 a0 x3_4 x5_4 true) else (if (bt a0 x3_1) = 240 then (if (bt a0 (ji16)) < 144 then (counterpaneref1_Utf8.j4 kj4 a0 x3_4 x5_4 true) else (if (bt a0 x3_1) = 244 then (counterpaneref1_Utf8.j4 kj4 a0 x3_4 x5_4 (decide ((bt a0 (ji16)) > 143))) else (counterpaneref1_Utf8.j4 kj4 a0 x3_4 x5_4 false))) else (if (bt a0 x3_1) = 244 then (counterpaneref1_Utf8.j4 kj4 a0 x3_4 x5_4 (decide ((bt a0 (ji16)) > 143))) else (counterpaneref1_Utf8.j4 kj4 a0 x3_4 x5_4 false)))) else (if (bt a0 x3_1) = 240 then (if (bt a0 (ji16)) < 144 then (counterpaneref1_Utf8.j4 kj4 a0 x3_4 x5_4 true) else (if (bt a0 x3_1) = 244 then (counterpaneref1_Utf8.j4 kj4 a0 x3_4 x5_4 (decide ((bt a0 (ji16)) > 143))) else (counterpaneref1_Utf8.j4 kj4 a0 x3_4 x5_4 false))) else (if (bt a0 x3_1) = 244 then (counterpaneref1_Utf8.j4 kj4 a0 x3_4 x5_4 (decide ((bt a0 (ji16)) > 143))) else (counterpaneref1_Utf8.j4 kj4 a0 x3_4 x5_4 false))))) else (none)) else (none)) = some r := by first | (rw [hji16] at H; exact H) | (simp only [hji16] at H ⊢; exact H)
        have hji16w : (IntKind.i64.wrap (x3_4 + 1)) = ji16 := (i64_w _).trans hji16
        by_cases c17 : 0 ≤ (ji16)
        ·rw [if_pos c17] at H
         have c17b0 : decide (0 ≤ (ji16)) = true := decide_eq_true c17
         clear c17
         by_cases c18 : (ji16) < (a0.size : Int)
         ·rw [if_pos c18] at H
          have c18b0 : decide ((ji16) < (a0.size : Int)) = true := decide_eq_true c18
          clear c18
          have HC20 := Aside0.mk H
          clear H
          have p19 : 0 ≤ ((ji16) : Int) := of_decide_eq_true (by first | (with_reducible assumption) | assumption)
          have q19 : (ji16) < (a0.size : Int) := of_decide_eq_true (by first | (with_reducible assumption) | assumption)
          have hx19 := bt_at a0 (ji16)
          replace p19 := eq_true p19
          replace q19 := eq_true q19
          try (have q19z := q19; simp only [ByteArray.size_extract, Nat.min_self] at q19z)
          go_upto_region 17 with (fail)
          go_cut [80] (fun v80 wc => ∃ (kq : Nat) (x80_19 : Bool), v80 = .bool x80_19 ∧ Aside0 (counterpaneref1_Utf8.j4 kq a0 x3_4 x5_4 x80_19 = some r) ∧ Aside0 (kq ≤ kj4) ∧ Drawn0 w wc)
          case first =>
           have H := HC20.out
           clear HC20
           by_cases c21 : (bt a0 x3_1) = 224
           ·rw [if_pos c21] at H
            have c21b0 : ((bt a0 x3_1) == 224) = true := beq_iff_eq.mpr c21
            have c21b1 : ((bt a0 x3_1) != 224) = false := bne_eq_false_iff_eq.mpr c21
            clear c21
            (first | rw [c21b0] | (simp only [i64_w, i32_w]; rw [c21b0]) | skip)
            by_cases c22 : (bt a0 (ji16)) < 160
            ·rw [if_pos c22] at H
             have c22b0 : decide ((bt a0 (ji16)) < 160) = true := decide_eq_true c22
             clear c22
             have H' := Aside0.mk H
             clear H
             go_wp2
             go_meet
             case rel => exact ⟨_, (true), (by first | rfl | (simp; done) | (simp [*]; done)), H', ⟨by have := HK1.out; have := HJ4.out; first | omega | exact Nat.le_refl _⟩, by repeat (first | exact Drawn0.refl _ | apply Drawn0.step)⟩
            ·rw [if_neg c22] at H
             have c22b0 : decide ((bt a0 (ji16)) < 160) = false := decide_eq_false c22
             clear c22
             by_cases c23 : (bt a0 x3_1) = 237
             ·rw [if_pos c23] at H
              have c23b0 : ((bt a0 x3_1) == 237) = true := beq_iff_eq.mpr c23
              have c23b1 : ((bt a0 x3_1) != 237) = false := bne_eq_false_iff_eq.mpr c23
              clear c23
              by_cases c24 : (bt a0 (ji16)) > 159
              ·rw [if_pos c24] at H
               have c24b0 : decide (159 < (bt a0 (ji16))) = true := decide_eq_true c24
               clear c24
               have H' := Aside0.mk H
               clear H
               go_wp2
               go_meet
               case rel => exact ⟨_, (true), (by first | rfl | (simp; done) | (simp [*]; done)), H', ⟨by have := HK1.out; have := HJ4.out; first | omega | exact Nat.le_refl _⟩, by repeat (first | exact Drawn0.refl _ | apply Drawn0.step)⟩
              ·rw [if_neg c24] at H
               have c24b0 : decide (159 < (bt a0 (ji16))) = false := decide_eq_false c24
               clear c24
               by_cases c25 : (bt a0 x3_1) = 240
               ·rw [if_pos c25] at H
                have c25b0 : ((bt a0 x3_1) == 240) = true := beq_iff_eq.mpr c25
                have c25b1 : ((bt a0 x3_1) != 240) = false := bne_eq_false_iff_eq.mpr c25
                clear c25
                by_cases c26 : (bt a0 (ji16)) < 144
                ·rw [if_pos c26] at H
                 have c26b0 : decide ((bt a0 (ji16)) < 144) = true := decide_eq_true c26
                 clear c26
                 have H' := Aside0.mk H
                 clear H
                 go_wp2
                 go_meet
                 case rel => exact ⟨_, (true), (by first | rfl | (simp; done) | (simp [*]; done)), H', ⟨by have := HK1.out; have := HJ4.out; first | omega | exact Nat.le_refl _⟩, by repeat (first | exact Drawn0.refl _ | apply Drawn0.step)⟩
                ·rw [if_neg c26] at H
                 have c26b0 : decide ((bt a0 (ji16)) < 144) = false := decide_eq_false c26
                 clear c26
                 by_cases c27 : (bt a0 x3_1) = 244
                 ·rw [if_pos c27] at H
                  have c27b0 : ((bt a0 x3_1) == 244) = true := beq_iff_eq.mpr c27
                  have c27b1 : ((bt a0 x3_1) != 244) = false := bne_eq_false_iff_eq.mpr c27
                  clear c27
                  have H' := Aside0.mk H
                  clear H
                  go_wp2
                  go_meet
                  case rel => exact ⟨_, (decide ((bt a0 (ji16)) > 143)), (by first | rfl | (simp; done) | (simp only [← hji16] <;> (first | rfl | simp)) | (simp [*]; done)), H', ⟨by have := HK1.out; have := HJ4.out; first | omega | exact Nat.le_refl _⟩, by repeat (first | exact Drawn0.refl _ | apply Drawn0.step)⟩
                 ·rw [if_neg c27] at H
                  have c27b0 : ((bt a0 x3_1) == 244) = false := beq_eq_false_iff_ne.mpr c27
                  have c27b1 : ((bt a0 x3_1) != 244) = true := bne_iff_ne.mpr c27
                  have H' := Aside0.mk H
                  clear H
                  go_wp2
                  go_meet
                  case rel => exact ⟨_, (false), (by first | rfl | (simp; done) | (simp [*]; done)), H', ⟨by have := HK1.out; have := HJ4.out; first | omega | exact Nat.le_refl _⟩, by repeat (first | exact Drawn0.refl _ | apply Drawn0.step)⟩
               ·rw [if_neg c25] at H
                have c25b0 : ((bt a0 x3_1) == 240) = false := beq_eq_false_iff_ne.mpr c25
                have c25b1 : ((bt a0 x3_1) != 240) = true := bne_iff_ne.mpr c25
                by_cases c28 : (bt a0 x3_1) = 244
                ·rw [if_pos c28] at H
                 have c28b0 : ((bt a0 x3_1) == 244) = true := beq_iff_eq.mpr c28
                 have c28b1 : ((bt a0 x3_1) != 244) = false := bne_eq_false_iff_eq.mpr c28
                 clear c28
                 have H' := Aside0.mk H
                 clear H
                 go_wp2
                 go_meet
                 case rel => exact ⟨_, (decide ((bt a0 (ji16)) > 143)), (by first | rfl | (simp; done) | (simp only [← hji16] <;> (first | rfl | simp)) | (simp [*]; done)), H', ⟨by have := HK1.out; have := HJ4.out; first | omega | exact Nat.le_refl _⟩, by repeat (first | exact Drawn0.refl _ | apply Drawn0.step)⟩
                ·rw [if_neg c28] at H
                 have c28b0 : ((bt a0 x3_1) == 244) = false := beq_eq_false_iff_ne.mpr c28
                 have c28b1 : ((bt a0 x3_1) != 244) = true := bne_iff_ne.mpr c28
                 have H' := Aside0.mk H
                 clear H
                 go_wp2
                 go_meet
                 case rel => exact ⟨_, (false), (by first | rfl | (simp; done) | (simp [*]; done)), H', ⟨by have := HK1.out; have := HJ4.out; first | omega | exact Nat.le_refl _⟩, by repeat (first | exact Drawn0.refl _ | apply Drawn0.step)⟩
             ·rw [if_neg c23] at H
              have c23b0 : ((bt a0 x3_1) == 237) = false := beq_eq_false_iff_ne.mpr c23
              have c23b1 : ((bt a0 x3_1) != 237) = true := bne_iff_ne.mpr c23
              by_cases c29 : (bt a0 x3_1) = 240
              ·rw [if_pos c29] at H
               have c29b0 : ((bt a0 x3_1) == 240) = true := beq_iff_eq.mpr c29
               have c29b1 : ((bt a0 x3_1) != 240) = false := bne_eq_false_iff_eq.mpr c29
               clear c29
               by_cases c30 : (bt a0 (ji16)) < 144
               ·rw [if_pos c30] at H
                have c30b0 : decide ((bt a0 (ji16)) < 144) = true := decide_eq_true c30
                clear c30
                have H' := Aside0.mk H
                clear H
                go_wp2
                go_meet
                case rel => exact ⟨_, (true), (by first | rfl | (simp; done) | (simp [*]; done)), H', ⟨by have := HK1.out; have := HJ4.out; first | omega | exact Nat.le_refl _⟩, by repeat (first | exact Drawn0.refl _ | apply Drawn0.step)⟩
               ·rw [if_neg c30] at H
                have c30b0 : decide ((bt a0 (ji16)) < 144) = false := decide_eq_false c30
                clear c30
                by_cases c31 : (bt a0 x3_1) = 244
                ·rw [if_pos c31] at H
                 have c31b0 : ((bt a0 x3_1) == 244) = true := beq_iff_eq.mpr c31
                 have c31b1 : ((bt a0 x3_1) != 244) = false := bne_eq_false_iff_eq.mpr c31
                 clear c31
                 have H' := Aside0.mk H
                 clear H
                 go_wp2
                 go_meet
                 case rel => exact ⟨_, (decide ((bt a0 (ji16)) > 143)), (by first | rfl | (simp; done) | (simp only [← hji16] <;> (first | rfl | simp)) | (simp [*]; done)), H', ⟨by have := HK1.out; have := HJ4.out; first | omega | exact Nat.le_refl _⟩, by repeat (first | exact Drawn0.refl _ | apply Drawn0.step)⟩
                ·rw [if_neg c31] at H
                 have c31b0 : ((bt a0 x3_1) == 244) = false := beq_eq_false_iff_ne.mpr c31
                 have c31b1 : ((bt a0 x3_1) != 244) = true := bne_iff_ne.mpr c31
                 have H' := Aside0.mk H
                 clear H
                 go_wp2
                 go_meet
                 case rel => exact ⟨_, (false), (by first | rfl | (simp; done) | (simp [*]; done)), H', ⟨by have := HK1.out; have := HJ4.out; first | omega | exact Nat.le_refl _⟩, by repeat (first | exact Drawn0.refl _ | apply Drawn0.step)⟩
              ·rw [if_neg c29] at H
               have c29b0 : ((bt a0 x3_1) == 240) = false := beq_eq_false_iff_ne.mpr c29
               have c29b1 : ((bt a0 x3_1) != 240) = true := bne_iff_ne.mpr c29
               by_cases c32 : (bt a0 x3_1) = 244
               ·rw [if_pos c32] at H
                have c32b0 : ((bt a0 x3_1) == 244) = true := beq_iff_eq.mpr c32
                have c32b1 : ((bt a0 x3_1) != 244) = false := bne_eq_false_iff_eq.mpr c32
                clear c32
                have H' := Aside0.mk H
                clear H
                go_wp2
                go_meet
                case rel => exact ⟨_, (decide ((bt a0 (ji16)) > 143)), (by first | rfl | (simp; done) | (simp only [← hji16] <;> (first | rfl | simp)) | (simp [*]; done)), H', ⟨by have := HK1.out; have := HJ4.out; first | omega | exact Nat.le_refl _⟩, by repeat (first | exact Drawn0.refl _ | apply Drawn0.step)⟩
               ·rw [if_neg c32] at H
                have c32b0 : ((bt a0 x3_1) == 244) = false := beq_eq_false_iff_ne.mpr c32
                have c32b1 : ((bt a0 x3_1) != 244) = true := bne_iff_ne.mpr c32
                have H' := Aside0.mk H
                clear H
                go_wp2
                go_meet
                case rel => exact ⟨_, (false), (by first | rfl | (simp; done) | (simp [*]; done)), H', ⟨by have := HK1.out; have := HJ4.out; first | omega | exact Nat.le_refl _⟩, by repeat (first | exact Drawn0.refl _ | apply Drawn0.step)⟩
           ·rw [if_neg c21] at H
            have c21b0 : ((bt a0 x3_1) == 224) = false := beq_eq_false_iff_ne.mpr c21
            have c21b1 : ((bt a0 x3_1) != 224) = true := bne_iff_ne.mpr c21
            (first | rw [c21b0] | (simp only [i64_w, i32_w]; rw [c21b0]) | skip)
            by_cases c33 : (bt a0 x3_1) = 237
            ·rw [if_pos c33] at H
             have c33b0 : ((bt a0 x3_1) == 237) = true := beq_iff_eq.mpr c33
             have c33b1 : ((bt a0 x3_1) != 237) = false := bne_eq_false_iff_eq.mpr c33
             clear c33
             by_cases c34 : (bt a0 (ji16)) > 159
             ·rw [if_pos c34] at H
              have c34b0 : decide (159 < (bt a0 (ji16))) = true := decide_eq_true c34
              clear c34
              have H' := Aside0.mk H
              clear H
              go_wp2
              go_meet
              case rel => exact ⟨_, (true), (by first | rfl | (simp; done) | (simp [*]; done)), H', ⟨by have := HK1.out; have := HJ4.out; first | omega | exact Nat.le_refl _⟩, by repeat (first | exact Drawn0.refl _ | apply Drawn0.step)⟩
             ·rw [if_neg c34] at H
              have c34b0 : decide (159 < (bt a0 (ji16))) = false := decide_eq_false c34
              clear c34
              by_cases c35 : (bt a0 x3_1) = 240
              ·rw [if_pos c35] at H
               have c35b0 : ((bt a0 x3_1) == 240) = true := beq_iff_eq.mpr c35
               have c35b1 : ((bt a0 x3_1) != 240) = false := bne_eq_false_iff_eq.mpr c35
               clear c35
               by_cases c36 : (bt a0 (ji16)) < 144
               ·rw [if_pos c36] at H
                have c36b0 : decide ((bt a0 (ji16)) < 144) = true := decide_eq_true c36
                clear c36
                have H' := Aside0.mk H
                clear H
                go_wp2
                go_meet
                case rel => exact ⟨_, (true), (by first | rfl | (simp; done) | (simp [*]; done)), H', ⟨by have := HK1.out; have := HJ4.out; first | omega | exact Nat.le_refl _⟩, by repeat (first | exact Drawn0.refl _ | apply Drawn0.step)⟩
               ·rw [if_neg c36] at H
                have c36b0 : decide ((bt a0 (ji16)) < 144) = false := decide_eq_false c36
                clear c36
                by_cases c37 : (bt a0 x3_1) = 244
                ·rw [if_pos c37] at H
                 have c37b0 : ((bt a0 x3_1) == 244) = true := beq_iff_eq.mpr c37
                 have c37b1 : ((bt a0 x3_1) != 244) = false := bne_eq_false_iff_eq.mpr c37
                 clear c37
                 have H' := Aside0.mk H
                 clear H
                 go_wp2
                 go_meet
                 case rel => exact ⟨_, (decide ((bt a0 (ji16)) > 143)), (by first | rfl | (simp; done) | (simp only [← hji16] <;> (first | rfl | simp)) | (simp [*]; done)), H', ⟨by have := HK1.out; have := HJ4.out; first | omega | exact Nat.le_refl _⟩, by repeat (first | exact Drawn0.refl _ | apply Drawn0.step)⟩
                ·rw [if_neg c37] at H
                 have c37b0 : ((bt a0 x3_1) == 244) = false := beq_eq_false_iff_ne.mpr c37
                 have c37b1 : ((bt a0 x3_1) != 244) = true := bne_iff_ne.mpr c37
                 have H' := Aside0.mk H
                 clear H
                 go_wp2
                 go_meet
                 case rel => exact ⟨_, (false), (by first | rfl | (simp; done) | (simp [*]; done)), H', ⟨by have := HK1.out; have := HJ4.out; first | omega | exact Nat.le_refl _⟩, by repeat (first | exact Drawn0.refl _ | apply Drawn0.step)⟩
              ·rw [if_neg c35] at H
               have c35b0 : ((bt a0 x3_1) == 240) = false := beq_eq_false_iff_ne.mpr c35
               have c35b1 : ((bt a0 x3_1) != 240) = true := bne_iff_ne.mpr c35
               by_cases c38 : (bt a0 x3_1) = 244
               ·rw [if_pos c38] at H
                have c38b0 : ((bt a0 x3_1) == 244) = true := beq_iff_eq.mpr c38
                have c38b1 : ((bt a0 x3_1) != 244) = false := bne_eq_false_iff_eq.mpr c38
                clear c38
                have H' := Aside0.mk H
                clear H
                go_wp2
                go_meet
                case rel => exact ⟨_, (decide ((bt a0 (ji16)) > 143)), (by first | rfl | (simp; done) | (simp only [← hji16] <;> (first | rfl | simp)) | (simp [*]; done)), H', ⟨by have := HK1.out; have := HJ4.out; first | omega | exact Nat.le_refl _⟩, by repeat (first | exact Drawn0.refl _ | apply Drawn0.step)⟩
               ·rw [if_neg c38] at H
                have c38b0 : ((bt a0 x3_1) == 244) = false := beq_eq_false_iff_ne.mpr c38
                have c38b1 : ((bt a0 x3_1) != 244) = true := bne_iff_ne.mpr c38
                have H' := Aside0.mk H
                clear H
                go_wp2
                go_meet
                case rel => exact ⟨_, (false), (by first | rfl | (simp; done) | (simp [*]; done)), H', ⟨by have := HK1.out; have := HJ4.out; first | omega | exact Nat.le_refl _⟩, by repeat (first | exact Drawn0.refl _ | apply Drawn0.step)⟩
            ·rw [if_neg c33] at H
             have c33b0 : ((bt a0 x3_1) == 237) = false := beq_eq_false_iff_ne.mpr c33
             have c33b1 : ((bt a0 x3_1) != 237) = true := bne_iff_ne.mpr c33
             by_cases c39 : (bt a0 x3_1) = 240
             ·rw [if_pos c39] at H
              have c39b0 : ((bt a0 x3_1) == 240) = true := beq_iff_eq.mpr c39
              have c39b1 : ((bt a0 x3_1) != 240) = false := bne_eq_false_iff_eq.mpr c39
              clear c39
              by_cases c40 : (bt a0 (ji16)) < 144
              ·rw [if_pos c40] at H
               have c40b0 : decide ((bt a0 (ji16)) < 144) = true := decide_eq_true c40
               clear c40
               have H' := Aside0.mk H
               clear H
               go_wp2
               go_meet
               case rel => exact ⟨_, (true), (by first | rfl | (simp; done) | (simp [*]; done)), H', ⟨by have := HK1.out; have := HJ4.out; first | omega | exact Nat.le_refl _⟩, by repeat (first | exact Drawn0.refl _ | apply Drawn0.step)⟩
              ·rw [if_neg c40] at H
               have c40b0 : decide ((bt a0 (ji16)) < 144) = false := decide_eq_false c40
               clear c40
               by_cases c41 : (bt a0 x3_1) = 244
               ·rw [if_pos c41] at H
                have c41b0 : ((bt a0 x3_1) == 244) = true := beq_iff_eq.mpr c41
                have c41b1 : ((bt a0 x3_1) != 244) = false := bne_eq_false_iff_eq.mpr c41
                clear c41
                have H' := Aside0.mk H
                clear H
                go_wp2
                go_meet
                case rel => exact ⟨_, (decide ((bt a0 (ji16)) > 143)), (by first | rfl | (simp; done) | (simp only [← hji16] <;> (first | rfl | simp)) | (simp [*]; done)), H', ⟨by have := HK1.out; have := HJ4.out; first | omega | exact Nat.le_refl _⟩, by repeat (first | exact Drawn0.refl _ | apply Drawn0.step)⟩
               ·rw [if_neg c41] at H
                have c41b0 : ((bt a0 x3_1) == 244) = false := beq_eq_false_iff_ne.mpr c41
                have c41b1 : ((bt a0 x3_1) != 244) = true := bne_iff_ne.mpr c41
                have H' := Aside0.mk H
                clear H
                go_wp2
                go_meet
                case rel => exact ⟨_, (false), (by first | rfl | (simp; done) | (simp [*]; done)), H', ⟨by have := HK1.out; have := HJ4.out; first | omega | exact Nat.le_refl _⟩, by repeat (first | exact Drawn0.refl _ | apply Drawn0.step)⟩
             ·rw [if_neg c39] at H
              have c39b0 : ((bt a0 x3_1) == 240) = false := beq_eq_false_iff_ne.mpr c39
              have c39b1 : ((bt a0 x3_1) != 240) = true := bne_iff_ne.mpr c39
              by_cases c42 : (bt a0 x3_1) = 244
              ·rw [if_pos c42] at H
               have c42b0 : ((bt a0 x3_1) == 244) = true := beq_iff_eq.mpr c42
               have c42b1 : ((bt a0 x3_1) != 244) = false := bne_eq_false_iff_eq.mpr c42
               clear c42
               have H' := Aside0.mk H
               clear H
               go_wp2
               go_meet
               case rel => exact ⟨_, (decide ((bt a0 (ji16)) > 143)), (by first | rfl | (simp; done) | (simp only [← hji16] <;> (first | rfl | simp)) | (simp [*]; done)), H', ⟨by have := HK1.out; have := HJ4.out; first | omega | exact Nat.le_refl _⟩, by repeat (first | exact Drawn0.refl _ | apply Drawn0.step)⟩
              ·rw [if_neg c42] at H
               have c42b0 : ((bt a0 x3_1) == 244) = false := beq_eq_false_iff_ne.mpr c42
               have c42b1 : ((bt a0 x3_1) != 244) = true := bne_iff_ne.mpr c42
               have H' := Aside0.mk H
               clear H
               go_wp2
               go_meet
               case rel => exact ⟨_, (false), (by first | rfl | (simp; done) | (simp [*]; done)), H', ⟨by have := HK1.out; have := HJ4.out; first | omega | exact Nat.le_refl _⟩, by repeat (first | exact Drawn0.refl _ | apply Drawn0.step)⟩
          case rest =>
           clear HC20
           try clear c1
           try clear p1
           try clear q1
           try clear hx1
           try clear c2
           try clear c2b0
           try clear p2
           try clear c3
           try clear c3b0
           try clear c4
           try clear p4
           try clear q4
           try clear hx4
           try clear c5
           try clear c6
           try clear c6b0
           try clear p6
           try clear c8
           try clear c8b0
           try clear c9
           try clear c11
           try clear c11b0
           try clear c12
           try clear c13
           try clear c13b0
           try clear c14
           try clear c14b0
           try clear c15
           try clear c15b0
           try clear c17
           try clear c17b0
           try clear c18
           try clear c18b0
           try clear p19
           try clear q19
           try clear hx19
           try clear c21
           try clear c21b0
           try clear c21b1
           try clear c22
           try clear c22b0
           try clear c23
           try clear c23b0
           try clear c23b1
           try clear c24
           try clear c24b0
           try clear c25
           try clear c25b0
           try clear c25b1
           try clear c26
           try clear c26b0
           try clear c27
           try clear c27b0
           try clear c27b1
           try clear c28
           try clear c28b0
           try clear c28b1
           try clear c29
           try clear c29b0
           try clear c29b1
           try clear c30
           try clear c30b0
           try clear c31
           try clear c31b0
           try clear c31b1
           try clear c32
           try clear c32b0
           try clear c32b1
           try clear c33
           try clear c33b0
           try clear c33b1
           try clear c34
           try clear c34b0
           try clear c35
           try clear c35b0
           try clear c35b1
           try clear c36
           try clear c36b0
           try clear c37
           try clear c37b0
           try clear c37b1
           try clear c38
           try clear c38b0
           try clear c38b1
           try clear c39
           try clear c39b0
           try clear c39b1
           try clear c40
           try clear c40b0
           try clear c41
           try clear c41b0
           try clear c41b1
           try clear c42
           try clear c42b0
           try clear c42b1
           try clear p19
           try clear p2
           try clear p4
           try clear p6
           try clear q19
           try clear q4
           obtain ⟨kq, x80_19, rfl, HA, HJ19, ⟨mc19, rfl⟩⟩ := hcut
           cases kq with
           | zero => exact absurd HA.out (by simp [counterpaneref1_Utf8.j4])
           | succ kj19 =>
            have H := HA.out
            clear HA
            simp only [counterpaneref1_Utf8.j4] at H
            by_cases c43 : x80_19 = true
            ·subst c43
             have H1 : (some false) = some r := by rw [if_pos rfl] at H; exact H
             clear H
             have H := H1
             clear H1
             obtain rfl := Option.some.inj H
             go_wp2
             go_ret
             exact ⟨by first | rfl | (simp; done) | (simp only [← hji16] <;> (first | rfl | simp)) | (simp [*]; done), by repeat (first | exact Drawn0.refl _ | apply Drawn0.step)⟩
            ·replace c43 := Bool.eq_false_iff.mpr c43
             subst c43
             have H1 : (counterpaneref1_Utf8.l1 kj19 a0 x3_4 x5_4 1) = some r := by rw [if_neg (show ¬ (false = true) by decide)] at H; exact H
             clear H
             have H := H1
             clear H1
             have H' := Aside0.mk H
             clear H
             go_wp2
             go_loopg [7] kj19 (fun kq v7 w' => ∃ (x7_4 : Int), v7 = .int .i64 x7_4 ∧ Aside0 (counterpaneref1_Utf8.l1 kq a0 x3_4 x5_4 x7_4 = some r) ∧ Aside0 (kq ≤ kj19) ∧ Drawn0 w w')
             case atStart => exact ⟨(1), (by first | rfl | (simp; done) | (simp [*]; done)), H', ⟨Nat.le_refl _⟩, by repeat (first | exact Drawn0.refl _ | apply Drawn0.step)⟩
             case round =>
              clear H'
              try clear c1
              try clear p1
              try clear q1
              try clear hx1
              try clear c2
              try clear c2b0
              try clear p2
              try clear c3
              try clear c3b0
              try clear c4
              try clear p4
              try clear q4
              try clear hx4
              try clear c5
              try clear c6
              try clear c6b0
              try clear p6
              try clear c8
              try clear c8b0
              try clear c9
              try clear c11
              try clear c11b0
              try clear c12
              try clear c13
              try clear c13b0
              try clear c14
              try clear c14b0
              try clear c15
              try clear c15b0
              try clear c17
              try clear c17b0
              try clear c18
              try clear c18b0
              try clear c19
              try clear p19
              try clear q19
              try clear hx19
              try clear c21
              try clear c21b0
              try clear c21b1
              try clear c22
              try clear c22b0
              try clear c23
              try clear c23b0
              try clear c23b1
              try clear c24
              try clear c24b0
              try clear c25
              try clear c25b0
              try clear c25b1
              try clear c26
              try clear c26b0
              try clear c27
              try clear c27b0
              try clear c27b1
              try clear c28
              try clear c28b0
              try clear c28b1
              try clear c29
              try clear c29b0
              try clear c29b1
              try clear c30
              try clear c30b0
              try clear c31
              try clear c31b0
              try clear c31b1
              try clear c32
              try clear c32b0
              try clear c32b1
              try clear c33
              try clear c33b0
              try clear c33b1
              try clear c34
              try clear c34b0
              try clear c35
              try clear c35b0
              try clear c35b1
              try clear c36
              try clear c36b0
              try clear c37
              try clear c37b0
              try clear c37b1
              try clear c38
              try clear c38b0
              try clear c38b1
              try clear c39
              try clear c39b0
              try clear c39b1
              try clear c40
              try clear c40b0
              try clear c41
              try clear c41b0
              try clear c41b1
              try clear c42
              try clear c42b0
              try clear c42b1
              try clear c43
              try clear p1
              try clear p19
              try clear p2
              try clear p4
              try clear p6
              try clear q1
              try clear q19
              try clear q4
              obtain ⟨x7_4, rfl, HA, HK4, ⟨m4, rfl⟩⟩ := hrel
              cases gk with
              | zero => exact absurd HA.out (by simp [counterpaneref1_Utf8.l1])
              | succ k4 =>
               have H := HA.out
               clear HA
               simp only [counterpaneref1_Utf8.l1] at H
               by_cases c44 : x7_4 ≤ x5_4
               ·rw [if_pos c44] at H
                have c44b0 : decide (x7_4 ≤ x5_4) = true := decide_eq_true c44
                clear c44
                obtain ⟨ji45, hji45⟩ : ∃ j_ : Int, (wrap64 (x3_4 + x7_4)) = j_ := ⟨_, rfl⟩
                replace H : (if 0 ≤ (ji45) then (if (ji45) < (a0.size : Int) then (if (bt a0 (ji45)) < 128 then (some false) else (if (bt a0 (ji45)) > 191 then (some false) else (counterpaneref1_Utf8.l1 k4 a0 x3_4 x5_4 (wrap64 (x7_4 + 1))))) else (none)) else (none)) = some r := by first | (rw [hji45] at H; exact H) | (simp only [hji45] at H ⊢; exact H)
                have hji45w : (IntKind.i64.wrap (x3_4 + x7_4)) = ji45 := (i64_w _).trans hji45
                by_cases c46 : 0 ≤ (ji45)
                ·rw [if_pos c46] at H
                 have c46b0 : decide (0 ≤ (ji45)) = true := decide_eq_true c46
                 clear c46
                 by_cases c47 : (ji45) < (a0.size : Int)
                 ·rw [if_pos c47] at H
                  have c47b0 : decide ((ji45) < (a0.size : Int)) = true := decide_eq_true c47
                  clear c47
                  by_cases c49 : (bt a0 (ji45)) < 128
                  ·rw [if_pos c49] at H
                   have c49b0 : decide ((bt a0 (ji45)) < 128) = true := decide_eq_true c49
                   clear c49
                   obtain rfl := Option.some.inj H
                   have p48 : 0 ≤ ((ji45) : Int) := of_decide_eq_true (by first | (with_reducible assumption) | assumption)
                   have q48 : (ji45) < (a0.size : Int) := of_decide_eq_true (by first | (with_reducible assumption) | assumption)
                   have hx48 := bt_at a0 (ji45)
                   replace p48 := eq_true p48
                   replace q48 := eq_true q48
                   try (have q48z := q48; simp only [ByteArray.size_extract, Nat.min_self] at q48z)
                   go_wp2
                   go_ret
                   exact ⟨by first | rfl | (simp; done) | (simp only [← hji16, ← hji45] <;> (first | rfl | simp)) | (simp [*]; done), by repeat (first | exact Drawn0.refl _ | apply Drawn0.step)⟩
                  ·rw [if_neg c49] at H
                   have c49b0 : decide ((bt a0 (ji45)) < 128) = false := decide_eq_false c49
                   clear c49
                   by_cases c51 : (bt a0 (ji45)) > 191
                   ·rw [if_pos c51] at H
                    have c51b0 : decide (191 < (bt a0 (ji45))) = true := decide_eq_true c51
                    clear c51
                    obtain rfl := Option.some.inj H
                    have p48 : 0 ≤ ((ji45) : Int) := of_decide_eq_true (by first | (with_reducible assumption) | assumption)
                    have q48 : (ji45) < (a0.size : Int) := of_decide_eq_true (by first | (with_reducible assumption) | assumption)
                    have hx48 := bt_at a0 (ji45)
                    replace p48 := eq_true p48
                    replace q48 := eq_true q48
                    try (have q48z := q48; simp only [ByteArray.size_extract, Nat.min_self] at q48z)
                    have p50 : 0 ≤ ((ji45) : Int) := of_decide_eq_true (by first | (with_reducible assumption) | assumption)
                    have q50 : (ji45) < (a0.size : Int) := of_decide_eq_true (by first | (with_reducible assumption) | assumption)
                    have hx50 := bt_at a0 (ji45)
                    replace p50 := eq_true p50
                    replace q50 := eq_true q50
                    try (have q50z := q50; simp only [ByteArray.size_extract, Nat.min_self] at q50z)
                    go_wp2
                    go_ret
                    exact ⟨by first | rfl | (simp; done) | (simp only [← hji16, ← hji45] <;> (first | rfl | simp)) | (simp [*]; done), by repeat (first | exact Drawn0.refl _ | apply Drawn0.step)⟩
                   ·rw [if_neg c51] at H
                    have c51b0 : decide (191 < (bt a0 (ji45))) = false := decide_eq_false c51
                    clear c51
                    have H' := Aside0.mk H
                    clear H
                    have p48 : 0 ≤ ((ji45) : Int) := of_decide_eq_true (by first | (with_reducible assumption) | assumption)
                    have q48 : (ji45) < (a0.size : Int) := of_decide_eq_true (by first | (with_reducible assumption) | assumption)
                    have hx48 := bt_at a0 (ji45)
                    replace p48 := eq_true p48
                    replace q48 := eq_true q48
                    try (have q48z := q48; simp only [ByteArray.size_extract, Nat.min_self] at q48z)
                    have p50 : 0 ≤ ((ji45) : Int) := of_decide_eq_true (by first | (with_reducible assumption) | assumption)
                    have q50 : (ji45) < (a0.size : Int) := of_decide_eq_true (by first | (with_reducible assumption) | assumption)
                    have hx50 := bt_at a0 (ji45)
                    replace p50 := eq_true p50
                    replace q50 := eq_true q50
                    try (have q50z := q50; simp only [ByteArray.size_extract, Nat.min_self] at q50z)
                    go_wp2
                    go_roundg k4
                    case measure => have := HK1.out; have := HJ4.out; have := HJ19.out; have := HK4.out; omega
                    case rel => exact ⟨(wrap64 (x7_4 + 1)), (by first | rfl | (simp; done) | (simp [*]; done)), H', ⟨by have := HK1.out; have := HJ4.out; have := HJ19.out; have := HK4.out; omega⟩, by repeat (first | exact Drawn0.refl _ | apply Drawn0.step)⟩
                 ·rw [if_neg c47] at H
                  exact absurd H (by simp)
                ·rw [if_neg c46] at H
                 exact absurd H (by simp)
               ·rw [if_neg c44] at H
                have c44b0 : decide (x7_4 ≤ x5_4) = false := decide_eq_false c44
                clear c44
                have H' := Aside0.mk H
                clear H
                go_wp2
                go_roundg k4
                case measure => have := HK1.out; have := HJ4.out; have := HJ19.out; have := HK4.out; omega
                case rel => exact ⟨(wrap64 (x3_4 + (wrap64 (x5_4 + 1)))), (by first | rfl | (simp; done) | (simp [*]; done)), H', ⟨by have := HK1.out; have := HJ4.out; have := HJ19.out; have := HK4.out; omega⟩, by repeat (first | exact Drawn0.refl _ | apply Drawn0.step)⟩
         ·rw [if_neg c18] at H
          exact absurd H (by simp)
        ·rw [if_neg c17] at H
         exact absurd H (by simp)
    ·rw [if_neg c3] at H
     exact absurd H (by simp)
   ·rw [if_neg c2] at H
    have c2b0 : decide (x3_1 < (a0.size : Int)) = false := decide_eq_false c2
    clear c2
    obtain rfl := Option.some.inj H
    go_wp2
    go_ret
    exact ⟨by first | rfl | (simp; done) | (simp [*]; done) | (simp; generalize ByteArray.toList _ = l_; cases l_ <;> rfl), by repeat (first | exact Drawn0.refl _ | apply Drawn0.step)⟩
end Go.Proofs.YtfnbflhoaemmeaaGreatDoor.EVal
end
section
namespace Go.Proofs.YtfnbflhoaemmeaaGreatDoor.EVal
open Go.RowKit Go.Lib Go.Proofs.YtfnbflhoaemmeaaGreatDoorW.PrintWords Go.Proofs.YtfnbflhoaemmeaaGreatDoorW.PrintLast Go.Proofs.YtfnbflhoaemmeaaGreatDoor.Ext Go.Proofs.YtfnbflhoaemmeaaGreatDoor.EFxA Go.Proofs.YtfnbflhoaemmeaaGreatDoor.EFix
set_option linter.unusedVariables false
def B (x : ByteArray) (i j : Nat) : Nat := (((by_ x).drop i).getD j 0).toNat
theorem B_lt (x : ByteArray) (i j : Nat) : B x i j < 256 := UInt8.toNat_lt _
theorem bt_B (x : ByteArray) (i j : Nat) (h : i + j < x.size) : bt x ((i : Int) + (j : Int)) = (B x i j : Int) := by
  have hl := by_len x
  have e : ((i : Int) + (j : Int)) = ((i + j : Nat) : Int) := by omega
  rw [e, bt_by x (i + j) (by omega)]
  unfold B
  rw [List.getD_eq_getElem?_getD, List.getElem?_drop, List.getElem?_eq_getElem (by omega)]
  rfl
theorem bt_B0 (x : ByteArray) (i : Nat) (h : i < x.size) : bt x (i : Int) = (B x i 0 : Int) := by
  have := bt_B x i 0 (by omega)
  rw [show ((i : Int) + ((0 : Nat) : Int)) = (i : Int) by omega] at this
  exact this
theorem bt_B1 (x : ByteArray) (i : Nat) (h : i + 1 < x.size) : bt x ((i : Int) + 1) = (B x i 1 : Int) := bt_B x i 1 h
theorem run_step (k : Nat) (x : ByteArray) (i n j : Nat) (hs : x.size ≤ 100000) (hj : j ≤ n) (hn : i + n < x.size) :
    counterpaneref1_Utf8.l1 (k + 1) x i n j = if B x i j < 128 ∨ 191 < B x i j then some false else counterpaneref1_Utf8.l1 k x i n (j + 1 : Nat) := by
  have e1 : wrap64 ((i : Int) + (j : Int)) = (i : Int) + (j : Int) := wr _ (by omega) (by omega)
  have e2 : wrap64 ((j : Int) + 1) = ((j + 1 : Nat) : Int) := by rw [wr _ (by omega) (by omega)]; omega
  rw [counterpaneref1_Utf8.l1, e1, e2, bt_B x i j (by omega), if_pos (by omega), if_pos (by omega), if_pos (by omega)]
  by_cases c : B x i j < 128
  · rw [if_pos (by omega), if_pos (.inl c)]
  · rw [if_neg (by omega)]
    by_cases d : 191 < B x i j
    · rw [if_pos (by omega), if_pos (.inr d)]
    · rw [if_neg (by omega), if_neg (by omega)]
theorem run_end (k : Nat) (x : ByteArray) (i n : Nat) (hs : x.size ≤ 100000) (hn : i + n < x.size) :
    counterpaneref1_Utf8.l1 (k + 1) x i n (n + 1 : Nat) = counterpaneref1_Utf8.l0 k x ((i + (n + 1) : Nat) : Int) := by
  have e1 : wrap64 ((n : Int) + 1) = (n : Int) + 1 := wr _ (by omega) (by omega)
  have e2 : wrap64 ((i : Int) + ((n : Int) + 1)) = ((i + (n + 1) : Nat) : Int) := by rw [wr _ (by omega) (by omega)]; omega
  rw [counterpaneref1_Utf8.l1, e1, e2, if_neg (by omega)]
theorem j3_eq (k : Nat) (x : ByteArray) (i c n : Nat) (hs : x.size ≤ 100000) (hn : n ≤ 3) (h1 : 1 ≤ n) (hi : i < x.size) :
    counterpaneref1_Utf8.j3 (k + 2) x i c n = if x.size ≤ i + n then some false else if (c = 224 ∧ B x i 1 < 160) ∨ (c = 237 ∧ 159 < B x i 1) ∨ (c = 240 ∧ B x i 1 < 144) ∨ (c = 244 ∧ 143 < B x i 1) then some false else counterpaneref1_Utf8.l1 k x i n (1 : Nat) := by
  have e1 : wrap64 ((i : Int) + (n : Int)) = (i : Int) + (n : Int) := wr _ (by omega) (by omega)
  have e2 : wrap64 ((i : Int) + 1) = (i : Int) + 1 := wr _ (by omega) (by omega)
  rw [counterpaneref1_Utf8.j3, e1, e2]
  by_cases c0 : x.size ≤ i + n
  · rw [if_pos (by omega), if_pos c0]
  · rw [if_neg (by omega), if_neg c0, if_pos (by omega), if_pos (by omega), bt_B1 x i (by omega)]
    simp only [counterpaneref1_Utf8.j4, decide_eq_true_eq, if_true, Bool.false_eq_true, if_false]
    generalize B x i 1 = b
    by_cases d1 : c = 224
    · subst d1
      by_cases f : b < 160
      · rw [if_pos (by omega), if_pos (by omega), if_pos (by omega)]
      · rw [if_pos (by omega), if_neg (by omega), if_neg (by omega), if_neg (by omega), if_neg (by omega), if_neg (by omega)]
        rfl
    · rw [if_neg (by omega)]
      by_cases d2 : c = 237
      · subst d2
        by_cases f : 159 < b
        · rw [if_pos (by omega), if_pos (by omega), if_pos (by omega)]
        · rw [if_pos (by omega), if_neg (by omega), if_neg (by omega), if_neg (by omega), if_neg (by omega)]
          rfl
      · rw [if_neg (by omega)]
        by_cases d3 : c = 240
        · subst d3
          by_cases f : b < 144
          · rw [if_pos (by omega), if_pos (by omega), if_pos (by omega)]
          · rw [if_pos (by omega), if_neg (by omega), if_neg (by omega), if_neg (by omega)]
            rfl
        · rw [if_neg (by omega)]
          by_cases d4 : c = 244
          · subst d4
            by_cases f : 143 < b
            · rw [if_pos (by omega), if_pos (by omega), if_pos (by omega)]
            · rw [if_pos (by omega), if_neg (by omega), if_neg (by omega)]
              rfl
          · rw [if_neg (by omega), if_neg (by omega)]
            rfl
def okB (b : Nat) : Prop := 128 ≤ b ∧ b ≤ 191
instance (b : Nat) : Decidable (okB b) := inferInstanceAs (Decidable (_ ∧ _))
theorem run_1 (k : Nat) (x : ByteArray) (i : Nat) (hs : x.size ≤ 100000) (hn : i + 1 < x.size) :
    counterpaneref1_Utf8.l1 (k + 2) x i (1 : Nat) (1 : Nat) = if okB (B x i 1) then counterpaneref1_Utf8.l0 k x ((i + 2 : Nat) : Int) else some false := by
  rw [run_step (k + 1) x i 1 1 hs (by omega) (by omega), run_end k x i 1 hs (by omega)]
  by_cases c1 : okB (B x i 1)
  · rw [if_neg (by unfold okB at c1; omega), if_pos c1]
  · rw [if_pos (by unfold okB at c1; omega), if_neg c1]
theorem run_2 (k : Nat) (x : ByteArray) (i : Nat) (hs : x.size ≤ 100000) (hn : i + 2 < x.size) :
    counterpaneref1_Utf8.l1 (k + 3) x i (2 : Nat) (1 : Nat) = if okB (B x i 1) ∧ okB (B x i 2) then counterpaneref1_Utf8.l0 k x ((i + 3 : Nat) : Int) else some false := by
  rw [run_step (k + 2) x i 2 1 hs (by omega) (by omega), run_step (k + 1) x i 2 2 hs (by omega) (by omega), run_end k x i 2 hs (by omega)]
  by_cases c1 : okB (B x i 1)
  · rw [if_neg (by unfold okB at c1; omega)]
    by_cases c2 : okB (B x i 2)
    · rw [if_neg (by unfold okB at c2; omega), if_pos ⟨c1, c2⟩]
    · rw [if_pos (by unfold okB at c2; omega), if_neg (fun h => c2 h.2)]
  · rw [if_pos (by unfold okB at c1; omega), if_neg (fun h => c1 h.1)]
theorem run_3 (k : Nat) (x : ByteArray) (i : Nat) (hs : x.size ≤ 100000) (hn : i + 3 < x.size) :
    counterpaneref1_Utf8.l1 (k + 4) x i (3 : Nat) (1 : Nat) = if okB (B x i 1) ∧ okB (B x i 2) ∧ okB (B x i 3) then counterpaneref1_Utf8.l0 k x ((i + 4 : Nat) : Int) else some false := by
  rw [run_step (k + 3) x i 3 1 hs (by omega) (by omega), run_step (k + 2) x i 3 2 hs (by omega) (by omega), run_step (k + 1) x i 3 3 hs (by omega) (by omega), run_end k x i 3 hs (by omega)]
  by_cases c1 : okB (B x i 1)
  · rw [if_neg (by unfold okB at c1; omega)]
    by_cases c2 : okB (B x i 2)
    · rw [if_neg (by unfold okB at c2; omega)]
      by_cases c3 : okB (B x i 3)
      · rw [if_neg (by unfold okB at c3; omega), if_pos ⟨c1, c2, c3⟩]
      · rw [if_pos (by unfold okB at c3; omega), if_neg (fun h => c3 h.2.2)]
    · rw [if_pos (by unfold okB at c2; omega), if_neg (fun h => c2 h.2.1)]
  · rw [if_pos (by unfold okB at c1; omega), if_neg (fun h => c1 h.1)]
theorem lead_eq (l : List UInt8) (b0 sz lo hi : Nat) (hne : l ≠ []) (h0 : (l.getD 0 0).toNat = b0) (h128 : 128 ≤ b0) (e1 : firstT b0 % 8 = sz) (e2 : accLo (firstT b0 / 16) = lo) (e3 : accHi (firstT b0 / 16) = hi) :
    validD l = match checkN l.length (l.getD 1 0).toNat (l.getD 2 0).toNat (l.getD 3 0).toNat sz lo hi with
      | none => false
      | some k => validD (l.drop k) := by
  have h := validD_lead l hne (by omega)
  rw [h0, e1, e2, e3] at h
  exact h
def lo_ (b0 : Nat) : Nat := if b0 = 224 then 160 else if b0 = 240 then 144 else 128
def hi_ (b0 : Nat) : Nat := if b0 = 237 then 159 else if b0 = 244 then 143 else 191
def sz_ (b0 : Nat) : Nat := if b0 < 194 then 1 else if b0 < 224 then 2 else if b0 < 240 then 3 else if b0 < 245 then 4 else 1
set_option maxRecDepth 100000 in
theorem tabs : ∀ b : Fin 256, 128 ≤ b.val → firstT b.val % 8 = sz_ b.val ∧ (194 ≤ b.val → b.val < 245 → accLo (firstT b.val / 16) = lo_ b.val ∧ accHi (firstT b.val / 16) = hi_ b.val) := by decide +kernel
theorem lead_at (x : ByteArray) (i : Nat) (hi : i < x.size) (h128 : 128 ≤ B x i 0) :
    validD ((by_ x).drop i) = if sz_ (B x i 0) = 1 then false else if x.size < i + sz_ (B x i 0) then false else if B x i 1 < lo_ (B x i 0) ∨ hi_ (B x i 0) < B x i 1 ∨ (3 ≤ sz_ (B x i 0) ∧ ¬ okB (B x i 2)) ∨ (4 ≤ sz_ (B x i 0) ∧ ¬ okB (B x i 3)) then false else validD ((by_ x).drop (i + sz_ (B x i 0))) := by
  have hl := by_len x
  have hlen : ((by_ x).drop i).length = x.size - i := by rw [List.length_drop, hl]
  have hne : (by_ x).drop i ≠ [] := by intro h; rw [h] at hlen; simp at hlen; omega
  obtain ⟨t1, t2⟩ := tabs ⟨B x i 0, B_lt x i 0⟩ h128
  simp only at t1 t2
  obtain ⟨b0, hb0⟩ : ∃ b, B x i 0 = b := ⟨_, rfl⟩
  rw [hb0] at t1 t2 h128 ⊢
  have hb : b0 < 256 := by rw [← hb0]; exact B_lt x i 0
  have key := fun lo hi e2 e3 => lead_eq ((by_ x).drop i) b0 (sz_ b0) lo hi hne hb0 h128 t1 e2 e3
  have d1 : (((by_ x).drop i).getD 1 0).toNat = B x i 1 := rfl
  have d2 : (((by_ x).drop i).getD 2 0).toNat = B x i 2 := rfl
  have d3 : (((by_ x).drop i).getD 3 0).toNat = B x i 3 := rfl
  by_cases c : sz_ b0 = 1
  · rw [if_pos c, key _ _ rfl rfl, c]
    simp [checkN]
  · have hr : 194 ≤ b0 ∧ b0 < 245 := by unfold sz_ at c; revert c; repeat' split
                                        all_goals omega
    obtain ⟨t3, t4⟩ := t2 hr.1 hr.2
    rw [if_neg c, key _ _ t3 t4, d1, d2, d3, hlen]
    have hz : sz_ b0 = 2 ∨ sz_ b0 = 3 ∨ sz_ b0 = 4 := by unfold sz_ at c ⊢; revert c; repeat' split
                                                         all_goals omega
    unfold okB
    have hd : ∀ m, ((by_ x).drop i).drop m = (by_ x).drop (i + m) := fun m => by rw [List.drop_drop]
    generalize B x i 1 = b1
    generalize B x i 2 = b2
    generalize B x i 3 = b3
    generalize lo_ b0 = lo
    generalize hi_ b0 = hi'
    rcases hz with e | e | e
    · rw [e]
      unfold checkN
      rw [if_pos rfl]
      by_cases g : x.size - i < 2 ∨ b1 < lo ∨ hi' < b1
      · rw [if_pos g]
        dsimp only
        split <;> first | rfl | (split <;> first | rfl | omega)
      · rw [if_neg g, if_neg (by omega), if_neg (by omega)]
        exact congrArg validD (hd 2)
    · rw [e]
      unfold checkN
      rw [if_neg (by decide), if_pos rfl]
      by_cases g : x.size - i < 3 ∨ b1 < lo ∨ hi' < b1 ∨ b2 < 128 ∨ 191 < b2
      · rw [if_pos g]
        dsimp only
        split <;> first | rfl | (split <;> first | rfl | omega)
      · rw [if_neg g, if_neg (by omega), if_neg (by omega)]
        exact congrArg validD (hd 3)
    · rw [e]
      unfold checkN
      rw [if_neg (by decide), if_neg (by decide), if_pos rfl]
      by_cases g : x.size - i < 4 ∨ b1 < lo ∨ hi' < b1 ∨ b2 < 128 ∨ 191 < b2 ∨ b3 < 128 ∨ 191 < b3
      · rw [if_pos g]
        dsimp only
        split <;> first | rfl | (split <;> first | rfl | omega)
      · rw [if_neg g, if_neg (by omega), if_neg (by omega)]
        exact congrArg validD (hd 4)
def cond3 (c b1 : Nat) : Prop := (c = 224 ∧ b1 < 160) ∨ (c = 237 ∧ 159 < b1) ∨ (c = 240 ∧ b1 < 144) ∨ (c = 244 ∧ 143 < b1)
instance (c b1 : Nat) : Decidable (cond3 c b1) := inferInstanceAs (Decidable (_ ∨ _))
theorem cond_iff (c b1 : Nat) : (cond3 c b1 ∨ ¬ okB b1) ↔ (b1 < lo_ c ∨ hi_ c < b1) := by
  unfold cond3 okB lo_ hi_
  split <;> split <;> (try split) <;> (try split) <;> omega
theorem j3_eq' (k : Nat) (x : ByteArray) (i c n : Nat) (hs : x.size ≤ 100000) (hn : n ≤ 3) (h1 : 1 ≤ n) (hi : i < x.size) :
    counterpaneref1_Utf8.j3 (k + 2) x i c n = if x.size ≤ i + n then some false else if cond3 c (B x i 1) then some false else counterpaneref1_Utf8.l1 k x i n (1 : Nat) := j3_eq k x i c n hs hn h1 hi
theorem utf8_l : ∀ (n : Nat) (x : ByteArray) (i k : Nat), x.size - i ≤ n → i ≤ x.size → x.size ≤ 100000 → 10 * n + 10 ≤ k → counterpaneref1_Utf8.l0 k x (i : Int) = some (validD ((by_ x).drop i)) := by
  intro n
  induction n with
  | zero =>
    intro x i k h1 h2 hs hk
    obtain ⟨k, rfl⟩ : ∃ m, k = m + 1 := ⟨k - 1, by omega⟩
    have hl := by_len x
    rw [counterpaneref1_Utf8.l0, if_neg (by omega), List.drop_eq_nil_of_le (by omega)]
    rfl
  | succ n ih =>
    intro x i k h1 h2 hs hk
    have hl := by_len x
    by_cases hi : i < x.size
    · obtain ⟨k, rfl⟩ : ∃ m, k = m + 9 := ⟨k - 9, by omega⟩
      have hb0 := bt_B0 x i hi
      have hb := B_lt x i 0
      rw [counterpaneref1_Utf8.l0, if_pos (by omega), if_pos (by omega), hb0]
      by_cases c0 : B x i 0 < 128
      · rw [if_pos (by omega)]
        have e1 : wrap64 ((i : Int) + 1) = ((i + 1 : Nat) : Int) := by rw [wr _ (by omega) (by omega)]; omega
        rw [e1, ih x (i + 1) (k + 8) (by omega) (by omega) hs (by omega)]
        have hd : (by_ x).drop i = (by_ x)[i]'(by omega) :: (by_ x).drop (i + 1) := List.drop_eq_getElem_cons (by omega)
        have hb' : ((by_ x)[i]'(by omega)).toNat < 128 := by
          have e : B x i 0 = ((by_ x)[i]'(by omega)).toNat := by unfold B; rw [hd]; rfl
          omega
        rw [hd, validD_cons _ _ hb']
      · rw [if_neg (by omega), lead_at x i hi (by omega)]
        obtain ⟨c, hc⟩ : ∃ c, B x i 0 = c := ⟨_, rfl⟩
        rw [hc] at c0 hb ⊢
        have hci := cond_iff c (B x i 1)
        by_cases d1 : c < 194
        · have ez : sz_ c = 1 := by unfold sz_; rw [if_pos d1]
          rw [if_pos ez, if_neg (by omega), counterpaneref1_Utf8.j1, if_neg (by decide), if_neg (by omega), counterpaneref1_Utf8.j2, if_neg (by decide), if_neg (by omega)]
        · rw [if_pos (by omega)]
          by_cases d2 : c < 224
          · have ez : sz_ c = 2 := by unfold sz_; rw [if_neg d1, if_pos d2]
            have e2 : decide ((c : Int) ≤ 223) = true := decide_eq_true (by omega)
            rw [ez, if_neg (by decide), counterpaneref1_Utf8.j1, e2, if_pos rfl, show k + 7 = (k + 5) + 2 from rfl, show (1 : Int) = ((1 : Nat) : Int) from rfl, j3_eq' (k + 5) x i c 1 hs (by decide) (by decide) hi]
            by_cases g : x.size ≤ i + 1
            · rw [if_pos g, if_pos (by omega)]
            · rw [if_neg g, if_neg (show ¬ x.size < i + 2 by omega), show k + 5 = (k + 3) + 2 from rfl, run_1 (k + 3) x i hs (by omega)]
              by_cases q : B x i 1 < lo_ c ∨ hi_ c < B x i 1
              · rw [if_pos (show B x i 1 < lo_ c ∨ hi_ c < B x i 1 ∨ _ by rcases q with q | q; exact .inl q; exact .inr (.inl q))]
                rcases hci.2 q with q | q
                · rw [if_pos q]
                · rw [if_neg q]; split <;> rfl
              · have q2 : ¬ (cond3 c (B x i 1) ∨ ¬ okB (B x i 1)) := fun h => q (hci.1 h)
                have q3 : ¬ cond3 c (B x i 1) := fun h => q2 (.inl h)
                have q4 : okB (B x i 1) := Decidable.byContradiction fun h => q2 (.inr h)
                rw [if_neg q3, if_pos q4, if_neg (by rintro (h | h | h | h); exact q (.inl h); exact q (.inr h); exact absurd h.1 (by decide); exact absurd h.1 (by decide)), ih x (i + 2) (k + 3) (by omega) (by omega) hs (by omega)]
          · have e2 : decide ((c : Int) ≤ 223) = false := decide_eq_false (by omega)
            rw [counterpaneref1_Utf8.j1, e2, if_neg (by decide), if_pos (by omega)]
            by_cases d3 : c < 240
            · have ez : sz_ c = 3 := by unfold sz_; rw [if_neg d1, if_neg d2, if_pos d3]
              have e3 : decide ((c : Int) ≤ 239) = true := decide_eq_true (by omega)
              rw [ez, if_neg (by decide), counterpaneref1_Utf8.j2, e3, if_pos rfl, show k + 6 = (k + 4) + 2 from rfl, show (2 : Int) = ((2 : Nat) : Int) from rfl, j3_eq' (k + 4) x i c 2 hs (by decide) (by decide) hi]
              by_cases g : x.size ≤ i + 2
              · rw [if_pos g, if_pos (by omega)]
              · rw [if_neg g, if_neg (show ¬ x.size < i + 3 by omega), show k + 4 = (k + 1) + 3 from rfl, run_2 (k + 1) x i hs (by omega)]
                by_cases q : B x i 1 < lo_ c ∨ hi_ c < B x i 1
                · rw [if_pos (show B x i 1 < lo_ c ∨ hi_ c < B x i 1 ∨ _ by rcases q with q | q; exact .inl q; exact .inr (.inl q))]
                  by_cases q5 : cond3 c (B x i 1)
                  · rw [if_pos q5]
                  · rw [if_neg q5, if_neg (fun h => (hci.2 q).elim q5 (fun h2 => h2 h.1))]
                · have q2 : ¬ (cond3 c (B x i 1) ∨ ¬ okB (B x i 1)) := fun h => q (hci.1 h)
                  have q3 : ¬ cond3 c (B x i 1) := fun h => q2 (.inl h)
                  have q4 : okB (B x i 1) := Decidable.byContradiction fun h => q2 (.inr h)
                  rw [if_neg q3]
                  by_cases p2 : okB (B x i 2)
                  · rw [if_pos ⟨q4, p2⟩, if_neg (by rintro (h | h | h | h); exact q (.inl h); exact q (.inr h); exact h.2 p2; exact absurd h.1 (by decide)), ih x (i + 3) (k + 1) (by omega) (by omega) hs (by omega)]
                  · rw [if_neg (fun h => p2 h.2), if_pos (.inr (.inr (.inl ⟨by decide, p2⟩)))]
            · have e3 : decide ((c : Int) ≤ 239) = false := decide_eq_false (by omega)
              rw [counterpaneref1_Utf8.j2, e3, if_neg (by decide), if_pos (by omega)]
              by_cases d4 : c < 245
              · have ez : sz_ c = 4 := by unfold sz_; rw [if_neg d1, if_neg d2, if_neg d3, if_pos d4]
                rw [if_pos (show (c : Int) ≤ 244 by omega), ez, if_neg (show ¬ (4 : Nat) = 1 by decide), show k + 6 = (k + 4) + 2 from rfl, show (3 : Int) = ((3 : Nat) : Int) from rfl, j3_eq' (k + 4) x i c 3 hs (by decide) (by decide) hi]
                by_cases g : x.size ≤ i + 3
                · rw [if_pos g, if_pos (by omega)]
                · rw [if_neg g, if_neg (show ¬ x.size < i + 4 by omega), run_3 k x i hs (by omega)]
                  by_cases q : B x i 1 < lo_ c ∨ hi_ c < B x i 1
                  · rw [if_pos (show B x i 1 < lo_ c ∨ hi_ c < B x i 1 ∨ _ by rcases q with q | q; exact .inl q; exact .inr (.inl q))]
                    by_cases q5 : cond3 c (B x i 1)
                    · rw [if_pos q5]
                    · rw [if_neg q5, if_neg (fun h => (hci.2 q).elim q5 (fun h2 => h2 h.1))]
                  · have q2 : ¬ (cond3 c (B x i 1) ∨ ¬ okB (B x i 1)) := fun h => q (hci.1 h)
                    have q3 : ¬ cond3 c (B x i 1) := fun h => q2 (.inl h)
                    have q4 : okB (B x i 1) := Decidable.byContradiction fun h => q2 (.inr h)
                    rw [if_neg q3]
                    by_cases p2 : okB (B x i 2)
                    · by_cases p3 : okB (B x i 3)
                      · rw [if_pos ⟨q4, p2, p3⟩, if_neg (by rintro (h | h | h | h); exact q (.inl h); exact q (.inr h); exact h.2 p2; exact h.2 p3), ih x (i + 4) k (by omega) (by omega) hs (by omega)]
                      · rw [if_neg (fun h => p3 h.2.2), if_pos (.inr (.inr (.inr ⟨by decide, p3⟩)))]
                    · rw [if_neg (fun h => p2 h.2.1), if_pos (.inr (.inr (.inl ⟨by decide, p2⟩)))]
              · have ez : sz_ c = 1 := by unfold sz_; rw [if_neg d1, if_neg d2, if_neg d3, if_neg d4]
                rw [if_neg (show ¬ (c : Int) ≤ 244 by omega), if_pos ez]
    · obtain ⟨k, rfl⟩ : ∃ m, k = m + 1 := ⟨k - 1, by omega⟩
      rw [counterpaneref1_Utf8.l0, if_neg (by omega), List.drop_eq_nil_of_le (by omega)]
      rfl
theorem utf8_f (x : ByteArray) (hs : x.size ≤ 100000) (k : Nat) (hk : 10 * x.size + 10 ≤ k) : counterpaneref1_Utf8.f k x = some (validD (by_ x)) := by
  unfold counterpaneref1_Utf8.f
  have := utf8_l x.size x 0 k (by omega) (by omega) hs hk
  simpa using this
end Go.Proofs.YtfnbflhoaemmeaaGreatDoor.EVal
end
section
namespace Go.Proofs.YtfnbflhoaemmeaaGreatDoor.EVal
open Go.Lib
set_option linter.unusedSimpArgs false
set_option linter.unusedVariables false
theorem tri : ∀ (x y : List UInt8), (compareBytes x y = -1 ∧ Op.bytesLess x y = true ∧ Op.bytesLess y x = false ∧ x ≠ y) ∨ (compareBytes x y = 0 ∧ Op.bytesLess x y = false ∧ Op.bytesLess y x = false ∧ x = y) ∨ (compareBytes x y = 1 ∧ Op.bytesLess x y = false ∧ Op.bytesLess y x = true ∧ x ≠ y)
  | [], [] => by simp [compareBytes, Op.bytesLess]
  | [], b :: y => by simp [compareBytes, Op.bytesLess]
  | a :: x, [] => by simp [compareBytes, Op.bytesLess]
  | a :: x, b :: y => by
    have ih := tri x y
    simp only [compareBytes, Op.bytesLess]
    by_cases h : a < b
    · have h2 : ¬ b < a := UInt8.lt_asymm h
      have h3 : a ≠ b := UInt8.ne_of_lt h
      simp [h, h2, h3, Ne.symm h3]
    · by_cases h2 : b < a
      · have h3 : b ≠ a := UInt8.ne_of_lt h2
        simp [h, h2, h3, Ne.symm h3]
      · have e : a = b := UInt8.le_antisymm (UInt8.not_lt.1 h2) (UInt8.not_lt.1 h)
        subst e
        simpa [h] using ih
end Go.Proofs.YtfnbflhoaemmeaaGreatDoor.EVal
namespace Go.Proofs.YtfnbflhoaemmeaaGreatDoor.EVal
open Go.RowKit Go.Lib Go.Proofs.YtfnbflhoaemmeaaGreatDoor.Ext Go.Proofs.YtfnbflhoaemmeaaGreatDoor.EFix
set_option linter.unusedVariables false
structure Ord3 {α : Type} (c : α → α → Int) : Prop where
  rng : ∀ a b, c a b = -1 ∨ c a b = 0 ∨ c a b = 1
  anti : ∀ a b, c b a = -c a b
  eq : ∀ a b, c a b = 0 ↔ a = b
  tr : ∀ a b d, c a b = -1 → c b d = -1 → c a d = -1
def lexC {α β : Type} (c : α → α → Int) (d : β → β → Int) (a b : α × β) : Int := if c a.1 b.1 = 0 then d a.2 b.2 else c a.1 b.1
theorem Ord3.lex {α β : Type} {c : α → α → Int} {d : β → β → Int} (hc : Ord3 c) (hd : Ord3 d) : Ord3 (lexC c d) where
  rng := by
    intro a b
    unfold lexC
    split
    · exact hd.rng _ _
    · exact hc.rng _ _
  anti := by
    intro a b
    unfold lexC
    rw [hc.anti a.1 b.1]
    by_cases h : c a.1 b.1 = 0
    · rw [if_pos (by omega), if_pos h]; exact hd.anti _ _
    · rw [if_neg (by omega), if_neg h]
  eq := by
    intro a b
    unfold lexC
    by_cases h : c a.1 b.1 = 0
    · rw [if_pos h, hd.eq]
      have := (hc.eq _ _).1 h
      constructor
      · intro h2; exact Prod.ext this h2
      · intro h2; rw [h2]
    · rw [if_neg h]
      constructor
      · intro h2; exact absurd h2 h
      · intro h2; rw [h2] at h ⊢; exact absurd ((hc.eq _ _).2 rfl) h
  tr := by
    intro a b e h1 h2
    unfold lexC at *
    by_cases p : c a.1 b.1 = 0
    · rw [if_pos p] at h1
      have q := (hc.eq _ _).1 p
      rw [q]
      by_cases r : c b.1 e.1 = 0
      · rw [if_pos r] at h2 ⊢; exact hd.tr _ _ _ h1 h2
      · rw [if_neg r] at h2 ⊢; exact h2
    · rw [if_neg p] at h1
      by_cases r : c b.1 e.1 = 0
      · have q := (hc.eq _ _).1 r
        rw [← q, if_neg p]; exact h1
      · rw [if_neg r] at h2
        have := hc.tr _ _ _ h1 h2
        rw [if_neg (by omega)]; exact this
def cmpI (a b : Int) : Int := if a < b then -1 else if b < a then 1 else 0
theorem cmpI_ord : Ord3 cmpI where
  rng := by intro a b; unfold cmpI; split <;> (try split) <;> simp
  anti := by intro a b; unfold cmpI; split <;> split <;> (try split) <;> omega
  eq := by intro a b; unfold cmpI; split <;> (try split) <;> omega
  tr := by
    intro a b d
    unfold cmpI
    intro h1 h2
    have p : a < b := by revert h1; split; intro; assumption; split <;> intro h <;> omega
    have q : b < d := by revert h2; split; intro; assumption; split <;> intro h <;> omega
    rw [if_pos (by omega)]
theorem less_tr : ∀ (x y z : List UInt8), compareBytes x y = -1 → compareBytes y z = -1 → compareBytes x z = -1
  | [], [], _, h, _ => by simp [compareBytes] at h
  | [], b :: y, [], _, h => by simp [compareBytes] at h
  | [], b :: y, d :: z, _, _ => by simp [compareBytes]
  | a :: x, [], _, h, _ => by simp [compareBytes] at h
  | a :: x, b :: y, [], _, h => by simp [compareBytes] at h
  | a :: x, b :: y, d :: z, h1, h2 => by
    simp only [compareBytes] at h1 h2 ⊢
    have ih := less_tr x y z
    by_cases p : a < b
    · by_cases q : b < d
      · rw [if_pos (UInt8.lt_trans p q)]
      · rw [if_neg q] at h2
        by_cases r : d < b
        · rw [if_pos r] at h2; omega
        · have e : b = d := UInt8.le_antisymm (UInt8.not_lt.1 r) (UInt8.not_lt.1 q)
          subst e; rw [if_pos p]
    · rw [if_neg p] at h1
      by_cases r : b < a
      · rw [if_pos r] at h1; omega
      · have e : a = b := UInt8.le_antisymm (UInt8.not_lt.1 r) (UInt8.not_lt.1 p)
        subst e
        rw [if_neg p] at h1
        by_cases q : a < d
        · rw [if_pos q]
        · rw [if_neg q] at h2 ⊢
          by_cases r2 : d < a
          · rw [if_pos r2] at h2; omega
          · rw [if_neg r2] at h2 ⊢; exact ih h1 h2
theorem cmpB_ord : Ord3 (fun x y : ByteArray => compareBytes (by_ x) (by_ y)) where
  rng := by intro a b; rcases tri (by_ a) (by_ b) with h | h | h <;> simp [h.1]
  anti := by
    intro a b
    rcases tri (by_ a) (by_ b) with h | h | h <;> rcases tri (by_ b) (by_ a) with g | g | g <;> simp_all
  eq := by
    intro a b
    rcases tri (by_ a) (by_ b) with h | h | h
    · simp only [h.1]; exact ⟨fun e => by omega, fun e => absurd (congrArg by_ e) h.2.2.2⟩
    · simp only [h.1]; exact ⟨fun _ => by_inj h.2.2.2, fun _ => trivial⟩
    · simp only [h.1]; exact ⟨fun e => by omega, fun e => absurd (congrArg by_ e) h.2.2.2⟩
  tr := fun a b d => less_tr _ _ _
def tbI (b : Bool) : Int := if b = true then 1 else 0
theorem cmpT_ord : Ord3 (fun x y : Bool => tbI x - tbI y) where
  rng := by decide
  anti := by decide
  eq := by decide
  tr := by decide
abbrev V5 := Int × Int × ByteArray × Bool × Int
def mayS (v : V5) : Bool :=
  (decide (v.1 = 1) || decide (v.2.1 = 0)) && (decide (v.1 = 2) || decide (by_ v.2.2.1 = [])) && (decide (v.1 = 3) || !v.2.2.2.1) && (decide (v.1 = 4) || decide (v.2.2.2.2 = 0)) &&
  (decide (v.1 = 0 ∨ v.1 = 1 ∨ v.1 = 3) || (decide (v.1 = 2) && (decide (v.2.2.1.size ≤ 200) && validD (by_ v.2.2.1))) || (decide (v.1 = 4) && decide (1 ≤ v.2.2.2.2 ∧ v.2.2.2.2 ≤ 7)))
def rankS (v : V5) : Int := if mayS v = true then v.1 else 5
def keyS (v : V5) : Int × Int × ByteArray × Bool × Int := if mayS v = true then v else (5, 0, ByteArray.empty, false, 0)
def cmpV : V5 → V5 → Int := lexC cmpI (lexC cmpI (lexC (fun x y : ByteArray => compareBytes (by_ x) (by_ y)) (lexC (fun x y : Bool => tbI x - tbI y) cmpI)))
theorem cmpV_ord : Ord3 cmpV := cmpI_ord.lex (cmpI_ord.lex (cmpB_ord.lex (cmpT_ord.lex cmpI_ord)))
def cmpS (a b : V5) : Int := cmpV (keyS a) (keyS b)
theorem rank_key (v : V5) : (keyS v).1 = rankS v := by
  unfold keyS rankS
  split <;> rfl
end Go.Proofs.YtfnbflhoaemmeaaGreatDoor.EVal
end
section
namespace Go.Proofs.YtfnbflhoaemmeaaGreatDoor.EVal
open Go.RowKit Go.Proofs.YtfnbflhoaemmeaaGreatDoor.Ext Go.Proofs.YtfnbflhoaemmeaaGreatDoor.EFxA Go.Proofs.YtfnbflhoaemmeaaGreatDoor.EFix Go.Proofs.YtfnbflhoaemmeaaGreatDoorW.PrintWords Go.Proofs.YtfnbflhoaemmeaaGreatDoorW.PrintLast Go.Proofs.YtfnbflhoaemmeaaGreatDoorW.PrintMore
attribute [local go_sem] max2_int min2_int max_two min_two max_three min_three max_four min_four   
set_option linter.unusedVariables false
set_option linter.unusedSimpArgs false
theorem eqA24 (d : Nat) (w : World) (x0 y0 : Int) (x1 y1 : Int) (x2 y2 : ByteArray) (x3 y3 : Bool) (x4 y4 : Int) :
    (Op.equalIn (d + 2) 24 (.agg #[.int .i64 x0, .int .i64 x1, .string x2, .bool x3, .int .i64 x4]) (.agg #[.int .i64 y0, .int .i64 y1, .string y2, .bool y3, .int .i64 y4])).run Tryz.prog w = .ok (x0 == y0 && (x1 == y1 && (x2.toList == y2.toList && (x3 == y3 && (x4 == y4))))) w := by
  refine eqA_of Tryz.underlying24 (by kernel_rfl) ?_
  refine eqf_cons (by rfl) (by go_simp; rfl) (by go_simp; rfl) (by go_simp) ?_
  refine eqf_cons (by rfl) (by go_simp; rfl) (by go_simp; rfl) (by go_simp) ?_
  refine eqf_cons (by rfl) (by go_simp; rfl) (by go_simp; rfl) (by go_simp) ?_
  refine eqf_cons (by rfl) (by go_simp; rfl) (by go_simp; rfl) (by go_simp) ?_
  exact eqf_last (by rfl) (by go_simp; rfl) (by go_simp; rfl) (by go_simp)
end Go.Proofs.YtfnbflhoaemmeaaGreatDoor.EVal
end
