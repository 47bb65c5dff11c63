/- The contract of fixnum.Parse: it returns what the plain function 'fixnum_Parse.f' says. Condition: the library's own variables read as its text lays them ('Lq'); texts below 100,001 bytes. -/
import Derived.Test.YtfnbflhoaemmeaaGreatDoorExt
namespace Go.Proofs.YtfnbflhoaemmeaaGreatDoor.Ext
open Go.Shelf Go.RowKit Go.Sort Go.Lib Go.Proofs.YtfnbflhoaemmeaaGreatDoorW.PrintWords Go.Proofs.YtfnbflhoaemmeaaGreatDoorW.PrintLast Go.Proofs.YtfnbflhoaemmeaaGreatDoorW.PrintMore Go.Proofs.YtfnbflhoaemmeaaGreatDoor.EFxA
attribute [local go_sem] max2_int min2_int max_two min_two max_three min_three max_four min_four
set_option linter.unusedVariables false
set_option linter.unusedSimpArgs false
def isOk : Lib.NumEnd Nat → Option Nat
 | .ok u => some u
 | _ => none
theorem pu_ok (big : ByteArray) (u : Nat) (hs : big.size ≤ 1000000) (h : isOk (Lib.parseUintB 64 big.data.toList) = some u) (w : World) :
  Calls Tryz.prog 69 #[.string big, .int .i64 10, .int .i64 64] w fun e w' => e = .returned (.tuple #[.int .u64 (u : Int), .nilIface]) ∧ Below w.heap.size w w' := by
 rcases hp : Lib.parseUintB 64 big.data.toList with v | _ | _
 ·
  rw [hp] at h
  obtain rfl : v = u := Option.some.inj h
  exact (Tryz.strconv_ParseUint_10_at64_ok big (by omega) v hp w).mono fun e w' ⟨he, hw⟩ => ⟨he, by
   rcases hw with rfl | rfl
   ·exact Below.refl _ _
   ·exact Lib.bytesWorld_below _ _ _⟩
 ·rw [hp] at h; cases h
 ·rw [hp] at h; cases h
theorem pu_no (big : ByteArray) (hs : big.size ≤ 1000000) (h : isOk (Lib.parseUintB 64 big.data.toList) = none) (w : World) (hL : Aside0 (Lq w)) :
  Calls Tryz.prog 69 #[.string big, .int .i64 10, .int .i64 64] w fun e w' => ∃ (V : Int) (M : Nat), e = .returned (.tuple #[.int .u64 V, .iface 138 (.pointer (some ⟨M, 0, none⟩))]) ∧ Below w.heap.size w w' := by
 rcases hp : Lib.parseUintB 64 big.data.toList with v | _ | _
 ·rw [hp] at h; cases h
 ·
  obtain ⟨tp, p, he⟩ := hL.out.e0
  exact (Tryz.strconv_ParseUint_10_at64_syntax big (by omega) hp (.iface tp p) w he (.inr ⟨tp, p, rfl⟩)).mono fun e w' ⟨N, h1, _, _, h2⟩ => ⟨_, N, h1, h2⟩
 ·
  obtain ⟨tp, p, he⟩ := hL.out.e1
  exact (Tryz.strconv_ParseUint_10_at64_range big (by omega) hp (.iface tp p) w he (.inr ⟨tp, p, rfl⟩)).mono fun e w' ⟨N, h1, _, _, h2⟩ => ⟨_, N, h1, h2⟩
theorem rep_calls (c : Nat) (hc : c ≤ 4) (w : World) : Calls Tryz.prog 70 #[.string ⟨#[48]⟩, .int .i64 (c : Int)] w fun e w' => e = .returned (.string ⟨(Lib.repeatL [48] c).toArray⟩) ∧ Below w.heap.size w w' :=
 Tryz.strings_Repeat ⟨#[48]⟩ c w (by omega) (by show 1 * c ≤ _; omega)
theorem rep_size (c : Nat) (hc : c ≤ 4) : (⟨(Lib.repeatL [48] c).toArray⟩ : ByteArray).size ≤ 4 := by
 match c, hc with
 | 0, _ => decide
 | 1, _ => decide
 | 2, _ => decide
 | 3, _ => decide
 | 4, _ => decide
def parseTail (wd part : ByteArray) (neg : Bool) : Option (Int × Bool) :=
 match isOk (Lib.parseUintB 64 (wd ++ part ++ ⟨(Lib.repeatL [48] (4 - part.size)).toArray⟩).data.toList) with
 | some u => fixnum_signed.f 3 (u : Int) neg
 | none => some (0, false)
def fixnum_Parse.f (a0 : ByteArray) : Option (Int × Bool) :=
 if a0.size ≤ 100000 then
  (strings_CutPrefix.f a0 ⟨#[45]⟩).bind fun c => (strings_Cut.f c.1 ⟨#[46]⟩).bind fun d => (fixnum_plain.f (a0.size + 2) d.1).bind fun p =>
   if p = false then some (0, false) else if 1 < d.1.size ∧ bt d.1 0 = 48 then some (0, false) else if 16 < d.1.size then some (0, false)
   else if d.2.2 = true then (fixnum_plain.f (a0.size + 2) d.2.1).bind fun p2 => if p2 = false then some (0, false) else if 4 < d.2.1.size then some (0, false) else parseTail d.1 d.2.1 c.2
   else if d.2.1.size = 0 then parseTail d.1 d.2.1 c.2 else none
 else none
set_option maxHeartbeats 4000000 in
set_option maxRecDepth 100000 in
theorem fixnum_Parse.calls (a0 : ByteArray) (r1 : Int) (r2 : Bool) (w : World) (hL : Aside0 (Lq w)) (h : fixnum_Parse.f a0 = some (r1, r2)) :
  Calls Tryz.prog 45 #[.string a0] w fun e w' => e = .returned (.tuple #[.int .i64 r1, .bool r2]) ∧ Below w.heap.size w w' := by
 have HB := Aside0.mk (Below.refl w.heap.size w)
 unfold fixnum_Parse.f at h
 by_cases h0 : a0.size ≤ 100000
 ·rw [if_pos h0] at h
  have H := Option.bind_eq_some_iff.mp h
  clear h
  obtain ⟨⟨s1, neg⟩, A10, H⟩ := H
  have A1 := Aside0.mk A10
  clear A10
  replace H := Option.bind_eq_some_iff.mp H
  obtain ⟨⟨wd, part, point⟩, A20, H⟩ := H
  have A2 := Aside0.mk A20
  clear A20
  replace H := Option.bind_eq_some_iff.mp H
  obtain ⟨p, A30, H⟩ := H
  have A3 := Aside0.mk A30
  clear A30
  dsimp only at H A3
  by_cases g1 : p = false
  ·subst g1
   rw [if_pos rfl] at H
   simp only [Option.some.injEq, Prod.mk.injEq] at H
   obtain ⟨rfl, rfl⟩ := H
   go_enter Tryz.func45, Tryz.ntmps45
   go_wp2_with (first
    | ((with_reducible refine gate_callee (f := 66) rfl ?_); refine goesL_ (some 12) rfl rfl Tryz.func66 (by kernel_rfl) rfl #[.string a0, .string ⟨#[45]⟩] rfl (by (try simp only [List.map_toArray, List.map_cons, List.map_nil]); first | done | rfl) ?_; (refine (strings_CutPrefix.calls a0 ⟨#[45]⟩ s1 neg _ A1.out).mono ?_); rintro e w1 ⟨rfl, ⟨nd, rfl⟩⟩; refine ⟨_, rfl, ?_⟩)
    | ((with_reducible refine gate_callee (f := 67) rfl ?_); refine goesL_ (some 17) rfl rfl Tryz.func67 (by kernel_rfl) rfl #[.string s1, .string ⟨#[46]⟩] rfl (by (try simp only [List.map_toArray, List.map_cons, List.map_nil]); first | done | rfl) ?_; (refine (strings_Cut.calls s1 ⟨#[46]⟩ wd part _ _ (hL := ⟨hL.out.below (by repeat (first | (with_reducible first | exact HB.out | apply below_alloc | apply pw_below_drewN | apply below_drew1) | exact HB.out))⟩) A2.out).mono ?_); rintro e w1 ⟨rfl, ⟨nd, rfl⟩⟩; refine ⟨_, rfl, ?_⟩)
    | ((with_reducible refine gate_callee (f := 68) rfl ?_); refine goesL_ (some 22) rfl rfl Tryz.func68 (by kernel_rfl) rfl #[.string wd] rfl (by (try simp only [List.map_toArray, List.map_cons, List.map_nil]); first | done | rfl) ?_; (refine (fixnum_plain.calls (a0.size + 2) wd _ _ A3.out).mono ?_); rintro e w1 ⟨rfl, ⟨nd, rfl⟩⟩; refine ⟨_, rfl, ?_⟩))
   go_ret2
   exact ⟨by first | rfl | (simp; done) | (simp [*]; done), (by repeat (first | (with_reducible first | exact HB.out | apply below_alloc | apply pw_below_drewN | apply below_drew1) | exact HB.out))⟩
  ·obtain rfl : p = true := by cases p with | true => rfl | false => exact absurd rfl g1
   rw [if_neg (by decide)] at H
   by_cases g2 : 1 < wd.size ∧ bt wd 0 = 48
   ·rw [if_pos g2] at H
    simp only [Option.some.injEq, Prod.mk.injEq] at H
    obtain ⟨rfl, rfl⟩ := H
    have y1 : decide (1 < (wd.size : Int)) = true := decide_eq_true (by omega)
    have y2 : (0 < wd.size) = True := eq_true (by omega)
    have y2' : (0 < (wd.size : Int)) = True := eq_true (by omega)
    have y4 : ∀ h : 0 < wd.size, ((wd[0]'h).toNat : Int) = 48 := fun h => (bt_at wd 0 h).trans g2.2
    clear g2
    go_enter Tryz.func45, Tryz.ntmps45
    go_wp2_with (first
     | ((with_reducible refine gate_callee (f := 66) rfl ?_); refine goesL_ (some 12) rfl rfl Tryz.func66 (by kernel_rfl) rfl #[.string a0, .string ⟨#[45]⟩] rfl (by (try simp only [List.map_toArray, List.map_cons, List.map_nil]); first | done | rfl) ?_; (refine (strings_CutPrefix.calls a0 ⟨#[45]⟩ s1 neg _ A1.out).mono ?_); rintro e w1 ⟨rfl, ⟨nd, rfl⟩⟩; refine ⟨_, rfl, ?_⟩)
     | ((with_reducible refine gate_callee (f := 67) rfl ?_); refine goesL_ (some 17) rfl rfl Tryz.func67 (by kernel_rfl) rfl #[.string s1, .string ⟨#[46]⟩] rfl (by (try simp only [List.map_toArray, List.map_cons, List.map_nil]); first | done | rfl) ?_; (refine (strings_Cut.calls s1 ⟨#[46]⟩ wd part _ _ (hL := ⟨hL.out.below (by repeat (first | (with_reducible first | exact HB.out | apply below_alloc | apply pw_below_drewN | apply below_drew1) | exact HB.out))⟩) A2.out).mono ?_); rintro e w1 ⟨rfl, ⟨nd, rfl⟩⟩; refine ⟨_, rfl, ?_⟩)
     | ((with_reducible refine gate_callee (f := 68) rfl ?_); refine goesL_ (some 22) rfl rfl Tryz.func68 (by kernel_rfl) rfl #[.string wd] rfl (by (try simp only [List.map_toArray, List.map_cons, List.map_nil]); first | done | rfl) ?_; (refine (fixnum_plain.calls (a0.size + 2) wd _ _ A3.out).mono ?_); rintro e w1 ⟨rfl, ⟨nd, rfl⟩⟩; refine ⟨_, rfl, ?_⟩))
    go_ret2
    exact ⟨by first | rfl | (simp; done) | (simp [*]; done), (by repeat (first | (with_reducible first | exact HB.out | apply below_alloc | apply pw_below_drewN | apply below_drew1) | exact HB.out))⟩
   ·rw [if_neg g2] at H
    have hk : 1 < wd.size → (bt wd 0 == 48) = false := fun h => beq_eq_false_iff_ne.mpr (fun e => g2 ⟨h, e⟩)
    by_cases g3 : 16 < wd.size
    ·rw [if_pos g3] at H
     simp only [Option.some.injEq, Prod.mk.injEq] at H
     obtain ⟨rfl, rfl⟩ := H
     have y1 : decide (1 < (wd.size : Int)) = true := decide_eq_true (by omega)
     have y2 : (0 < wd.size) = True := eq_true (by omega)
     have y2' : (0 < (wd.size : Int)) = True := eq_true (by omega)
     have y3 := hk (by omega)
     have y4 : ∀ h : 0 < wd.size, ((wd[0]'h).toNat : Int) = bt wd 0 := fun h => bt_at wd 0 h
     have y5 : decide (16 < (wd.size : Int)) = true := decide_eq_true (by omega)
     clear g2 g3 hk
     go_enter Tryz.func45, Tryz.ntmps45
     go_wp2_with (first
      | ((with_reducible refine gate_callee (f := 66) rfl ?_); refine goesL_ (some 12) rfl rfl Tryz.func66 (by kernel_rfl) rfl #[.string a0, .string ⟨#[45]⟩] rfl (by (try simp only [List.map_toArray, List.map_cons, List.map_nil]); first | done | rfl) ?_; (refine (strings_CutPrefix.calls a0 ⟨#[45]⟩ s1 neg _ A1.out).mono ?_); rintro e w1 ⟨rfl, ⟨nd, rfl⟩⟩; refine ⟨_, rfl, ?_⟩)
      | ((with_reducible refine gate_callee (f := 67) rfl ?_); refine goesL_ (some 17) rfl rfl Tryz.func67 (by kernel_rfl) rfl #[.string s1, .string ⟨#[46]⟩] rfl (by (try simp only [List.map_toArray, List.map_cons, List.map_nil]); first | done | rfl) ?_; (refine (strings_Cut.calls s1 ⟨#[46]⟩ wd part _ _ (hL := ⟨hL.out.below (by repeat (first | (with_reducible first | exact HB.out | apply below_alloc | apply pw_below_drewN | apply below_drew1) | exact HB.out))⟩) A2.out).mono ?_); rintro e w1 ⟨rfl, ⟨nd, rfl⟩⟩; refine ⟨_, rfl, ?_⟩)
      | ((with_reducible refine gate_callee (f := 68) rfl ?_); refine goesL_ (some 22) rfl rfl Tryz.func68 (by kernel_rfl) rfl #[.string wd] rfl (by (try simp only [List.map_toArray, List.map_cons, List.map_nil]); first | done | rfl) ?_; (refine (fixnum_plain.calls (a0.size + 2) wd _ _ A3.out).mono ?_); rintro e w1 ⟨rfl, ⟨nd, rfl⟩⟩; refine ⟨_, rfl, ?_⟩))
     go_ret2
     exact ⟨by first | rfl | (simp; done) | (simp [*]; done), (by repeat (first | (with_reducible first | exact HB.out | apply below_alloc | apply pw_below_drewN | apply below_drew1) | exact HB.out))⟩
    ·rw [if_neg g3] at H
     have y5 : decide (16 < (wd.size : Int)) = false := decide_eq_false (by omega)
     by_cases g4 : 1 < wd.size
     ·have y1 : decide (1 < (wd.size : Int)) = true := decide_eq_true (by omega)
      have y2 : (0 < wd.size) = True := eq_true (by omega)
      have y2' : (0 < (wd.size : Int)) = True := eq_true (by omega)
      have y3 := hk (by omega)
      have y4 : ∀ h : 0 < wd.size, ((wd[0]'h).toNat : Int) = bt wd 0 := fun h => bt_at wd 0 h
      clear g2 hk
      cases point with
      | true =>
       rw [if_pos rfl] at H
       replace H := Option.bind_eq_some_iff.mp H
       obtain ⟨p2, A40, H⟩ := H
       have A4 := Aside0.mk A40
       clear A40
       by_cases g5 : p2 = false
       ·subst g5
        rw [if_pos rfl] at H
        simp only [Option.some.injEq, Prod.mk.injEq] at H
        obtain ⟨rfl, rfl⟩ := H
        go_enter Tryz.func45, Tryz.ntmps45
        go_wp2_with (first
         | ((with_reducible refine gate_callee (f := 66) rfl ?_); refine goesL_ (some 12) rfl rfl Tryz.func66 (by kernel_rfl) rfl #[.string a0, .string ⟨#[45]⟩] rfl (by (try simp only [List.map_toArray, List.map_cons, List.map_nil]); first | done | rfl) ?_; (refine (strings_CutPrefix.calls a0 ⟨#[45]⟩ s1 neg _ A1.out).mono ?_); rintro e w1 ⟨rfl, ⟨nd, rfl⟩⟩; refine ⟨_, rfl, ?_⟩)
         | ((with_reducible refine gate_callee (f := 67) rfl ?_); refine goesL_ (some 17) rfl rfl Tryz.func67 (by kernel_rfl) rfl #[.string s1, .string ⟨#[46]⟩] rfl (by (try simp only [List.map_toArray, List.map_cons, List.map_nil]); first | done | rfl) ?_; (refine (strings_Cut.calls s1 ⟨#[46]⟩ wd part _ _ (hL := ⟨hL.out.below (by repeat (first | (with_reducible first | exact HB.out | apply below_alloc | apply pw_below_drewN | apply below_drew1) | exact HB.out))⟩) A2.out).mono ?_); rintro e w1 ⟨rfl, ⟨nd, rfl⟩⟩; refine ⟨_, rfl, ?_⟩)
         | ((with_reducible refine gate_callee (f := 68) rfl ?_); refine goesL_ (some 22) rfl rfl Tryz.func68 (by kernel_rfl) rfl #[.string wd] rfl (by (try simp only [List.map_toArray, List.map_cons, List.map_nil]); first | done | rfl) ?_; (refine (fixnum_plain.calls (a0.size + 2) wd _ _ A3.out).mono ?_); rintro e w1 ⟨rfl, ⟨nd, rfl⟩⟩; refine ⟨_, rfl, ?_⟩)
         | ((with_reducible refine gate_callee (f := 68) rfl ?_); (try (refine gate_guard (by rfl) ?_; dsimp only)); refine goesL_ (some 43) rfl rfl Tryz.func68 (by kernel_rfl) rfl #[.string part] rfl (by (try simp only [List.map_toArray, List.map_cons, List.map_nil]); first | done | rfl) ?_; (refine (fixnum_plain.calls (a0.size + 2) part _ _ A4.out).mono ?_); rintro e w1 ⟨rfl, ⟨nd, rfl⟩⟩; refine ⟨_, rfl, ?_⟩))
        go_ret2
        exact ⟨by first | rfl | (simp; done) | (simp [*]; done), (by repeat (first | (with_reducible first | exact HB.out | apply below_alloc | apply pw_below_drewN | apply below_drew1) | exact HB.out))⟩
       ·obtain rfl : p2 = true := by cases p2 with | true => rfl | false => exact absurd rfl g5
        rw [if_neg (by decide)] at H
        by_cases g6 : 4 < part.size
        ·rw [if_pos g6] at H
         simp only [Option.some.injEq, Prod.mk.injEq] at H
         obtain ⟨rfl, rfl⟩ := H
         have y6 : decide (4 < (part.size : Int)) = true := decide_eq_true (by omega)
         go_enter Tryz.func45, Tryz.ntmps45
         go_wp2_with (first
          | ((with_reducible refine gate_callee (f := 66) rfl ?_); refine goesL_ (some 12) rfl rfl Tryz.func66 (by kernel_rfl) rfl #[.string a0, .string ⟨#[45]⟩] rfl (by (try simp only [List.map_toArray, List.map_cons, List.map_nil]); first | done | rfl) ?_; (refine (strings_CutPrefix.calls a0 ⟨#[45]⟩ s1 neg _ A1.out).mono ?_); rintro e w1 ⟨rfl, ⟨nd, rfl⟩⟩; refine ⟨_, rfl, ?_⟩)
          | ((with_reducible refine gate_callee (f := 67) rfl ?_); refine goesL_ (some 17) rfl rfl Tryz.func67 (by kernel_rfl) rfl #[.string s1, .string ⟨#[46]⟩] rfl (by (try simp only [List.map_toArray, List.map_cons, List.map_nil]); first | done | rfl) ?_; (refine (strings_Cut.calls s1 ⟨#[46]⟩ wd part _ _ (hL := ⟨hL.out.below (by repeat (first | (with_reducible first | exact HB.out | apply below_alloc | apply pw_below_drewN | apply below_drew1) | exact HB.out))⟩) A2.out).mono ?_); rintro e w1 ⟨rfl, ⟨nd, rfl⟩⟩; refine ⟨_, rfl, ?_⟩)
          | ((with_reducible refine gate_callee (f := 68) rfl ?_); refine goesL_ (some 22) rfl rfl Tryz.func68 (by kernel_rfl) rfl #[.string wd] rfl (by (try simp only [List.map_toArray, List.map_cons, List.map_nil]); first | done | rfl) ?_; (refine (fixnum_plain.calls (a0.size + 2) wd _ _ A3.out).mono ?_); rintro e w1 ⟨rfl, ⟨nd, rfl⟩⟩; refine ⟨_, rfl, ?_⟩)
          | ((with_reducible refine gate_callee (f := 68) rfl ?_); (try (refine gate_guard (by rfl) ?_; dsimp only)); refine goesL_ (some 43) rfl rfl Tryz.func68 (by kernel_rfl) rfl #[.string part] rfl (by (try simp only [List.map_toArray, List.map_cons, List.map_nil]); first | done | rfl) ?_; (refine (fixnum_plain.calls (a0.size + 2) part _ _ A4.out).mono ?_); rintro e w1 ⟨rfl, ⟨nd, rfl⟩⟩; refine ⟨_, rfl, ?_⟩))
         go_ret2
         exact ⟨by first | rfl | (simp; done) | (simp [*]; done), (by repeat (first | (with_reducible first | exact HB.out | apply below_alloc | apply pw_below_drewN | apply below_drew1) | exact HB.out))⟩
        ·rw [if_neg g6] at H
         have y6 : decide (4 < (part.size : Int)) = false := decide_eq_false (by omega)
         unfold parseTail at H
         obtain ⟨c, hcc⟩ : ∃ c, 4 - part.size = c := ⟨_, rfl⟩
         rw [hcc] at H
         have hc : (4 : Int) - (part.size : Int) = (c : Int) := by omega
         have hrep := fun w => rep_calls c (by omega) w
         obtain ⟨rp, hrp, hrz⟩ : ∃ rp : ByteArray, (⟨(Lib.repeatL [48] c).toArray⟩ : ByteArray) = rp ∧ rp.size ≤ 4 := ⟨_, rfl, rep_size c (by omega)⟩
         rw [hrp] at H hrep
         obtain ⟨big, hbig⟩ : ∃ big : ByteArray, wd ++ part ++ rp = big := ⟨_, rfl⟩
         have hbs : big.size ≤ 1000000 := by rw [← hbig, ByteArray.size_append, ByteArray.size_append]; omega
         have z1 : (9223372036854775807 < wd.size + part.size) = False := eq_false (by omega)
         have z2 : (9223372036854775807 < wd.size + part.size + rp.size) = False := eq_false (by omega)
         have z3 : (9223372036854775807 < (wd ++ part).size + rp.size) = False := eq_false (by rw [ByteArray.size_append]; omega)
         rw [hbig] at H
         clear g6
         cases hpu : isOk (Lib.parseUintB 64 big.data.toList) with
         | some u =>
          rw [hpu] at H
          have A5 := Aside0.mk H
          clear H
          go_enter Tryz.func45, Tryz.ntmps45
          go_wp2_with (first
           | ((with_reducible refine gate_callee (f := 66) rfl ?_); refine goesL_ (some 12) rfl rfl Tryz.func66 (by kernel_rfl) rfl #[.string a0, .string ⟨#[45]⟩] rfl (by (try simp only [List.map_toArray, List.map_cons, List.map_nil]); first | done | rfl) ?_; (refine (strings_CutPrefix.calls a0 ⟨#[45]⟩ s1 neg _ A1.out).mono ?_); rintro e w1 ⟨rfl, ⟨nd, rfl⟩⟩; refine ⟨_, rfl, ?_⟩)
           | ((with_reducible refine gate_callee (f := 67) rfl ?_); refine goesL_ (some 17) rfl rfl Tryz.func67 (by kernel_rfl) rfl #[.string s1, .string ⟨#[46]⟩] rfl (by (try simp only [List.map_toArray, List.map_cons, List.map_nil]); first | done | rfl) ?_; (refine (strings_Cut.calls s1 ⟨#[46]⟩ wd part _ _ (hL := ⟨hL.out.below (by repeat (first | (with_reducible first | exact HB.out | apply below_alloc | apply pw_below_drewN | apply below_drew1) | exact HB.out))⟩) A2.out).mono ?_); rintro e w1 ⟨rfl, ⟨nd, rfl⟩⟩; refine ⟨_, rfl, ?_⟩)
           | ((with_reducible refine gate_callee (f := 68) rfl ?_); refine goesL_ (some 22) rfl rfl Tryz.func68 (by kernel_rfl) rfl #[.string wd] rfl (by (try simp only [List.map_toArray, List.map_cons, List.map_nil]); first | done | rfl) ?_; (refine (fixnum_plain.calls (a0.size + 2) wd _ _ A3.out).mono ?_); rintro e w1 ⟨rfl, ⟨nd, rfl⟩⟩; refine ⟨_, rfl, ?_⟩)
           | ((with_reducible refine gate_callee (f := 68) rfl ?_); (try (refine gate_guard (by rfl) ?_; dsimp only)); refine goesL_ (some 43) rfl rfl Tryz.func68 (by kernel_rfl) rfl #[.string part] rfl (by (try simp only [List.map_toArray, List.map_cons, List.map_nil]); first | done | rfl) ?_; (refine (fixnum_plain.calls (a0.size + 2) part _ _ A4.out).mono ?_); rintro e w1 ⟨rfl, ⟨nd, rfl⟩⟩; refine ⟨_, rfl, ?_⟩)
           | ((with_reducible refine gate_callee (f := 70) rfl ?_); refine goesL_ (some 59) rfl rfl Tryz.func70 (by kernel_rfl) rfl #[.string ⟨#[48]⟩, .int .i64 (c : Int)] rfl (by (try simp only [List.map_toArray, List.map_cons, List.map_nil]); first | done | rfl) ?_; (refine (hrep _).mono ?_); rintro e w2 ⟨rfl, hb⟩; refine ⟨_, rfl, ?_⟩; have n1_ := Aside0.mk (below_step (by repeat (first | (with_reducible first | exact HB.out | apply below_alloc | apply pw_below_drewN | apply below_drew1) | exact HB.out)) hb); clear HB; have HB := n1_; clear n1_; clear hb)
           | ((with_reducible refine gate_callee (f := 69) rfl ?_); refine goesL_ (some 61) rfl rfl Tryz.func69 (by kernel_rfl) rfl #[.string big, .int .i64 10, .int .i64 64] rfl (by (try simp only [List.map_toArray, List.map_cons, List.map_nil]); first | done | rfl) ?_; (refine (pu_ok big u hbs hpu _).mono ?_); rintro e w3 ⟨rfl, hb⟩; refine ⟨_, rfl, ?_⟩; have n1_ := Aside0.mk (below_step (by repeat (first | (with_reducible first | exact HB.out | apply below_alloc | apply pw_below_drewN | apply below_drew1) | exact HB.out)) hb); clear HB; have HB := n1_; clear n1_; clear hb)
           | ((with_reducible refine gate_callee (f := 71) rfl ?_); refine goesL_ (some 68) rfl rfl Tryz.func71 (by kernel_rfl) rfl #[.int .u64 (u : Int), .bool neg] rfl (by (try simp only [List.map_toArray, List.map_cons, List.map_nil]); first | done | rfl) ?_; (refine (fixnum_signed.calls 3 (u : Int) neg _ _ _ A5.out).mono ?_); rintro e w1 ⟨rfl, ⟨nd, rfl⟩⟩; refine ⟨_, rfl, ?_⟩))
          go_ret2
          exact ⟨by first | rfl | (simp; done) | (simp [*]; done), (by repeat (first | (with_reducible first | exact HB.out | apply below_alloc | apply pw_below_drewN | apply below_drew1) | exact HB.out))⟩
         | none =>
          rw [hpu] at H
          simp only [Option.some.injEq, Prod.mk.injEq] at H
          obtain ⟨rfl, rfl⟩ := H
          go_enter Tryz.func45, Tryz.ntmps45
          go_wp2_with (first
           | ((with_reducible refine gate_callee (f := 66) rfl ?_); refine goesL_ (some 12) rfl rfl Tryz.func66 (by kernel_rfl) rfl #[.string a0, .string ⟨#[45]⟩] rfl (by (try simp only [List.map_toArray, List.map_cons, List.map_nil]); first | done | rfl) ?_; (refine (strings_CutPrefix.calls a0 ⟨#[45]⟩ s1 neg _ A1.out).mono ?_); rintro e w1 ⟨rfl, ⟨nd, rfl⟩⟩; refine ⟨_, rfl, ?_⟩)
           | ((with_reducible refine gate_callee (f := 67) rfl ?_); refine goesL_ (some 17) rfl rfl Tryz.func67 (by kernel_rfl) rfl #[.string s1, .string ⟨#[46]⟩] rfl (by (try simp only [List.map_toArray, List.map_cons, List.map_nil]); first | done | rfl) ?_; (refine (strings_Cut.calls s1 ⟨#[46]⟩ wd part _ _ (hL := ⟨hL.out.below (by repeat (first | (with_reducible first | exact HB.out | apply below_alloc | apply pw_below_drewN | apply below_drew1) | exact HB.out))⟩) A2.out).mono ?_); rintro e w1 ⟨rfl, ⟨nd, rfl⟩⟩; refine ⟨_, rfl, ?_⟩)
           | ((with_reducible refine gate_callee (f := 68) rfl ?_); refine goesL_ (some 22) rfl rfl Tryz.func68 (by kernel_rfl) rfl #[.string wd] rfl (by (try simp only [List.map_toArray, List.map_cons, List.map_nil]); first | done | rfl) ?_; (refine (fixnum_plain.calls (a0.size + 2) wd _ _ A3.out).mono ?_); rintro e w1 ⟨rfl, ⟨nd, rfl⟩⟩; refine ⟨_, rfl, ?_⟩)
           | ((with_reducible refine gate_callee (f := 68) rfl ?_); (try (refine gate_guard (by rfl) ?_; dsimp only)); refine goesL_ (some 43) rfl rfl Tryz.func68 (by kernel_rfl) rfl #[.string part] rfl (by (try simp only [List.map_toArray, List.map_cons, List.map_nil]); first | done | rfl) ?_; (refine (fixnum_plain.calls (a0.size + 2) part _ _ A4.out).mono ?_); rintro e w1 ⟨rfl, ⟨nd, rfl⟩⟩; refine ⟨_, rfl, ?_⟩)
           | ((with_reducible refine gate_callee (f := 70) rfl ?_); refine goesL_ (some 59) rfl rfl Tryz.func70 (by kernel_rfl) rfl #[.string ⟨#[48]⟩, .int .i64 (c : Int)] rfl (by (try simp only [List.map_toArray, List.map_cons, List.map_nil]); first | done | rfl) ?_; (refine (hrep _).mono ?_); rintro e w2 ⟨rfl, hb⟩; refine ⟨_, rfl, ?_⟩; have n1_ := Aside0.mk (below_step (by repeat (first | (with_reducible first | exact HB.out | apply below_alloc | apply pw_below_drewN | apply below_drew1) | exact HB.out)) hb); clear HB; have HB := n1_; clear n1_; clear hb)
           | ((with_reducible refine gate_callee (f := 69) rfl ?_); refine goesL_ (some 61) rfl rfl Tryz.func69 (by kernel_rfl) rfl #[.string big, .int .i64 10, .int .i64 64] rfl (by (try simp only [List.map_toArray, List.map_cons, List.map_nil]); first | done | rfl) ?_; (refine (pu_no big hbs hpu _ (⟨hL.out.below (by repeat (first | (with_reducible first | exact HB.out | apply below_alloc | apply pw_below_drewN | apply below_drew1) | exact HB.out))⟩)).mono ?_); rintro e w3 ⟨V, M, rfl, hb⟩; refine ⟨_, rfl, ?_⟩; have n1_ := Aside0.mk (below_step (by repeat (first | (with_reducible first | exact HB.out | apply below_alloc | apply pw_below_drewN | apply below_drew1) | exact HB.out)) hb); clear HB; have HB := n1_; clear n1_; clear hb))
          go_ret2
          exact ⟨by first | rfl | (simp; done) | (simp [*]; done), (by repeat (first | (with_reducible first | exact HB.out | apply below_alloc | apply pw_below_drewN | apply below_drew1) | exact HB.out))⟩
      | false =>
       rw [if_neg (by decide)] at H
       by_cases g6 : part.size = 0
       ·rw [if_pos g6] at H
        unfold parseTail at H
        obtain ⟨c, hcc⟩ : ∃ c, 4 - part.size = c := ⟨_, rfl⟩
        rw [hcc] at H
        have hc : (4 : Int) - (part.size : Int) = (c : Int) := by omega
        have hrep := fun w => rep_calls c (by omega) w
        obtain ⟨rp, hrp, hrz⟩ : ∃ rp : ByteArray, (⟨(Lib.repeatL [48] c).toArray⟩ : ByteArray) = rp ∧ rp.size ≤ 4 := ⟨_, rfl, rep_size c (by omega)⟩
        rw [hrp] at H hrep
        obtain ⟨big, hbig⟩ : ∃ big : ByteArray, wd ++ part ++ rp = big := ⟨_, rfl⟩
        have hbs : big.size ≤ 1000000 := by rw [← hbig, ByteArray.size_append, ByteArray.size_append]; omega
        have z1 : (9223372036854775807 < wd.size + part.size) = False := eq_false (by omega)
        have z2 : (9223372036854775807 < wd.size + part.size + rp.size) = False := eq_false (by omega)
        have z3 : (9223372036854775807 < (wd ++ part).size + rp.size) = False := eq_false (by rw [ByteArray.size_append]; omega)
        rw [hbig] at H
        clear g6
        cases hpu : isOk (Lib.parseUintB 64 big.data.toList) with
        | some u =>
         rw [hpu] at H
         have A5 := Aside0.mk H
         clear H
         go_enter Tryz.func45, Tryz.ntmps45
         go_wp2_with (first
          | ((with_reducible refine gate_callee (f := 66) rfl ?_); refine goesL_ (some 12) rfl rfl Tryz.func66 (by kernel_rfl) rfl #[.string a0, .string ⟨#[45]⟩] rfl (by (try simp only [List.map_toArray, List.map_cons, List.map_nil]); first | done | rfl) ?_; (refine (strings_CutPrefix.calls a0 ⟨#[45]⟩ s1 neg _ A1.out).mono ?_); rintro e w1 ⟨rfl, ⟨nd, rfl⟩⟩; refine ⟨_, rfl, ?_⟩)
          | ((with_reducible refine gate_callee (f := 67) rfl ?_); refine goesL_ (some 17) rfl rfl Tryz.func67 (by kernel_rfl) rfl #[.string s1, .string ⟨#[46]⟩] rfl (by (try simp only [List.map_toArray, List.map_cons, List.map_nil]); first | done | rfl) ?_; (refine (strings_Cut.calls s1 ⟨#[46]⟩ wd part _ _ (hL := ⟨hL.out.below (by repeat (first | (with_reducible first | exact HB.out | apply below_alloc | apply pw_below_drewN | apply below_drew1) | exact HB.out))⟩) A2.out).mono ?_); rintro e w1 ⟨rfl, ⟨nd, rfl⟩⟩; refine ⟨_, rfl, ?_⟩)
          | ((with_reducible refine gate_callee (f := 68) rfl ?_); refine goesL_ (some 22) rfl rfl Tryz.func68 (by kernel_rfl) rfl #[.string wd] rfl (by (try simp only [List.map_toArray, List.map_cons, List.map_nil]); first | done | rfl) ?_; (refine (fixnum_plain.calls (a0.size + 2) wd _ _ A3.out).mono ?_); rintro e w1 ⟨rfl, ⟨nd, rfl⟩⟩; refine ⟨_, rfl, ?_⟩)
          | ((with_reducible refine gate_callee (f := 70) rfl ?_); refine goesL_ (some 59) rfl rfl Tryz.func70 (by kernel_rfl) rfl #[.string ⟨#[48]⟩, .int .i64 (c : Int)] rfl (by (try simp only [List.map_toArray, List.map_cons, List.map_nil]); first | done | rfl) ?_; (refine (hrep _).mono ?_); rintro e w2 ⟨rfl, hb⟩; refine ⟨_, rfl, ?_⟩; have n1_ := Aside0.mk (below_step (by repeat (first | (with_reducible first | exact HB.out | apply below_alloc | apply pw_below_drewN | apply below_drew1) | exact HB.out)) hb); clear HB; have HB := n1_; clear n1_; clear hb)
          | ((with_reducible refine gate_callee (f := 69) rfl ?_); refine goesL_ (some 61) rfl rfl Tryz.func69 (by kernel_rfl) rfl #[.string big, .int .i64 10, .int .i64 64] rfl (by (try simp only [List.map_toArray, List.map_cons, List.map_nil]); first | done | rfl) ?_; (refine (pu_ok big u hbs hpu _).mono ?_); rintro e w3 ⟨rfl, hb⟩; refine ⟨_, rfl, ?_⟩; have n1_ := Aside0.mk (below_step (by repeat (first | (with_reducible first | exact HB.out | apply below_alloc | apply pw_below_drewN | apply below_drew1) | exact HB.out)) hb); clear HB; have HB := n1_; clear n1_; clear hb)
          | ((with_reducible refine gate_callee (f := 71) rfl ?_); refine goesL_ (some 68) rfl rfl Tryz.func71 (by kernel_rfl) rfl #[.int .u64 (u : Int), .bool neg] rfl (by (try simp only [List.map_toArray, List.map_cons, List.map_nil]); first | done | rfl) ?_; (refine (fixnum_signed.calls 3 (u : Int) neg _ _ _ A5.out).mono ?_); rintro e w1 ⟨rfl, ⟨nd, rfl⟩⟩; refine ⟨_, rfl, ?_⟩))
         go_ret2
         exact ⟨by first | rfl | (simp; done) | (simp [*]; done), (by repeat (first | (with_reducible first | exact HB.out | apply below_alloc | apply pw_below_drewN | apply below_drew1) | exact HB.out))⟩
        | none =>
         rw [hpu] at H
         simp only [Option.some.injEq, Prod.mk.injEq] at H
         obtain ⟨rfl, rfl⟩ := H
         go_enter Tryz.func45, Tryz.ntmps45
         go_wp2_with (first
          | ((with_reducible refine gate_callee (f := 66) rfl ?_); refine goesL_ (some 12) rfl rfl Tryz.func66 (by kernel_rfl) rfl #[.string a0, .string ⟨#[45]⟩] rfl (by (try simp only [List.map_toArray, List.map_cons, List.map_nil]); first | done | rfl) ?_; (refine (strings_CutPrefix.calls a0 ⟨#[45]⟩ s1 neg _ A1.out).mono ?_); rintro e w1 ⟨rfl, ⟨nd, rfl⟩⟩; refine ⟨_, rfl, ?_⟩)
          | ((with_reducible refine gate_callee (f := 67) rfl ?_); refine goesL_ (some 17) rfl rfl Tryz.func67 (by kernel_rfl) rfl #[.string s1, .string ⟨#[46]⟩] rfl (by (try simp only [List.map_toArray, List.map_cons, List.map_nil]); first | done | rfl) ?_; (refine (strings_Cut.calls s1 ⟨#[46]⟩ wd part _ _ (hL := ⟨hL.out.below (by repeat (first | (with_reducible first | exact HB.out | apply below_alloc | apply pw_below_drewN | apply below_drew1) | exact HB.out))⟩) A2.out).mono ?_); rintro e w1 ⟨rfl, ⟨nd, rfl⟩⟩; refine ⟨_, rfl, ?_⟩)
          | ((with_reducible refine gate_callee (f := 68) rfl ?_); refine goesL_ (some 22) rfl rfl Tryz.func68 (by kernel_rfl) rfl #[.string wd] rfl (by (try simp only [List.map_toArray, List.map_cons, List.map_nil]); first | done | rfl) ?_; (refine (fixnum_plain.calls (a0.size + 2) wd _ _ A3.out).mono ?_); rintro e w1 ⟨rfl, ⟨nd, rfl⟩⟩; refine ⟨_, rfl, ?_⟩)
          | ((with_reducible refine gate_callee (f := 70) rfl ?_); refine goesL_ (some 59) rfl rfl Tryz.func70 (by kernel_rfl) rfl #[.string ⟨#[48]⟩, .int .i64 (c : Int)] rfl (by (try simp only [List.map_toArray, List.map_cons, List.map_nil]); first | done | rfl) ?_; (refine (hrep _).mono ?_); rintro e w2 ⟨rfl, hb⟩; refine ⟨_, rfl, ?_⟩; have n1_ := Aside0.mk (below_step (by repeat (first | (with_reducible first | exact HB.out | apply below_alloc | apply pw_below_drewN | apply below_drew1) | exact HB.out)) hb); clear HB; have HB := n1_; clear n1_; clear hb)
          | ((with_reducible refine gate_callee (f := 69) rfl ?_); refine goesL_ (some 61) rfl rfl Tryz.func69 (by kernel_rfl) rfl #[.string big, .int .i64 10, .int .i64 64] rfl (by (try simp only [List.map_toArray, List.map_cons, List.map_nil]); first | done | rfl) ?_; (refine (pu_no big hbs hpu _ (⟨hL.out.below (by repeat (first | (with_reducible first | exact HB.out | apply below_alloc | apply pw_below_drewN | apply below_drew1) | exact HB.out))⟩)).mono ?_); rintro e w3 ⟨V, M, rfl, hb⟩; refine ⟨_, rfl, ?_⟩; have n1_ := Aside0.mk (below_step (by repeat (first | (with_reducible first | exact HB.out | apply below_alloc | apply pw_below_drewN | apply below_drew1) | exact HB.out)) hb); clear HB; have HB := n1_; clear n1_; clear hb))
         go_ret2
         exact ⟨by first | rfl | (simp; done) | (simp [*]; done), (by repeat (first | (with_reducible first | exact HB.out | apply below_alloc | apply pw_below_drewN | apply below_drew1) | exact HB.out))⟩
       ·rw [if_neg g6] at H; cases H
     ·have y1 : decide (1 < (wd.size : Int)) = false := decide_eq_false (by omega)
      clear g2 hk
      cases point with
      | true =>
       rw [if_pos rfl] at H
       replace H := Option.bind_eq_some_iff.mp H
       obtain ⟨p2, A40, H⟩ := H
       have A4 := Aside0.mk A40
       clear A40
       by_cases g5 : p2 = false
       ·subst g5
        rw [if_pos rfl] at H
        simp only [Option.some.injEq, Prod.mk.injEq] at H
        obtain ⟨rfl, rfl⟩ := H
        go_enter Tryz.func45, Tryz.ntmps45
        go_wp2_with (first
         | ((with_reducible refine gate_callee (f := 66) rfl ?_); refine goesL_ (some 12) rfl rfl Tryz.func66 (by kernel_rfl) rfl #[.string a0, .string ⟨#[45]⟩] rfl (by (try simp only [List.map_toArray, List.map_cons, List.map_nil]); first | done | rfl) ?_; (refine (strings_CutPrefix.calls a0 ⟨#[45]⟩ s1 neg _ A1.out).mono ?_); rintro e w1 ⟨rfl, ⟨nd, rfl⟩⟩; refine ⟨_, rfl, ?_⟩)
         | ((with_reducible refine gate_callee (f := 67) rfl ?_); refine goesL_ (some 17) rfl rfl Tryz.func67 (by kernel_rfl) rfl #[.string s1, .string ⟨#[46]⟩] rfl (by (try simp only [List.map_toArray, List.map_cons, List.map_nil]); first | done | rfl) ?_; (refine (strings_Cut.calls s1 ⟨#[46]⟩ wd part _ _ (hL := ⟨hL.out.below (by repeat (first | (with_reducible first | exact HB.out | apply below_alloc | apply pw_below_drewN | apply below_drew1) | exact HB.out))⟩) A2.out).mono ?_); rintro e w1 ⟨rfl, ⟨nd, rfl⟩⟩; refine ⟨_, rfl, ?_⟩)
         | ((with_reducible refine gate_callee (f := 68) rfl ?_); refine goesL_ (some 22) rfl rfl Tryz.func68 (by kernel_rfl) rfl #[.string wd] rfl (by (try simp only [List.map_toArray, List.map_cons, List.map_nil]); first | done | rfl) ?_; (refine (fixnum_plain.calls (a0.size + 2) wd _ _ A3.out).mono ?_); rintro e w1 ⟨rfl, ⟨nd, rfl⟩⟩; refine ⟨_, rfl, ?_⟩)
         | ((with_reducible refine gate_callee (f := 68) rfl ?_); (try (refine gate_guard (by rfl) ?_; dsimp only)); refine goesL_ (some 43) rfl rfl Tryz.func68 (by kernel_rfl) rfl #[.string part] rfl (by (try simp only [List.map_toArray, List.map_cons, List.map_nil]); first | done | rfl) ?_; (refine (fixnum_plain.calls (a0.size + 2) part _ _ A4.out).mono ?_); rintro e w1 ⟨rfl, ⟨nd, rfl⟩⟩; refine ⟨_, rfl, ?_⟩))
        go_ret2
        exact ⟨by first | rfl | (simp; done) | (simp [*]; done), (by repeat (first | (with_reducible first | exact HB.out | apply below_alloc | apply pw_below_drewN | apply below_drew1) | exact HB.out))⟩
       ·obtain rfl : p2 = true := by cases p2 with | true => rfl | false => exact absurd rfl g5
        rw [if_neg (by decide)] at H
        by_cases g6 : 4 < part.size
        ·rw [if_pos g6] at H
         simp only [Option.some.injEq, Prod.mk.injEq] at H
         obtain ⟨rfl, rfl⟩ := H
         have y6 : decide (4 < (part.size : Int)) = true := decide_eq_true (by omega)
         go_enter Tryz.func45, Tryz.ntmps45
         go_wp2_with (first
          | ((with_reducible refine gate_callee (f := 66) rfl ?_); refine goesL_ (some 12) rfl rfl Tryz.func66 (by kernel_rfl) rfl #[.string a0, .string ⟨#[45]⟩] rfl (by (try simp only [List.map_toArray, List.map_cons, List.map_nil]); first | done | rfl) ?_; (refine (strings_CutPrefix.calls a0 ⟨#[45]⟩ s1 neg _ A1.out).mono ?_); rintro e w1 ⟨rfl, ⟨nd, rfl⟩⟩; refine ⟨_, rfl, ?_⟩)
          | ((with_reducible refine gate_callee (f := 67) rfl ?_); refine goesL_ (some 17) rfl rfl Tryz.func67 (by kernel_rfl) rfl #[.string s1, .string ⟨#[46]⟩] rfl (by (try simp only [List.map_toArray, List.map_cons, List.map_nil]); first | done | rfl) ?_; (refine (strings_Cut.calls s1 ⟨#[46]⟩ wd part _ _ (hL := ⟨hL.out.below (by repeat (first | (with_reducible first | exact HB.out | apply below_alloc | apply pw_below_drewN | apply below_drew1) | exact HB.out))⟩) A2.out).mono ?_); rintro e w1 ⟨rfl, ⟨nd, rfl⟩⟩; refine ⟨_, rfl, ?_⟩)
          | ((with_reducible refine gate_callee (f := 68) rfl ?_); refine goesL_ (some 22) rfl rfl Tryz.func68 (by kernel_rfl) rfl #[.string wd] rfl (by (try simp only [List.map_toArray, List.map_cons, List.map_nil]); first | done | rfl) ?_; (refine (fixnum_plain.calls (a0.size + 2) wd _ _ A3.out).mono ?_); rintro e w1 ⟨rfl, ⟨nd, rfl⟩⟩; refine ⟨_, rfl, ?_⟩)
          | ((with_reducible refine gate_callee (f := 68) rfl ?_); (try (refine gate_guard (by rfl) ?_; dsimp only)); refine goesL_ (some 43) rfl rfl Tryz.func68 (by kernel_rfl) rfl #[.string part] rfl (by (try simp only [List.map_toArray, List.map_cons, List.map_nil]); first | done | rfl) ?_; (refine (fixnum_plain.calls (a0.size + 2) part _ _ A4.out).mono ?_); rintro e w1 ⟨rfl, ⟨nd, rfl⟩⟩; refine ⟨_, rfl, ?_⟩))
         go_ret2
         exact ⟨by first | rfl | (simp; done) | (simp [*]; done), (by repeat (first | (with_reducible first | exact HB.out | apply below_alloc | apply pw_below_drewN | apply below_drew1) | exact HB.out))⟩
        ·rw [if_neg g6] at H
         have y6 : decide (4 < (part.size : Int)) = false := decide_eq_false (by omega)
         unfold parseTail at H
         obtain ⟨c, hcc⟩ : ∃ c, 4 - part.size = c := ⟨_, rfl⟩
         rw [hcc] at H
         have hc : (4 : Int) - (part.size : Int) = (c : Int) := by omega
         have hrep := fun w => rep_calls c (by omega) w
         obtain ⟨rp, hrp, hrz⟩ : ∃ rp : ByteArray, (⟨(Lib.repeatL [48] c).toArray⟩ : ByteArray) = rp ∧ rp.size ≤ 4 := ⟨_, rfl, rep_size c (by omega)⟩
         rw [hrp] at H hrep
         obtain ⟨big, hbig⟩ : ∃ big : ByteArray, wd ++ part ++ rp = big := ⟨_, rfl⟩
         have hbs : big.size ≤ 1000000 := by rw [← hbig, ByteArray.size_append, ByteArray.size_append]; omega
         have z1 : (9223372036854775807 < wd.size + part.size) = False := eq_false (by omega)
         have z2 : (9223372036854775807 < wd.size + part.size + rp.size) = False := eq_false (by omega)
         have z3 : (9223372036854775807 < (wd ++ part).size + rp.size) = False := eq_false (by rw [ByteArray.size_append]; omega)
         rw [hbig] at H
         clear g6
         cases hpu : isOk (Lib.parseUintB 64 big.data.toList) with
         | some u =>
          rw [hpu] at H
          have A5 := Aside0.mk H
          clear H
          go_enter Tryz.func45, Tryz.ntmps45
          go_wp2_with (first
           | ((with_reducible refine gate_callee (f := 66) rfl ?_); refine goesL_ (some 12) rfl rfl Tryz.func66 (by kernel_rfl) rfl #[.string a0, .string ⟨#[45]⟩] rfl (by (try simp only [List.map_toArray, List.map_cons, List.map_nil]); first | done | rfl) ?_; (refine (strings_CutPrefix.calls a0 ⟨#[45]⟩ s1 neg _ A1.out).mono ?_); rintro e w1 ⟨rfl, ⟨nd, rfl⟩⟩; refine ⟨_, rfl, ?_⟩)
           | ((with_reducible refine gate_callee (f := 67) rfl ?_); refine goesL_ (some 17) rfl rfl Tryz.func67 (by kernel_rfl) rfl #[.string s1, .string ⟨#[46]⟩] rfl (by (try simp only [List.map_toArray, List.map_cons, List.map_nil]); first | done | rfl) ?_; (refine (strings_Cut.calls s1 ⟨#[46]⟩ wd part _ _ (hL := ⟨hL.out.below (by repeat (first | (with_reducible first | exact HB.out | apply below_alloc | apply pw_below_drewN | apply below_drew1) | exact HB.out))⟩) A2.out).mono ?_); rintro e w1 ⟨rfl, ⟨nd, rfl⟩⟩; refine ⟨_, rfl, ?_⟩)
           | ((with_reducible refine gate_callee (f := 68) rfl ?_); refine goesL_ (some 22) rfl rfl Tryz.func68 (by kernel_rfl) rfl #[.string wd] rfl (by (try simp only [List.map_toArray, List.map_cons, List.map_nil]); first | done | rfl) ?_; (refine (fixnum_plain.calls (a0.size + 2) wd _ _ A3.out).mono ?_); rintro e w1 ⟨rfl, ⟨nd, rfl⟩⟩; refine ⟨_, rfl, ?_⟩)
           | ((with_reducible refine gate_callee (f := 68) rfl ?_); (try (refine gate_guard (by rfl) ?_; dsimp only)); refine goesL_ (some 43) rfl rfl Tryz.func68 (by kernel_rfl) rfl #[.string part] rfl (by (try simp only [List.map_toArray, List.map_cons, List.map_nil]); first | done | rfl) ?_; (refine (fixnum_plain.calls (a0.size + 2) part _ _ A4.out).mono ?_); rintro e w1 ⟨rfl, ⟨nd, rfl⟩⟩; refine ⟨_, rfl, ?_⟩)
           | ((with_reducible refine gate_callee (f := 70) rfl ?_); refine goesL_ (some 59) rfl rfl Tryz.func70 (by kernel_rfl) rfl #[.string ⟨#[48]⟩, .int .i64 (c : Int)] rfl (by (try simp only [List.map_toArray, List.map_cons, List.map_nil]); first | done | rfl) ?_; (refine (hrep _).mono ?_); rintro e w2 ⟨rfl, hb⟩; refine ⟨_, rfl, ?_⟩; have n1_ := Aside0.mk (below_step (by repeat (first | (with_reducible first | exact HB.out | apply below_alloc | apply pw_below_drewN | apply below_drew1) | exact HB.out)) hb); clear HB; have HB := n1_; clear n1_; clear hb)
           | ((with_reducible refine gate_callee (f := 69) rfl ?_); refine goesL_ (some 61) rfl rfl Tryz.func69 (by kernel_rfl) rfl #[.string big, .int .i64 10, .int .i64 64] rfl (by (try simp only [List.map_toArray, List.map_cons, List.map_nil]); first | done | rfl) ?_; (refine (pu_ok big u hbs hpu _).mono ?_); rintro e w3 ⟨rfl, hb⟩; refine ⟨_, rfl, ?_⟩; have n1_ := Aside0.mk (below_step (by repeat (first | (with_reducible first | exact HB.out | apply below_alloc | apply pw_below_drewN | apply below_drew1) | exact HB.out)) hb); clear HB; have HB := n1_; clear n1_; clear hb)
           | ((with_reducible refine gate_callee (f := 71) rfl ?_); refine goesL_ (some 68) rfl rfl Tryz.func71 (by kernel_rfl) rfl #[.int .u64 (u : Int), .bool neg] rfl (by (try simp only [List.map_toArray, List.map_cons, List.map_nil]); first | done | rfl) ?_; (refine (fixnum_signed.calls 3 (u : Int) neg _ _ _ A5.out).mono ?_); rintro e w1 ⟨rfl, ⟨nd, rfl⟩⟩; refine ⟨_, rfl, ?_⟩))
          go_ret2
          exact ⟨by first | rfl | (simp; done) | (simp [*]; done), (by repeat (first | (with_reducible first | exact HB.out | apply below_alloc | apply pw_below_drewN | apply below_drew1) | exact HB.out))⟩
         | none =>
          rw [hpu] at H
          simp only [Option.some.injEq, Prod.mk.injEq] at H
          obtain ⟨rfl, rfl⟩ := H
          go_enter Tryz.func45, Tryz.ntmps45
          go_wp2_with (first
           | ((with_reducible refine gate_callee (f := 66) rfl ?_); refine goesL_ (some 12) rfl rfl Tryz.func66 (by kernel_rfl) rfl #[.string a0, .string ⟨#[45]⟩] rfl (by (try simp only [List.map_toArray, List.map_cons, List.map_nil]); first | done | rfl) ?_; (refine (strings_CutPrefix.calls a0 ⟨#[45]⟩ s1 neg _ A1.out).mono ?_); rintro e w1 ⟨rfl, ⟨nd, rfl⟩⟩; refine ⟨_, rfl, ?_⟩)
           | ((with_reducible refine gate_callee (f := 67) rfl ?_); refine goesL_ (some 17) rfl rfl Tryz.func67 (by kernel_rfl) rfl #[.string s1, .string ⟨#[46]⟩] rfl (by (try simp only [List.map_toArray, List.map_cons, List.map_nil]); first | done | rfl) ?_; (refine (strings_Cut.calls s1 ⟨#[46]⟩ wd part _ _ (hL := ⟨hL.out.below (by repeat (first | (with_reducible first | exact HB.out | apply below_alloc | apply pw_below_drewN | apply below_drew1) | exact HB.out))⟩) A2.out).mono ?_); rintro e w1 ⟨rfl, ⟨nd, rfl⟩⟩; refine ⟨_, rfl, ?_⟩)
           | ((with_reducible refine gate_callee (f := 68) rfl ?_); refine goesL_ (some 22) rfl rfl Tryz.func68 (by kernel_rfl) rfl #[.string wd] rfl (by (try simp only [List.map_toArray, List.map_cons, List.map_nil]); first | done | rfl) ?_; (refine (fixnum_plain.calls (a0.size + 2) wd _ _ A3.out).mono ?_); rintro e w1 ⟨rfl, ⟨nd, rfl⟩⟩; refine ⟨_, rfl, ?_⟩)
           | ((with_reducible refine gate_callee (f := 68) rfl ?_); (try (refine gate_guard (by rfl) ?_; dsimp only)); refine goesL_ (some 43) rfl rfl Tryz.func68 (by kernel_rfl) rfl #[.string part] rfl (by (try simp only [List.map_toArray, List.map_cons, List.map_nil]); first | done | rfl) ?_; (refine (fixnum_plain.calls (a0.size + 2) part _ _ A4.out).mono ?_); rintro e w1 ⟨rfl, ⟨nd, rfl⟩⟩; refine ⟨_, rfl, ?_⟩)
           | ((with_reducible refine gate_callee (f := 70) rfl ?_); refine goesL_ (some 59) rfl rfl Tryz.func70 (by kernel_rfl) rfl #[.string ⟨#[48]⟩, .int .i64 (c : Int)] rfl (by (try simp only [List.map_toArray, List.map_cons, List.map_nil]); first | done | rfl) ?_; (refine (hrep _).mono ?_); rintro e w2 ⟨rfl, hb⟩; refine ⟨_, rfl, ?_⟩; have n1_ := Aside0.mk (below_step (by repeat (first | (with_reducible first | exact HB.out | apply below_alloc | apply pw_below_drewN | apply below_drew1) | exact HB.out)) hb); clear HB; have HB := n1_; clear n1_; clear hb)
           | ((with_reducible refine gate_callee (f := 69) rfl ?_); refine goesL_ (some 61) rfl rfl Tryz.func69 (by kernel_rfl) rfl #[.string big, .int .i64 10, .int .i64 64] rfl (by (try simp only [List.map_toArray, List.map_cons, List.map_nil]); first | done | rfl) ?_; (refine (pu_no big hbs hpu _ (⟨hL.out.below (by repeat (first | (with_reducible first | exact HB.out | apply below_alloc | apply pw_below_drewN | apply below_drew1) | exact HB.out))⟩)).mono ?_); rintro e w3 ⟨V, M, rfl, hb⟩; refine ⟨_, rfl, ?_⟩; have n1_ := Aside0.mk (below_step (by repeat (first | (with_reducible first | exact HB.out | apply below_alloc | apply pw_below_drewN | apply below_drew1) | exact HB.out)) hb); clear HB; have HB := n1_; clear n1_; clear hb))
          go_ret2
          exact ⟨by first | rfl | (simp; done) | (simp [*]; done), (by repeat (first | (with_reducible first | exact HB.out | apply below_alloc | apply pw_below_drewN | apply below_drew1) | exact HB.out))⟩
      | false =>
       rw [if_neg (by decide)] at H
       by_cases g6 : part.size = 0
       ·rw [if_pos g6] at H
        unfold parseTail at H
        obtain ⟨c, hcc⟩ : ∃ c, 4 - part.size = c := ⟨_, rfl⟩
        rw [hcc] at H
        have hc : (4 : Int) - (part.size : Int) = (c : Int) := by omega
        have hrep := fun w => rep_calls c (by omega) w
        obtain ⟨rp, hrp, hrz⟩ : ∃ rp : ByteArray, (⟨(Lib.repeatL [48] c).toArray⟩ : ByteArray) = rp ∧ rp.size ≤ 4 := ⟨_, rfl, rep_size c (by omega)⟩
        rw [hrp] at H hrep
        obtain ⟨big, hbig⟩ : ∃ big : ByteArray, wd ++ part ++ rp = big := ⟨_, rfl⟩
        have hbs : big.size ≤ 1000000 := by rw [← hbig, ByteArray.size_append, ByteArray.size_append]; omega
        have z1 : (9223372036854775807 < wd.size + part.size) = False := eq_false (by omega)
        have z2 : (9223372036854775807 < wd.size + part.size + rp.size) = False := eq_false (by omega)
        have z3 : (9223372036854775807 < (wd ++ part).size + rp.size) = False := eq_false (by rw [ByteArray.size_append]; omega)
        rw [hbig] at H
        clear g6
        cases hpu : isOk (Lib.parseUintB 64 big.data.toList) with
        | some u =>
         rw [hpu] at H
         have A5 := Aside0.mk H
         clear H
         go_enter Tryz.func45, Tryz.ntmps45
         go_wp2_with (first
          | ((with_reducible refine gate_callee (f := 66) rfl ?_); refine goesL_ (some 12) rfl rfl Tryz.func66 (by kernel_rfl) rfl #[.string a0, .string ⟨#[45]⟩] rfl (by (try simp only [List.map_toArray, List.map_cons, List.map_nil]); first | done | rfl) ?_; (refine (strings_CutPrefix.calls a0 ⟨#[45]⟩ s1 neg _ A1.out).mono ?_); rintro e w1 ⟨rfl, ⟨nd, rfl⟩⟩; refine ⟨_, rfl, ?_⟩)
          | ((with_reducible refine gate_callee (f := 67) rfl ?_); refine goesL_ (some 17) rfl rfl Tryz.func67 (by kernel_rfl) rfl #[.string s1, .string ⟨#[46]⟩] rfl (by (try simp only [List.map_toArray, List.map_cons, List.map_nil]); first | done | rfl) ?_; (refine (strings_Cut.calls s1 ⟨#[46]⟩ wd part _ _ (hL := ⟨hL.out.below (by repeat (first | (with_reducible first | exact HB.out | apply below_alloc | apply pw_below_drewN | apply below_drew1) | exact HB.out))⟩) A2.out).mono ?_); rintro e w1 ⟨rfl, ⟨nd, rfl⟩⟩; refine ⟨_, rfl, ?_⟩)
          | ((with_reducible refine gate_callee (f := 68) rfl ?_); refine goesL_ (some 22) rfl rfl Tryz.func68 (by kernel_rfl) rfl #[.string wd] rfl (by (try simp only [List.map_toArray, List.map_cons, List.map_nil]); first | done | rfl) ?_; (refine (fixnum_plain.calls (a0.size + 2) wd _ _ A3.out).mono ?_); rintro e w1 ⟨rfl, ⟨nd, rfl⟩⟩; refine ⟨_, rfl, ?_⟩)
          | ((with_reducible refine gate_callee (f := 70) rfl ?_); refine goesL_ (some 59) rfl rfl Tryz.func70 (by kernel_rfl) rfl #[.string ⟨#[48]⟩, .int .i64 (c : Int)] rfl (by (try simp only [List.map_toArray, List.map_cons, List.map_nil]); first | done | rfl) ?_; (refine (hrep _).mono ?_); rintro e w2 ⟨rfl, hb⟩; refine ⟨_, rfl, ?_⟩; have n1_ := Aside0.mk (below_step (by repeat (first | (with_reducible first | exact HB.out | apply below_alloc | apply pw_below_drewN | apply below_drew1) | exact HB.out)) hb); clear HB; have HB := n1_; clear n1_; clear hb)
          | ((with_reducible refine gate_callee (f := 69) rfl ?_); refine goesL_ (some 61) rfl rfl Tryz.func69 (by kernel_rfl) rfl #[.string big, .int .i64 10, .int .i64 64] rfl (by (try simp only [List.map_toArray, List.map_cons, List.map_nil]); first | done | rfl) ?_; (refine (pu_ok big u hbs hpu _).mono ?_); rintro e w3 ⟨rfl, hb⟩; refine ⟨_, rfl, ?_⟩; have n1_ := Aside0.mk (below_step (by repeat (first | (with_reducible first | exact HB.out | apply below_alloc | apply pw_below_drewN | apply below_drew1) | exact HB.out)) hb); clear HB; have HB := n1_; clear n1_; clear hb)
          | ((with_reducible refine gate_callee (f := 71) rfl ?_); refine goesL_ (some 68) rfl rfl Tryz.func71 (by kernel_rfl) rfl #[.int .u64 (u : Int), .bool neg] rfl (by (try simp only [List.map_toArray, List.map_cons, List.map_nil]); first | done | rfl) ?_; (refine (fixnum_signed.calls 3 (u : Int) neg _ _ _ A5.out).mono ?_); rintro e w1 ⟨rfl, ⟨nd, rfl⟩⟩; refine ⟨_, rfl, ?_⟩))
         go_ret2
         exact ⟨by first | rfl | (simp; done) | (simp [*]; done), (by repeat (first | (with_reducible first | exact HB.out | apply below_alloc | apply pw_below_drewN | apply below_drew1) | exact HB.out))⟩
        | none =>
         rw [hpu] at H
         simp only [Option.some.injEq, Prod.mk.injEq] at H
         obtain ⟨rfl, rfl⟩ := H
         go_enter Tryz.func45, Tryz.ntmps45
         go_wp2_with (first
          | ((with_reducible refine gate_callee (f := 66) rfl ?_); refine goesL_ (some 12) rfl rfl Tryz.func66 (by kernel_rfl) rfl #[.string a0, .string ⟨#[45]⟩] rfl (by (try simp only [List.map_toArray, List.map_cons, List.map_nil]); first | done | rfl) ?_; (refine (strings_CutPrefix.calls a0 ⟨#[45]⟩ s1 neg _ A1.out).mono ?_); rintro e w1 ⟨rfl, ⟨nd, rfl⟩⟩; refine ⟨_, rfl, ?_⟩)
          | ((with_reducible refine gate_callee (f := 67) rfl ?_); refine goesL_ (some 17) rfl rfl Tryz.func67 (by kernel_rfl) rfl #[.string s1, .string ⟨#[46]⟩] rfl (by (try simp only [List.map_toArray, List.map_cons, List.map_nil]); first | done | rfl) ?_; (refine (strings_Cut.calls s1 ⟨#[46]⟩ wd part _ _ (hL := ⟨hL.out.below (by repeat (first | (with_reducible first | exact HB.out | apply below_alloc | apply pw_below_drewN | apply below_drew1) | exact HB.out))⟩) A2.out).mono ?_); rintro e w1 ⟨rfl, ⟨nd, rfl⟩⟩; refine ⟨_, rfl, ?_⟩)
          | ((with_reducible refine gate_callee (f := 68) rfl ?_); refine goesL_ (some 22) rfl rfl Tryz.func68 (by kernel_rfl) rfl #[.string wd] rfl (by (try simp only [List.map_toArray, List.map_cons, List.map_nil]); first | done | rfl) ?_; (refine (fixnum_plain.calls (a0.size + 2) wd _ _ A3.out).mono ?_); rintro e w1 ⟨rfl, ⟨nd, rfl⟩⟩; refine ⟨_, rfl, ?_⟩)
          | ((with_reducible refine gate_callee (f := 70) rfl ?_); refine goesL_ (some 59) rfl rfl Tryz.func70 (by kernel_rfl) rfl #[.string ⟨#[48]⟩, .int .i64 (c : Int)] rfl (by (try simp only [List.map_toArray, List.map_cons, List.map_nil]); first | done | rfl) ?_; (refine (hrep _).mono ?_); rintro e w2 ⟨rfl, hb⟩; refine ⟨_, rfl, ?_⟩; have n1_ := Aside0.mk (below_step (by repeat (first | (with_reducible first | exact HB.out | apply below_alloc | apply pw_below_drewN | apply below_drew1) | exact HB.out)) hb); clear HB; have HB := n1_; clear n1_; clear hb)
          | ((with_reducible refine gate_callee (f := 69) rfl ?_); refine goesL_ (some 61) rfl rfl Tryz.func69 (by kernel_rfl) rfl #[.string big, .int .i64 10, .int .i64 64] rfl (by (try simp only [List.map_toArray, List.map_cons, List.map_nil]); first | done | rfl) ?_; (refine (pu_no big hbs hpu _ (⟨hL.out.below (by repeat (first | (with_reducible first | exact HB.out | apply below_alloc | apply pw_below_drewN | apply below_drew1) | exact HB.out))⟩)).mono ?_); rintro e w3 ⟨V, M, rfl, hb⟩; refine ⟨_, rfl, ?_⟩; have n1_ := Aside0.mk (below_step (by repeat (first | (with_reducible first | exact HB.out | apply below_alloc | apply pw_below_drewN | apply below_drew1) | exact HB.out)) hb); clear HB; have HB := n1_; clear n1_; clear hb))
         go_ret2
         exact ⟨by first | rfl | (simp; done) | (simp [*]; done), (by repeat (first | (with_reducible first | exact HB.out | apply below_alloc | apply pw_below_drewN | apply below_drew1) | exact HB.out))⟩
       ·rw [if_neg g6] at H; cases H
 ·rw [if_neg h0] at h; cases h
#print axioms fixnum_Parse.calls
end Go.Proofs.YtfnbflhoaemmeaaGreatDoor.Ext
