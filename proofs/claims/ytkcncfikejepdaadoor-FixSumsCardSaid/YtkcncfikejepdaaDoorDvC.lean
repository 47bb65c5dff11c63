/- fixnum.Div at any two numbers: what it returns in plain words. Conditions: int64s. -/
import Derived.Test.YtkcncfikejepdaaDoorDvB
import Derived.Test.YtkcncfikejepdaaDoorBits
import Derived.RegionTactic
import Derived.ChangeAlike
import Derived.Laws.BitsLemmas
import Derived.Test.YtkcncfikejepdaaDoorRm
namespace Go.Proofs.YtkcncfikejepdaaDoor.Ext
open Go.RowKit Go.Proofs.YtkcncfikejepdaaDoorW.PrintWords Go.Proofs.YtkcncfikejepdaaDoorW.PrintLast Go.Proofs.YtkcncfikejepdaaDoorW.PrintMore Go.Proofs.YtkcncfikejepdaaDoor.EFix
attribute [local go_sem] max2_int min2_int max_two min_two max_three min_three max_four min_four
set_option linter.unusedVariables false
set_option linter.unusedSimpArgs false
set_option maxHeartbeats 4000000 in
set_option maxRecDepth 100000 in
theorem div64_gen (hi lo y : Nat) (h0 : 0 < hi) (hs0 : Lib.bitLen y < 64) (h1 : hi < y) (hy : y < 18446744073709551616) (hlo : lo < 18446744073709551616) (w : World) :
    Calls Tryd.prog 34 #[.int .u64 (hi : Int), .int .u64 (lo : Int), .int .u64 (y : Int)] w fun e w' => e = .returned (.tuple #[.int .u64 (((hi * 18446744073709551616 + lo) / y : Nat) : Int), .int .u64 (((hi * 18446744073709551616 + lo) % y : Nat) : Int)]) ∧ Drawn0 w w' := by
  obtain ⟨n1, n2, n3, n4⟩ := norm_y y (by omega) hy
  obtain ⟨L, hL⟩ : ∃ L, Lib.bitLen y = L := ⟨_, rfl⟩
  rw [hL] at n1 n2 n3 n4
  have hlz := fun w => Go.Proofs.Tryd.bits_LeadingZeros64 (y : Int) w (by omega) (by omega)
  rw [Int.toNat_natCast, hL] at hlz
  obtain ⟨s, hs⟩ : ∃ s : Nat, 64 - L = s := ⟨_, rfl⟩
  rw [hs] at n3 n4
  have e64 : (64 : Int) - (L : Int) = (s : Int) := by omega
  rw [e64] at hlz
  have s63 : s ≤ 63 := by omega
  have k0 : ((y : Int) == 0) = false := beq_eq_false_iff_ne.2 (by omega)
  have k0' : decide ((y : Int) = 0) = false := decide_eq_false (by omega)
  have k1 : decide ((y : Int) ≤ (hi : Int)) = false := decide_eq_false (by omega)
  have k2 : ((hi : Int) == 0) = false := beq_eq_false_iff_ne.2 (by omega)
  have k2' : decide ((hi : Int) = 0) = false := decide_eq_false (by omega)
  have k3 : IntKind.u64.wrap (s : Int) = (s : Int) := wraps_u64 _ (by omega) (by omega)
  have s0 : 0 < s := by omega
  have s64 : 64 - s ≤ 63 := by omega
  have hH : hi * 2 ^ s < 18446744073709551616 := Nat.lt_of_le_of_lt (Nat.mul_le_mul_right _ (by omega)) n4
  have g1 := shl_fits y s n4
  have g2 := shl_fits hi s hH
  have g3 := cast_shr lo (64 - s)
  have g5 := shl_cut lo s
  have hR : lo / 2 ^ (64 - s) < 2 ^ s := by
    rw [Nat.div_lt_iff_lt_mul (Nat.two_pow_pos _), ← Nat.pow_add, show s + (64 - s) = 64 by omega]
    exact hlo
  have g4 := or_shift hi (lo / 2 ^ (64 - s)) s (by omega) hH hR
  obtain ⟨Y, hY⟩ : ∃ Y, y * 2 ^ s = Y := ⟨_, rfl⟩
  obtain ⟨H, hHH⟩ : ∃ H, hi * 2 ^ s = H := ⟨_, rfl⟩
  obtain ⟨R, hRR⟩ : ∃ R, lo / 2 ^ (64 - s) = R := ⟨_, rfl⟩
  obtain ⟨Wd, hWd⟩ : ∃ W, lo * 2 ^ s % 18446744073709551616 = W := ⟨_, rfl⟩
  obtain ⟨U, hU⟩ : ∃ U, H + R = U := ⟨_, rfl⟩
  obtain ⟨c, hc⟩ : ∃ c, 64 - s = c := ⟨_, rfl⟩
  rw [hY] at g1 n3 n4
  rw [hHH] at g2 g4 hH
  rw [hRR] at g3 g4 hR
  rw [hWd] at g5
  rw [hU] at g4
  rw [hc] at g3
  have i1 : (s < 64) = True := eq_true (by omega)
  have i2 : (c < 64) = True := eq_true (by omega)
  have i3 : ((s : Int) < 64) = True := eq_true (by omega)
  have i4 : decide ((s : Int) < 64) = true := decide_eq_true (by omega)
  have i5 : IntKind.u64.wrap (64 - (s : Int)) = (c : Int) := by rw [wraps_u64 _ (by omega) (by omega)]; omega
  have i6 : (64 : Int) - (s : Int) = (c : Int) := by omega
  have i7 : decide ((c : Int) < 64) = true := decide_eq_true (by omega)
  have i8 : ((c : Int) < 64) = True := eq_true (by omega)
  obtain ⟨y1, hy1⟩ : ∃ a, Y / 4294967296 = a := ⟨_, rfl⟩
  obtain ⟨y0, hy0⟩ : ∃ a, Y % 4294967296 = a := ⟨_, rfl⟩
  obtain ⟨x1, hx1⟩ : ∃ a, Wd / 4294967296 = a := ⟨_, rfl⟩
  obtain ⟨x0, hx0⟩ : ∃ a, Wd % 4294967296 = a := ⟨_, rfl⟩
  have hWlt : Wd < 18446744073709551616 := by rw [← hWd]; exact Nat.mod_lt _ (by decide)
  have hULt : U < Y := by
    rw [← hU, ← hHH, ← hY]
    have : (hi + 1) * 2 ^ s ≤ y * 2 ^ s := Nat.mul_le_mul_right _ h1
    rw [Nat.add_mul, Nat.one_mul] at this
    omega
  have j1 : (Y : Int) / 4294967296 = (y1 : Int) := by omega
  have j2 : bits .and .u64 (Y : Int) 4294967295 = (y0 : Int) := by rw [and_32 _ (by omega) (by omega)]; omega
  have j3 : (Wd : Int) / 4294967296 = (x1 : Int) := by omega
  have j4 : bits .and .u64 (Wd : Int) 4294967295 = (x0 : Int) := by rw [and_32 _ (by omega) (by omega)]; omega
  have HB1 : Aside0 (KnB y1 y0 U x1) := ⟨by unfold KnB; omega⟩
  have HYY : Aside0 (y1 * 4294967296 + y0 = Y) := ⟨by omega⟩
  have Ypos : 0 < Y := by omega
  have HK1 := Aside0.mk (kn_start HB1.out)
  have j51 : (U : Int).tdiv (y1 : Int) = ((U / y1 : Nat) : Int) := by rw [Int.tdiv_eq_ediv_of_nonneg (by omega), ← Int.natCast_ediv]
  have j61 := w_first U y1
  have j81 := w_mul (U / y1) y1 (Nat.lt_of_le_of_lt (Nat.div_mul_le_self U y1) (by omega))
  have j01 : (U : Int) / (y1 : Int) = ((U / y1 : Nat) : Int) := by rw [← Int.natCast_ediv]
  obtain ⟨Q1, hQ1⟩ : ∃ Q, U / y1 = Q := ⟨_, rfl⟩
  obtain ⟨R1, hR1⟩ : ∃ R, U % y1 = R := ⟨_, rfl⟩
  rw [hQ1] at j51 j61 j81 j01 HK1
  rw [hR1] at j61 HK1
  clear hQ1 hR1
  have j71 : IntKind.u64.wrap (Q1 : Int) = (Q1 : Int) := wraps_u64 _ (by omega) (by have := HK1.out.2.2.1; omega)
  have j91 : IntKind.u64.wrap (R1 : Int) = (R1 : Int) := wraps_u64 _ (by omega) (by have := HK1.out.2.2.2; omega)
  have j11 : (y1 == 0) = false := beq_eq_false_iff_ne.2 (by have := HB1.out.1; omega)
  have j12 : decide ((y1 : Int) = 0) = false := decide_eq_false (by have := HB1.out.1; omega)
  have j13 : ((y1 : Int) == 0) = false := beq_eq_false_iff_ne.2 (by have := HB1.out.1; omega)
  have HU : Aside0 (hi * 2 ^ s + lo / 2 ^ (64 - s) = U) := ⟨by rw [hHH, hRR, hU]⟩
  have HY := Aside0.mk (And.intro hY (And.intro hWd hc))
  have HX := Aside0.mk (And.intro hx1 hx0)
  have HX0 : Aside0 (x0 < 4294967296) := ⟨by omega⟩
  have HLT := Aside0.mk (And.intro hULt hWlt)
  clear hY hHH hRR hWd hU hc hy1 hy0 hx1 hx0 hULt hWlt
  clear hL hs e64
  obtain ⟨F, hF⟩ : ∃ F, 4294967300 = F := ⟨_, rfl⟩
  have HF := Aside0.mk hF
  clear hF
  obtain ⟨RQ, hRQ⟩ : ∃ a, (hi * 18446744073709551616 + lo) / y = a := ⟨_, rfl⟩
  obtain ⟨RR, hRR'⟩ : ∃ a, (hi * 18446744073709551616 + lo) % y = a := ⟨_, rfl⟩
  rw [hRQ, hRR']
  have HR3 : Aside0 (RQ < 18446744073709551616) := ⟨by rw [← hRQ, Nat.div_lt_iff_lt_mul (by omega)]; omega⟩
  have HR := Aside0.mk (And.intro hRQ hRR')
  clear hRQ hRR'
  go_enter Tryd.func34, Tryd.ntmps34
  go_upto_block 0 with (first | ((with_reducible refine gate_callee (f := 46) rfl ?_); refine goesL_ (some 35) rfl rfl Tryd.func46 (by kernel_rfl) rfl #[.int .u64 (y : Int)] rfl (by (try simp only [List.map_toArray, List.map_cons, List.map_nil]); first | done | rfl) ?_; (refine (hlz _).mono ?_); rintro e w10 ⟨rfl, rfl⟩; refine ⟨_, rfl, ?_⟩))
  have HD : Drawn0 w10 w10 := Drawn0.refl _
  go_wp2
  go_loopg [15, 16] F (fun kq v15 v16 w' => ∃ q r : Nat, v15 = .int .u64 (q : Int) ∧ v16 = .int .u64 (r : Int) ∧ q < kq ∧ Aside0 (Kn y1 y0 U x1 q r) ∧ Aside0 (Drawn0 w10 w'))
  case atStart => exact ⟨Q1, R1, rfl, rfl, by have := HK1.out.2.2.1; have := HF.out; omega, HK1, ⟨by repeat (first | exact HD | exact Drawn0.refl _ | apply Drawn0.step)⟩⟩
  case round =>
    obtain ⟨qv1, rv1, rfl, rfl, hk, HK, HDn⟩ := hrel
    clear HD
    have HD := HDn.out
    clear HDn
    obtain ⟨b2, k3, k4⟩ : Aside0 (y1 < 4294967296) ∧ qv1 ≤ 4294967297 ∧ rv1 < 4294967296 := ⟨⟨HB1.out.2.1⟩, HK.out.2.2.1, HK.out.2.2.2⟩
    have m1 : IntKind.u64.wrap ((qv1 : Int) * (y0 : Int)) = (qv1 : Int) * (y0 : Int) := w_mul qv1 y0 (kn_ybound k3 HB1.out.2.2.1)
    have m2 : IntKind.u64.wrap (4294967296 * (rv1 : Int)) = 4294967296 * (rv1 : Int) := wraps_u64 _ (by omega) (by omega)
    have m3 : IntKind.u64.wrap (4294967296 * (rv1 : Int) + (x1 : Int)) = 4294967296 * (rv1 : Int) + (x1 : Int) := wraps_u64 _ (by have := HB1.out.2.2.2.2; omega) (by have := HB1.out.2.2.2.2; omega)
    by_cases ht : 4294967296 ≤ qv1 ∨ rv1 * 4294967296 + x1 < qv1 * y0
    · have hl := kn_less HB1.out HK.out ht
      have hq1 : 1 ≤ qv1 := hl.1
      have HL := Aside0.mk hl
      clear hl
      have m4 : IntKind.u64.wrap ((qv1 : Int) - 1) = ((qv1 - 1 : Nat) : Int) := by rw [wraps_u64 _ (by omega) (by omega)]; omega
      have m5 : IntKind.u64.wrap ((rv1 : Int) + (y1 : Int)) = ((rv1 + y1 : Nat) : Int) := by have := b2.out; rw [wraps_u64 _ (by omega) (by omega)]; omega
      by_cases hr : 4294967296 ≤ rv1 + y1
      · have hD := kn_stop HB1.out HK.out ht hr
        have m6 : decide (4294967296 ≤ ((rv1 + y1 : Nat) : Int)) = true := decide_eq_true (by omega)
        have m6' : decide (4294967296 ≤ (rv1 : Int) + (y1 : Int)) = true := decide_eq_true (by omega)
        obtain ⟨dv1, hd⟩ : ∃ dv1, qv1 - 1 = dv1 := ⟨_, rfl⟩
        rw [hd] at m4 hD
        clear hd
        by_cases hq : 4294967296 ≤ qv1
        · have m7 : decide (4294967296 ≤ (qv1 : Int)) = true := decide_eq_true (by omega)
          have hDD : dv1 = (U * 4294967296 + x1) / Y := hD.trans (by rw [HYY.out])
          have rr1 := w_rest (u := U) (x := x1) (Y := Y) (q := dv1) Ypos n4 hDD
          have hd1 := kn_digit U x1 Y HLT.out.1 HB1.out.2.2.2.2
          rw [← hDD] at hd1
          obtain ⟨V, hV⟩ : ∃ V, (U * 4294967296 + x1) % Y = V := ⟨_, rfl⟩
          have hVlt : V < Y := by rw [← hV]; exact Nat.mod_lt _ Ypos
          rw [hV] at rr1
          have HV : Aside0 (V = (U * 4294967296 + x1) % Y) := ⟨hV.symm⟩
          have HD1 := Aside0.mk hDD
          have HB2 : Aside0 (KnB y1 y0 V x0) := ⟨by have := HB1.out; have := HX0.out; have := HYY.out; unfold KnB at *; omega⟩
          clear hD hDD hV
          have HK2 := Aside0.mk (kn_start HB2.out)
          have j52 : (V : Int).tdiv (y1 : Int) = ((V / y1 : Nat) : Int) := by rw [Int.tdiv_eq_ediv_of_nonneg (by omega), ← Int.natCast_ediv]
          have j62 := w_first V y1
          have j82 := w_mul (V / y1) y1 (Nat.lt_of_le_of_lt (Nat.div_mul_le_self V y1) (by omega))
          have j02 : (V : Int) / (y1 : Int) = ((V / y1 : Nat) : Int) := by rw [← Int.natCast_ediv]
          obtain ⟨Q2, hQ2⟩ : ∃ Q, V / y1 = Q := ⟨_, rfl⟩
          obtain ⟨R2, hR2⟩ : ∃ R, V % y1 = R := ⟨_, rfl⟩
          rw [hQ2] at j52 j62 j82 j02 HK2
          rw [hR2] at j62 HK2
          clear hQ2 hR2
          have j72 : IntKind.u64.wrap (Q2 : Int) = (Q2 : Int) := wraps_u64 _ (by omega) (by have := HK2.out.2.2.1; omega)
          have j92 : IntKind.u64.wrap (R2 : Int) = (R2 : Int) := wraps_u64 _ (by omega) (by have := HK2.out.2.2.2; omega)
          go_wp2
          go_loopg [16, 18] F (fun kq v16 v18 w' => ∃ q r : Nat, v18 = .int .u64 (q : Int) ∧ v16 = .int .u64 (r : Int) ∧ q < kq ∧ Aside0 (Kn y1 y0 V x0 q r) ∧ Aside0 (Drawn0 w10 w'))
          case atStart => exact ⟨Q2, R2, rfl, rfl, by have := HK2.out.2.2.1; have := HF.out; omega, HK2, ⟨by repeat (first | exact HD | exact Drawn0.refl _ | apply Drawn0.step)⟩⟩
          case round =>
            obtain ⟨qv2, rv2, rfl, rfl, hk, HK, HDn⟩ := hrel
            clear HD
            have HD := HDn.out
            clear HDn
            obtain ⟨b2, k3, k4⟩ : Aside0 (y1 < 4294967296) ∧ qv2 ≤ 4294967297 ∧ rv2 < 4294967296 := ⟨⟨HB2.out.2.1⟩, HK.out.2.2.1, HK.out.2.2.2⟩
            have m1 : IntKind.u64.wrap ((qv2 : Int) * (y0 : Int)) = (qv2 : Int) * (y0 : Int) := w_mul qv2 y0 (kn_ybound k3 HB2.out.2.2.1)
            have m2 : IntKind.u64.wrap (4294967296 * (rv2 : Int)) = 4294967296 * (rv2 : Int) := wraps_u64 _ (by omega) (by omega)
            have m3 : IntKind.u64.wrap (4294967296 * (rv2 : Int) + (x0 : Int)) = 4294967296 * (rv2 : Int) + (x0 : Int) := wraps_u64 _ (by have := HB2.out.2.2.2.2; omega) (by have := HB2.out.2.2.2.2; omega)
            by_cases ht : 4294967296 ≤ qv2 ∨ rv2 * 4294967296 + x0 < qv2 * y0
            · have hl := kn_less HB2.out HK.out ht
              have hq1 : 1 ≤ qv2 := hl.1
              have HL := Aside0.mk hl
              clear hl
              have m4 : IntKind.u64.wrap ((qv2 : Int) - 1) = ((qv2 - 1 : Nat) : Int) := by rw [wraps_u64 _ (by omega) (by omega)]; omega
              have m5 : IntKind.u64.wrap ((rv2 : Int) + (y1 : Int)) = ((rv2 + y1 : Nat) : Int) := by have := b2.out; rw [wraps_u64 _ (by omega) (by omega)]; omega
              by_cases hr : 4294967296 ≤ rv2 + y1
              · have hD := kn_stop HB2.out HK.out ht hr
                have m6 : decide (4294967296 ≤ ((rv2 + y1 : Nat) : Int)) = true := decide_eq_true (by omega)
                have m6' : decide (4294967296 ≤ (rv2 : Int) + (y1 : Int)) = true := decide_eq_true (by omega)
                obtain ⟨dv2, hd⟩ : ∃ dv2, qv2 - 1 = dv2 := ⟨_, rfl⟩
                rw [hd] at m4 hD
                clear hd
                by_cases hq : 4294967296 ≤ qv2
                · have m7 : decide (4294967296 ≤ (qv2 : Int)) = true := decide_eq_true (by omega)
                  have hDD : dv2 = (V * 4294967296 + x0) / Y := hD.trans (by rw [HYY.out])
                  have n5 := w_rest (u := V) (x := x0) (Y := Y) (q := dv2) Ypos n4 hDD
                  obtain ⟨e1, e2⟩ := kn_whole (by omega) (by omega) HY.out.1 HU.out HY.out.2.1 HX.out.1 HX.out.2 HD1.out HV.out hDD
                  obtain ⟨Z, hZ⟩ : ∃ Z, (V * 4294967296 + x0) % Y = Z := ⟨_, rfl⟩
                  rw [hZ] at n5 e2
                  rw [HR.out.1] at e1
                  rw [HR.out.2] at e2
                  have n6 : (Z : Int) / 2 ^ s = (RR : Int) := by rw [cast_shr, e2, Nat.mul_div_cancel _ (Nat.two_pow_pos s)]
                  have n7 : IntKind.u64.wrap (IntKind.u64.wrap ((dv1 : Int) * 4294967296) + (dv2 : Int)) = (RQ : Int) := w_two e1 HR3.out
                  have n8 : IntKind.u64.wrap ((dv1 : Int) * 4294967296 + (dv2 : Int)) = (RQ : Int) := w_two2 e1 HR3.out
                  clear hD hDD e1 e2 hZ
                  go_wp2
                  go_ret2
                  exact ⟨by first | rfl | (simp [*]; done), by repeat (first | exact HD | exact Drawn0.refl _ | apply Drawn0.step)⟩
                · have m7 : decide (4294967296 ≤ (qv2 : Int)) = false := decide_eq_false (by omega)
                  have m8 : decide (4294967296 * (rv2 : Int) + (x0 : Int) < (qv2 : Int) * (y0 : Int)) = true := decide_eq_true (by rw [← Int.natCast_mul]; rcases ht with h | h <;> omega)
                  have hDD : dv2 = (V * 4294967296 + x0) / Y := hD.trans (by rw [HYY.out])
                  have n5 := w_rest (u := V) (x := x0) (Y := Y) (q := dv2) Ypos n4 hDD
                  obtain ⟨e1, e2⟩ := kn_whole (by omega) (by omega) HY.out.1 HU.out HY.out.2.1 HX.out.1 HX.out.2 HD1.out HV.out hDD
                  obtain ⟨Z, hZ⟩ : ∃ Z, (V * 4294967296 + x0) % Y = Z := ⟨_, rfl⟩
                  rw [hZ] at n5 e2
                  rw [HR.out.1] at e1
                  rw [HR.out.2] at e2
                  have n6 : (Z : Int) / 2 ^ s = (RR : Int) := by rw [cast_shr, e2, Nat.mul_div_cancel _ (Nat.two_pow_pos s)]
                  have n7 : IntKind.u64.wrap (IntKind.u64.wrap ((dv1 : Int) * 4294967296) + (dv2 : Int)) = (RQ : Int) := w_two e1 HR3.out
                  have n8 : IntKind.u64.wrap ((dv1 : Int) * 4294967296 + (dv2 : Int)) = (RQ : Int) := w_two2 e1 HR3.out
                  clear hD hDD e1 e2 hZ
                  go_wp2
                  go_ret2
                  exact ⟨by first | rfl | (simp [*]; done), by repeat (first | exact HD | exact Drawn0.refl _ | apply Drawn0.step)⟩
              · have hN := kn_next HB2.out HK.out ht hr
                have m6 : decide (4294967296 ≤ ((rv2 + y1 : Nat) : Int)) = false := decide_eq_false (by omega)
                have m6' : decide (4294967296 ≤ (rv2 : Int) + (y1 : Int)) = false := decide_eq_false (by omega)
                obtain ⟨k2, rfl⟩ : ∃ k2, gk = k2 + 1 := ⟨gk - 1, by omega⟩
                have hk2 : qv2 - 1 < k2 := by omega
                obtain ⟨dv2, hd⟩ : ∃ dv2, qv2 - 1 = dv2 := ⟨_, rfl⟩
                obtain ⟨ev2, he⟩ : ∃ ev2, rv2 + y1 = ev2 := ⟨_, rfl⟩
                rw [hd] at m4 hN hk2
                rw [he] at m5 m6 hN
                clear hd he
                by_cases hq : 4294967296 ≤ qv2
                · have m7 : decide (4294967296 ≤ (qv2 : Int)) = true := decide_eq_true (by omega)
                  go_wp2
                  go_roundg k2
                  case measure => omega
                  case rel => exact ⟨dv2, ev2, rfl, rfl, hk2, ⟨hN⟩, ⟨by repeat (first | exact HD | exact Drawn0.refl _ | apply Drawn0.step)⟩⟩
                · have m7 : decide (4294967296 ≤ (qv2 : Int)) = false := decide_eq_false (by omega)
                  have m8 : decide (4294967296 * (rv2 : Int) + (x0 : Int) < (qv2 : Int) * (y0 : Int)) = true := decide_eq_true (by rw [← Int.natCast_mul]; rcases ht with h | h <;> omega)
                  go_wp2
                  go_roundg k2
                  case measure => omega
                  case rel => exact ⟨dv2, ev2, rfl, rfl, hk2, ⟨hN⟩, ⟨by repeat (first | exact HD | exact Drawn0.refl _ | apply Drawn0.step)⟩⟩
            · obtain ⟨h1, h2⟩ : ¬ (4294967296 ≤ qv2) ∧ ¬ (rv2 * 4294967296 + x0 < qv2 * y0) := ⟨fun h => ht (Or.inl h), fun h => ht (Or.inr h)⟩
              have hD := kn_fits2 HB2.out HK.out h2
              have m7 : decide (4294967296 ≤ (qv2 : Int)) = false := decide_eq_false (by omega)
              have m8 : decide (4294967296 * (rv2 : Int) + (x0 : Int) < (qv2 : Int) * (y0 : Int)) = false := decide_eq_false (by rw [← Int.natCast_mul]; omega)
              clear h1 h2 ht
              have hDD : qv2 = (V * 4294967296 + x0) / Y := hD.trans (by rw [HYY.out])
              have n5 := w_rest (u := V) (x := x0) (Y := Y) (q := qv2) Ypos n4 hDD
              obtain ⟨e1, e2⟩ := kn_whole (by omega) (by omega) HY.out.1 HU.out HY.out.2.1 HX.out.1 HX.out.2 HD1.out HV.out hDD
              obtain ⟨Z, hZ⟩ : ∃ Z, (V * 4294967296 + x0) % Y = Z := ⟨_, rfl⟩
              rw [hZ] at n5 e2
              rw [HR.out.1] at e1
              rw [HR.out.2] at e2
              have n6 : (Z : Int) / 2 ^ s = (RR : Int) := by rw [cast_shr, e2, Nat.mul_div_cancel _ (Nat.two_pow_pos s)]
              have n7 : IntKind.u64.wrap (IntKind.u64.wrap ((dv1 : Int) * 4294967296) + (qv2 : Int)) = (RQ : Int) := w_two e1 HR3.out
              have n8 : IntKind.u64.wrap ((dv1 : Int) * 4294967296 + (qv2 : Int)) = (RQ : Int) := w_two2 e1 HR3.out
              clear hD hDD e1 e2 hZ
              go_wp2
              go_ret2
              exact ⟨by first | rfl | (simp [*]; done), by repeat (first | exact HD | exact Drawn0.refl _ | apply Drawn0.step)⟩
        · have m7 : decide (4294967296 ≤ (qv1 : Int)) = false := decide_eq_false (by omega)
          have m8 : decide (4294967296 * (rv1 : Int) + (x1 : Int) < (qv1 : Int) * (y0 : Int)) = true := decide_eq_true (by rw [← Int.natCast_mul]; rcases ht with h | h <;> omega)
          have hDD : dv1 = (U * 4294967296 + x1) / Y := hD.trans (by rw [HYY.out])
          have rr1 := w_rest (u := U) (x := x1) (Y := Y) (q := dv1) Ypos n4 hDD
          have hd1 := kn_digit U x1 Y HLT.out.1 HB1.out.2.2.2.2
          rw [← hDD] at hd1
          obtain ⟨V, hV⟩ : ∃ V, (U * 4294967296 + x1) % Y = V := ⟨_, rfl⟩
          have hVlt : V < Y := by rw [← hV]; exact Nat.mod_lt _ Ypos
          rw [hV] at rr1
          have HV : Aside0 (V = (U * 4294967296 + x1) % Y) := ⟨hV.symm⟩
          have HD1 := Aside0.mk hDD
          have HB2 : Aside0 (KnB y1 y0 V x0) := ⟨by have := HB1.out; have := HX0.out; have := HYY.out; unfold KnB at *; omega⟩
          clear hD hDD hV
          have HK2 := Aside0.mk (kn_start HB2.out)
          have j52 : (V : Int).tdiv (y1 : Int) = ((V / y1 : Nat) : Int) := by rw [Int.tdiv_eq_ediv_of_nonneg (by omega), ← Int.natCast_ediv]
          have j62 := w_first V y1
          have j82 := w_mul (V / y1) y1 (Nat.lt_of_le_of_lt (Nat.div_mul_le_self V y1) (by omega))
          have j02 : (V : Int) / (y1 : Int) = ((V / y1 : Nat) : Int) := by rw [← Int.natCast_ediv]
          obtain ⟨Q2, hQ2⟩ : ∃ Q, V / y1 = Q := ⟨_, rfl⟩
          obtain ⟨R2, hR2⟩ : ∃ R, V % y1 = R := ⟨_, rfl⟩
          rw [hQ2] at j52 j62 j82 j02 HK2
          rw [hR2] at j62 HK2
          clear hQ2 hR2
          have j72 : IntKind.u64.wrap (Q2 : Int) = (Q2 : Int) := wraps_u64 _ (by omega) (by have := HK2.out.2.2.1; omega)
          have j92 : IntKind.u64.wrap (R2 : Int) = (R2 : Int) := wraps_u64 _ (by omega) (by have := HK2.out.2.2.2; omega)
          go_wp2
          go_loopg [16, 18] F (fun kq v16 v18 w' => ∃ q r : Nat, v18 = .int .u64 (q : Int) ∧ v16 = .int .u64 (r : Int) ∧ q < kq ∧ Aside0 (Kn y1 y0 V x0 q r) ∧ Aside0 (Drawn0 w10 w'))
          case atStart => exact ⟨Q2, R2, rfl, rfl, by have := HK2.out.2.2.1; have := HF.out; omega, HK2, ⟨by repeat (first | exact HD | exact Drawn0.refl _ | apply Drawn0.step)⟩⟩
          case round =>
            obtain ⟨qv2, rv2, rfl, rfl, hk, HK, HDn⟩ := hrel
            clear HD
            have HD := HDn.out
            clear HDn
            obtain ⟨b2, k3, k4⟩ : Aside0 (y1 < 4294967296) ∧ qv2 ≤ 4294967297 ∧ rv2 < 4294967296 := ⟨⟨HB2.out.2.1⟩, HK.out.2.2.1, HK.out.2.2.2⟩
            have m1 : IntKind.u64.wrap ((qv2 : Int) * (y0 : Int)) = (qv2 : Int) * (y0 : Int) := w_mul qv2 y0 (kn_ybound k3 HB2.out.2.2.1)
            have m2 : IntKind.u64.wrap (4294967296 * (rv2 : Int)) = 4294967296 * (rv2 : Int) := wraps_u64 _ (by omega) (by omega)
            have m3 : IntKind.u64.wrap (4294967296 * (rv2 : Int) + (x0 : Int)) = 4294967296 * (rv2 : Int) + (x0 : Int) := wraps_u64 _ (by have := HB2.out.2.2.2.2; omega) (by have := HB2.out.2.2.2.2; omega)
            by_cases ht : 4294967296 ≤ qv2 ∨ rv2 * 4294967296 + x0 < qv2 * y0
            · have hl := kn_less HB2.out HK.out ht
              have hq1 : 1 ≤ qv2 := hl.1
              have HL := Aside0.mk hl
              clear hl
              have m4 : IntKind.u64.wrap ((qv2 : Int) - 1) = ((qv2 - 1 : Nat) : Int) := by rw [wraps_u64 _ (by omega) (by omega)]; omega
              have m5 : IntKind.u64.wrap ((rv2 : Int) + (y1 : Int)) = ((rv2 + y1 : Nat) : Int) := by have := b2.out; rw [wraps_u64 _ (by omega) (by omega)]; omega
              by_cases hr : 4294967296 ≤ rv2 + y1
              · have hD := kn_stop HB2.out HK.out ht hr
                have m6 : decide (4294967296 ≤ ((rv2 + y1 : Nat) : Int)) = true := decide_eq_true (by omega)
                have m6' : decide (4294967296 ≤ (rv2 : Int) + (y1 : Int)) = true := decide_eq_true (by omega)
                obtain ⟨dv2, hd⟩ : ∃ dv2, qv2 - 1 = dv2 := ⟨_, rfl⟩
                rw [hd] at m4 hD
                clear hd
                by_cases hq : 4294967296 ≤ qv2
                · have m7 : decide (4294967296 ≤ (qv2 : Int)) = true := decide_eq_true (by omega)
                  have hDD : dv2 = (V * 4294967296 + x0) / Y := hD.trans (by rw [HYY.out])
                  have n5 := w_rest (u := V) (x := x0) (Y := Y) (q := dv2) Ypos n4 hDD
                  obtain ⟨e1, e2⟩ := kn_whole (by omega) (by omega) HY.out.1 HU.out HY.out.2.1 HX.out.1 HX.out.2 HD1.out HV.out hDD
                  obtain ⟨Z, hZ⟩ : ∃ Z, (V * 4294967296 + x0) % Y = Z := ⟨_, rfl⟩
                  rw [hZ] at n5 e2
                  rw [HR.out.1] at e1
                  rw [HR.out.2] at e2
                  have n6 : (Z : Int) / 2 ^ s = (RR : Int) := by rw [cast_shr, e2, Nat.mul_div_cancel _ (Nat.two_pow_pos s)]
                  have n7 : IntKind.u64.wrap (IntKind.u64.wrap ((dv1 : Int) * 4294967296) + (dv2 : Int)) = (RQ : Int) := w_two e1 HR3.out
                  have n8 : IntKind.u64.wrap ((dv1 : Int) * 4294967296 + (dv2 : Int)) = (RQ : Int) := w_two2 e1 HR3.out
                  clear hD hDD e1 e2 hZ
                  go_wp2
                  go_ret2
                  exact ⟨by first | rfl | (simp [*]; done), by repeat (first | exact HD | exact Drawn0.refl _ | apply Drawn0.step)⟩
                · have m7 : decide (4294967296 ≤ (qv2 : Int)) = false := decide_eq_false (by omega)
                  have m8 : decide (4294967296 * (rv2 : Int) + (x0 : Int) < (qv2 : Int) * (y0 : Int)) = true := decide_eq_true (by rw [← Int.natCast_mul]; rcases ht with h | h <;> omega)
                  have hDD : dv2 = (V * 4294967296 + x0) / Y := hD.trans (by rw [HYY.out])
                  have n5 := w_rest (u := V) (x := x0) (Y := Y) (q := dv2) Ypos n4 hDD
                  obtain ⟨e1, e2⟩ := kn_whole (by omega) (by omega) HY.out.1 HU.out HY.out.2.1 HX.out.1 HX.out.2 HD1.out HV.out hDD
                  obtain ⟨Z, hZ⟩ : ∃ Z, (V * 4294967296 + x0) % Y = Z := ⟨_, rfl⟩
                  rw [hZ] at n5 e2
                  rw [HR.out.1] at e1
                  rw [HR.out.2] at e2
                  have n6 : (Z : Int) / 2 ^ s = (RR : Int) := by rw [cast_shr, e2, Nat.mul_div_cancel _ (Nat.two_pow_pos s)]
                  have n7 : IntKind.u64.wrap (IntKind.u64.wrap ((dv1 : Int) * 4294967296) + (dv2 : Int)) = (RQ : Int) := w_two e1 HR3.out
                  have n8 : IntKind.u64.wrap ((dv1 : Int) * 4294967296 + (dv2 : Int)) = (RQ : Int) := w_two2 e1 HR3.out
                  clear hD hDD e1 e2 hZ
                  go_wp2
                  go_ret2
                  exact ⟨by first | rfl | (simp [*]; done), by repeat (first | exact HD | exact Drawn0.refl _ | apply Drawn0.step)⟩
              · have hN := kn_next HB2.out HK.out ht hr
                have m6 : decide (4294967296 ≤ ((rv2 + y1 : Nat) : Int)) = false := decide_eq_false (by omega)
                have m6' : decide (4294967296 ≤ (rv2 : Int) + (y1 : Int)) = false := decide_eq_false (by omega)
                obtain ⟨k2, rfl⟩ : ∃ k2, gk = k2 + 1 := ⟨gk - 1, by omega⟩
                have hk2 : qv2 - 1 < k2 := by omega
                obtain ⟨dv2, hd⟩ : ∃ dv2, qv2 - 1 = dv2 := ⟨_, rfl⟩
                obtain ⟨ev2, he⟩ : ∃ ev2, rv2 + y1 = ev2 := ⟨_, rfl⟩
                rw [hd] at m4 hN hk2
                rw [he] at m5 m6 hN
                clear hd he
                by_cases hq : 4294967296 ≤ qv2
                · have m7 : decide (4294967296 ≤ (qv2 : Int)) = true := decide_eq_true (by omega)
                  go_wp2
                  go_roundg k2
                  case measure => omega
                  case rel => exact ⟨dv2, ev2, rfl, rfl, hk2, ⟨hN⟩, ⟨by repeat (first | exact HD | exact Drawn0.refl _ | apply Drawn0.step)⟩⟩
                · have m7 : decide (4294967296 ≤ (qv2 : Int)) = false := decide_eq_false (by omega)
                  have m8 : decide (4294967296 * (rv2 : Int) + (x0 : Int) < (qv2 : Int) * (y0 : Int)) = true := decide_eq_true (by rw [← Int.natCast_mul]; rcases ht with h | h <;> omega)
                  go_wp2
                  go_roundg k2
                  case measure => omega
                  case rel => exact ⟨dv2, ev2, rfl, rfl, hk2, ⟨hN⟩, ⟨by repeat (first | exact HD | exact Drawn0.refl _ | apply Drawn0.step)⟩⟩
            · obtain ⟨h1, h2⟩ : ¬ (4294967296 ≤ qv2) ∧ ¬ (rv2 * 4294967296 + x0 < qv2 * y0) := ⟨fun h => ht (Or.inl h), fun h => ht (Or.inr h)⟩
              have hD := kn_fits2 HB2.out HK.out h2
              have m7 : decide (4294967296 ≤ (qv2 : Int)) = false := decide_eq_false (by omega)
              have m8 : decide (4294967296 * (rv2 : Int) + (x0 : Int) < (qv2 : Int) * (y0 : Int)) = false := decide_eq_false (by rw [← Int.natCast_mul]; omega)
              clear h1 h2 ht
              have hDD : qv2 = (V * 4294967296 + x0) / Y := hD.trans (by rw [HYY.out])
              have n5 := w_rest (u := V) (x := x0) (Y := Y) (q := qv2) Ypos n4 hDD
              obtain ⟨e1, e2⟩ := kn_whole (by omega) (by omega) HY.out.1 HU.out HY.out.2.1 HX.out.1 HX.out.2 HD1.out HV.out hDD
              obtain ⟨Z, hZ⟩ : ∃ Z, (V * 4294967296 + x0) % Y = Z := ⟨_, rfl⟩
              rw [hZ] at n5 e2
              rw [HR.out.1] at e1
              rw [HR.out.2] at e2
              have n6 : (Z : Int) / 2 ^ s = (RR : Int) := by rw [cast_shr, e2, Nat.mul_div_cancel _ (Nat.two_pow_pos s)]
              have n7 : IntKind.u64.wrap (IntKind.u64.wrap ((dv1 : Int) * 4294967296) + (qv2 : Int)) = (RQ : Int) := w_two e1 HR3.out
              have n8 : IntKind.u64.wrap ((dv1 : Int) * 4294967296 + (qv2 : Int)) = (RQ : Int) := w_two2 e1 HR3.out
              clear hD hDD e1 e2 hZ
              go_wp2
              go_ret2
              exact ⟨by first | rfl | (simp [*]; done), by repeat (first | exact HD | exact Drawn0.refl _ | apply Drawn0.step)⟩
      · have hN := kn_next HB1.out HK.out ht hr
        have m6 : decide (4294967296 ≤ ((rv1 + y1 : Nat) : Int)) = false := decide_eq_false (by omega)
        have m6' : decide (4294967296 ≤ (rv1 : Int) + (y1 : Int)) = false := decide_eq_false (by omega)
        obtain ⟨k2, rfl⟩ : ∃ k2, gk = k2 + 1 := ⟨gk - 1, by omega⟩
        have hk2 : qv1 - 1 < k2 := by omega
        obtain ⟨dv1, hd⟩ : ∃ dv1, qv1 - 1 = dv1 := ⟨_, rfl⟩
        obtain ⟨ev1, he⟩ : ∃ ev1, rv1 + y1 = ev1 := ⟨_, rfl⟩
        rw [hd] at m4 hN hk2
        rw [he] at m5 m6 hN
        clear hd he
        by_cases hq : 4294967296 ≤ qv1
        · have m7 : decide (4294967296 ≤ (qv1 : Int)) = true := decide_eq_true (by omega)
          go_wp2
          go_roundg k2
          case measure => omega
          case rel => exact ⟨dv1, ev1, rfl, rfl, hk2, ⟨hN⟩, ⟨by repeat (first | exact HD | exact Drawn0.refl _ | apply Drawn0.step)⟩⟩
        · have m7 : decide (4294967296 ≤ (qv1 : Int)) = false := decide_eq_false (by omega)
          have m8 : decide (4294967296 * (rv1 : Int) + (x1 : Int) < (qv1 : Int) * (y0 : Int)) = true := decide_eq_true (by rw [← Int.natCast_mul]; rcases ht with h | h <;> omega)
          go_wp2
          go_roundg k2
          case measure => omega
          case rel => exact ⟨dv1, ev1, rfl, rfl, hk2, ⟨hN⟩, ⟨by repeat (first | exact HD | exact Drawn0.refl _ | apply Drawn0.step)⟩⟩
    · obtain ⟨h1, h2⟩ : ¬ (4294967296 ≤ qv1) ∧ ¬ (rv1 * 4294967296 + x1 < qv1 * y0) := ⟨fun h => ht (Or.inl h), fun h => ht (Or.inr h)⟩
      have hD := kn_fits2 HB1.out HK.out h2
      have m7 : decide (4294967296 ≤ (qv1 : Int)) = false := decide_eq_false (by omega)
      have m8 : decide (4294967296 * (rv1 : Int) + (x1 : Int) < (qv1 : Int) * (y0 : Int)) = false := decide_eq_false (by rw [← Int.natCast_mul]; omega)
      clear h1 h2 ht
      have hDD : qv1 = (U * 4294967296 + x1) / Y := hD.trans (by rw [HYY.out])
      have rr1 := w_rest (u := U) (x := x1) (Y := Y) (q := qv1) Ypos n4 hDD
      have hd1 := kn_digit U x1 Y HLT.out.1 HB1.out.2.2.2.2
      rw [← hDD] at hd1
      obtain ⟨V, hV⟩ : ∃ V, (U * 4294967296 + x1) % Y = V := ⟨_, rfl⟩
      have hVlt : V < Y := by rw [← hV]; exact Nat.mod_lt _ Ypos
      rw [hV] at rr1
      have HV : Aside0 (V = (U * 4294967296 + x1) % Y) := ⟨hV.symm⟩
      have HD1 := Aside0.mk hDD
      have HB2 : Aside0 (KnB y1 y0 V x0) := ⟨by have := HB1.out; have := HX0.out; have := HYY.out; unfold KnB at *; omega⟩
      clear hD hDD hV
      have HK2 := Aside0.mk (kn_start HB2.out)
      have j52 : (V : Int).tdiv (y1 : Int) = ((V / y1 : Nat) : Int) := by rw [Int.tdiv_eq_ediv_of_nonneg (by omega), ← Int.natCast_ediv]
      have j62 := w_first V y1
      have j82 := w_mul (V / y1) y1 (Nat.lt_of_le_of_lt (Nat.div_mul_le_self V y1) (by omega))
      have j02 : (V : Int) / (y1 : Int) = ((V / y1 : Nat) : Int) := by rw [← Int.natCast_ediv]
      obtain ⟨Q2, hQ2⟩ : ∃ Q, V / y1 = Q := ⟨_, rfl⟩
      obtain ⟨R2, hR2⟩ : ∃ R, V % y1 = R := ⟨_, rfl⟩
      rw [hQ2] at j52 j62 j82 j02 HK2
      rw [hR2] at j62 HK2
      clear hQ2 hR2
      have j72 : IntKind.u64.wrap (Q2 : Int) = (Q2 : Int) := wraps_u64 _ (by omega) (by have := HK2.out.2.2.1; omega)
      have j92 : IntKind.u64.wrap (R2 : Int) = (R2 : Int) := wraps_u64 _ (by omega) (by have := HK2.out.2.2.2; omega)
      go_wp2
      go_loopg [16, 18] F (fun kq v16 v18 w' => ∃ q r : Nat, v18 = .int .u64 (q : Int) ∧ v16 = .int .u64 (r : Int) ∧ q < kq ∧ Aside0 (Kn y1 y0 V x0 q r) ∧ Aside0 (Drawn0 w10 w'))
      case atStart => exact ⟨Q2, R2, rfl, rfl, by have := HK2.out.2.2.1; have := HF.out; omega, HK2, ⟨by repeat (first | exact HD | exact Drawn0.refl _ | apply Drawn0.step)⟩⟩
      case round =>
        obtain ⟨qv2, rv2, rfl, rfl, hk, HK, HDn⟩ := hrel
        clear HD
        have HD := HDn.out
        clear HDn
        obtain ⟨b2, k3, k4⟩ : Aside0 (y1 < 4294967296) ∧ qv2 ≤ 4294967297 ∧ rv2 < 4294967296 := ⟨⟨HB2.out.2.1⟩, HK.out.2.2.1, HK.out.2.2.2⟩
        have m1 : IntKind.u64.wrap ((qv2 : Int) * (y0 : Int)) = (qv2 : Int) * (y0 : Int) := w_mul qv2 y0 (kn_ybound k3 HB2.out.2.2.1)
        have m2 : IntKind.u64.wrap (4294967296 * (rv2 : Int)) = 4294967296 * (rv2 : Int) := wraps_u64 _ (by omega) (by omega)
        have m3 : IntKind.u64.wrap (4294967296 * (rv2 : Int) + (x0 : Int)) = 4294967296 * (rv2 : Int) + (x0 : Int) := wraps_u64 _ (by have := HB2.out.2.2.2.2; omega) (by have := HB2.out.2.2.2.2; omega)
        by_cases ht : 4294967296 ≤ qv2 ∨ rv2 * 4294967296 + x0 < qv2 * y0
        · have hl := kn_less HB2.out HK.out ht
          have hq1 : 1 ≤ qv2 := hl.1
          have HL := Aside0.mk hl
          clear hl
          have m4 : IntKind.u64.wrap ((qv2 : Int) - 1) = ((qv2 - 1 : Nat) : Int) := by rw [wraps_u64 _ (by omega) (by omega)]; omega
          have m5 : IntKind.u64.wrap ((rv2 : Int) + (y1 : Int)) = ((rv2 + y1 : Nat) : Int) := by have := b2.out; rw [wraps_u64 _ (by omega) (by omega)]; omega
          by_cases hr : 4294967296 ≤ rv2 + y1
          · have hD := kn_stop HB2.out HK.out ht hr
            have m6 : decide (4294967296 ≤ ((rv2 + y1 : Nat) : Int)) = true := decide_eq_true (by omega)
            have m6' : decide (4294967296 ≤ (rv2 : Int) + (y1 : Int)) = true := decide_eq_true (by omega)
            obtain ⟨dv2, hd⟩ : ∃ dv2, qv2 - 1 = dv2 := ⟨_, rfl⟩
            rw [hd] at m4 hD
            clear hd
            by_cases hq : 4294967296 ≤ qv2
            · have m7 : decide (4294967296 ≤ (qv2 : Int)) = true := decide_eq_true (by omega)
              have hDD : dv2 = (V * 4294967296 + x0) / Y := hD.trans (by rw [HYY.out])
              have n5 := w_rest (u := V) (x := x0) (Y := Y) (q := dv2) Ypos n4 hDD
              obtain ⟨e1, e2⟩ := kn_whole (by omega) (by omega) HY.out.1 HU.out HY.out.2.1 HX.out.1 HX.out.2 HD1.out HV.out hDD
              obtain ⟨Z, hZ⟩ : ∃ Z, (V * 4294967296 + x0) % Y = Z := ⟨_, rfl⟩
              rw [hZ] at n5 e2
              rw [HR.out.1] at e1
              rw [HR.out.2] at e2
              have n6 : (Z : Int) / 2 ^ s = (RR : Int) := by rw [cast_shr, e2, Nat.mul_div_cancel _ (Nat.two_pow_pos s)]
              have n7 : IntKind.u64.wrap (IntKind.u64.wrap ((qv1 : Int) * 4294967296) + (dv2 : Int)) = (RQ : Int) := w_two e1 HR3.out
              have n8 : IntKind.u64.wrap ((qv1 : Int) * 4294967296 + (dv2 : Int)) = (RQ : Int) := w_two2 e1 HR3.out
              clear hD hDD e1 e2 hZ
              go_wp2
              go_ret2
              exact ⟨by first | rfl | (simp [*]; done), by repeat (first | exact HD | exact Drawn0.refl _ | apply Drawn0.step)⟩
            · have m7 : decide (4294967296 ≤ (qv2 : Int)) = false := decide_eq_false (by omega)
              have m8 : decide (4294967296 * (rv2 : Int) + (x0 : Int) < (qv2 : Int) * (y0 : Int)) = true := decide_eq_true (by rw [← Int.natCast_mul]; rcases ht with h | h <;> omega)
              have hDD : dv2 = (V * 4294967296 + x0) / Y := hD.trans (by rw [HYY.out])
              have n5 := w_rest (u := V) (x := x0) (Y := Y) (q := dv2) Ypos n4 hDD
              obtain ⟨e1, e2⟩ := kn_whole (by omega) (by omega) HY.out.1 HU.out HY.out.2.1 HX.out.1 HX.out.2 HD1.out HV.out hDD
              obtain ⟨Z, hZ⟩ : ∃ Z, (V * 4294967296 + x0) % Y = Z := ⟨_, rfl⟩
              rw [hZ] at n5 e2
              rw [HR.out.1] at e1
              rw [HR.out.2] at e2
              have n6 : (Z : Int) / 2 ^ s = (RR : Int) := by rw [cast_shr, e2, Nat.mul_div_cancel _ (Nat.two_pow_pos s)]
              have n7 : IntKind.u64.wrap (IntKind.u64.wrap ((qv1 : Int) * 4294967296) + (dv2 : Int)) = (RQ : Int) := w_two e1 HR3.out
              have n8 : IntKind.u64.wrap ((qv1 : Int) * 4294967296 + (dv2 : Int)) = (RQ : Int) := w_two2 e1 HR3.out
              clear hD hDD e1 e2 hZ
              go_wp2
              go_ret2
              exact ⟨by first | rfl | (simp [*]; done), by repeat (first | exact HD | exact Drawn0.refl _ | apply Drawn0.step)⟩
          · have hN := kn_next HB2.out HK.out ht hr
            have m6 : decide (4294967296 ≤ ((rv2 + y1 : Nat) : Int)) = false := decide_eq_false (by omega)
            have m6' : decide (4294967296 ≤ (rv2 : Int) + (y1 : Int)) = false := decide_eq_false (by omega)
            obtain ⟨k2, rfl⟩ : ∃ k2, gk = k2 + 1 := ⟨gk - 1, by omega⟩
            have hk2 : qv2 - 1 < k2 := by omega
            obtain ⟨dv2, hd⟩ : ∃ dv2, qv2 - 1 = dv2 := ⟨_, rfl⟩
            obtain ⟨ev2, he⟩ : ∃ ev2, rv2 + y1 = ev2 := ⟨_, rfl⟩
            rw [hd] at m4 hN hk2
            rw [he] at m5 m6 hN
            clear hd he
            by_cases hq : 4294967296 ≤ qv2
            · have m7 : decide (4294967296 ≤ (qv2 : Int)) = true := decide_eq_true (by omega)
              go_wp2
              go_roundg k2
              case measure => omega
              case rel => exact ⟨dv2, ev2, rfl, rfl, hk2, ⟨hN⟩, ⟨by repeat (first | exact HD | exact Drawn0.refl _ | apply Drawn0.step)⟩⟩
            · have m7 : decide (4294967296 ≤ (qv2 : Int)) = false := decide_eq_false (by omega)
              have m8 : decide (4294967296 * (rv2 : Int) + (x0 : Int) < (qv2 : Int) * (y0 : Int)) = true := decide_eq_true (by rw [← Int.natCast_mul]; rcases ht with h | h <;> omega)
              go_wp2
              go_roundg k2
              case measure => omega
              case rel => exact ⟨dv2, ev2, rfl, rfl, hk2, ⟨hN⟩, ⟨by repeat (first | exact HD | exact Drawn0.refl _ | apply Drawn0.step)⟩⟩
        · obtain ⟨h1, h2⟩ : ¬ (4294967296 ≤ qv2) ∧ ¬ (rv2 * 4294967296 + x0 < qv2 * y0) := ⟨fun h => ht (Or.inl h), fun h => ht (Or.inr h)⟩
          have hD := kn_fits2 HB2.out HK.out h2
          have m7 : decide (4294967296 ≤ (qv2 : Int)) = false := decide_eq_false (by omega)
          have m8 : decide (4294967296 * (rv2 : Int) + (x0 : Int) < (qv2 : Int) * (y0 : Int)) = false := decide_eq_false (by rw [← Int.natCast_mul]; omega)
          clear h1 h2 ht
          have hDD : qv2 = (V * 4294967296 + x0) / Y := hD.trans (by rw [HYY.out])
          have n5 := w_rest (u := V) (x := x0) (Y := Y) (q := qv2) Ypos n4 hDD
          obtain ⟨e1, e2⟩ := kn_whole (by omega) (by omega) HY.out.1 HU.out HY.out.2.1 HX.out.1 HX.out.2 HD1.out HV.out hDD
          obtain ⟨Z, hZ⟩ : ∃ Z, (V * 4294967296 + x0) % Y = Z := ⟨_, rfl⟩
          rw [hZ] at n5 e2
          rw [HR.out.1] at e1
          rw [HR.out.2] at e2
          have n6 : (Z : Int) / 2 ^ s = (RR : Int) := by rw [cast_shr, e2, Nat.mul_div_cancel _ (Nat.two_pow_pos s)]
          have n7 : IntKind.u64.wrap (IntKind.u64.wrap ((qv1 : Int) * 4294967296) + (qv2 : Int)) = (RQ : Int) := w_two e1 HR3.out
          have n8 : IntKind.u64.wrap ((qv1 : Int) * 4294967296 + (qv2 : Int)) = (RQ : Int) := w_two2 e1 HR3.out
          clear hD hDD e1 e2 hZ
          go_wp2
          go_ret2
          exact ⟨by first | rfl | (simp [*]; done), by repeat (first | exact HD | exact Drawn0.refl _ | apply Drawn0.step)⟩
end Go.Proofs.YtkcncfikejepdaaDoor.Ext
namespace Go.Proofs.YtkcncfikejepdaaDoor.Ext
open Go.RowKit Go.Lib Go.Proofs.YtkcncfikejepdaaDoorW.PrintWords Go.Proofs.YtkcncfikejepdaaDoorW.PrintLast Go.Proofs.YtkcncfikejepdaaDoorW.PrintMore Go.Proofs.YtkcncfikejepdaaDoor.EFxA Go.Proofs.YtkcncfikejepdaaDoor.EFix
attribute [local go_sem] max2_int min2_int max_two min_two max_three min_three max_four min_four
set_option linter.unusedVariables false
set_option linter.unusedSimpArgs false
theorem top_e {hi lo x1 x0 V : Nat} (hx1 : lo / 4294967296 = x1) (hx0 : lo % 4294967296 = x0) (hV : hi * 4294967296 + x1 = V) : V * 4294967296 + x0 = hi * 18446744073709551616 + lo := by
  have h := Nat.div_add_mod lo 4294967296
  rw [hx1, hx0] at h
  clear hx1 hx0
  subst hV
  rw [Nat.add_mul, Nat.mul_assoc]
  omega
set_option maxHeartbeats 4000000 in
set_option maxRecDepth 100000 in
/-- at the divisor 2^63, moved by no place -/
theorem div64_top (hi lo : Nat) (h0 : 0 < hi) (h1 : hi < 10000) (hlo : lo < 18446744073709551616) (w : World) :
    Calls Tryd.prog 34 #[.int .u64 (hi : Int), .int .u64 (lo : Int), .int .u64 9223372036854775808] w fun e w' => e = .returned (.tuple #[.int .u64 (((hi * 18446744073709551616 + lo) / 9223372036854775808 : Nat) : Int), .int .u64 (((hi * 18446744073709551616 + lo) % 9223372036854775808 : Nat) : Int)]) ∧ Drawn0 w w' := by
  have hlz := fun w => Go.Proofs.Tryd.bits_LeadingZeros64 9223372036854775808 w (by omega) (by omega)
  have hb : (64 : Int) - ((Lib.bitLen (9223372036854775808 : Int).toNat : Nat) : Int) = 0 := by decide +kernel
  rw [hb] at hlz
  clear hb
  have k1 : decide (9223372036854775808 ≤ (hi : Int)) = false := decide_eq_false (by omega)
  have k2 : ((hi : Int) == 0) = false := beq_eq_false_iff_ne.2 (by omega)
  have k2' : decide ((hi : Int) = 0) = false := decide_eq_false (by omega)
  have f0 : ((hi : Int) = 0) = False := eq_false (by omega)
  obtain ⟨x1, hx1⟩ : ∃ a, lo / 4294967296 = a := ⟨_, rfl⟩
  obtain ⟨x0, hx0⟩ : ∃ a, lo % 4294967296 = a := ⟨_, rfl⟩
  have j3 : (lo : Int) / 4294967296 = (x1 : Int) := by omega
  have j4 : bits .and .u64 (lo : Int) 4294967295 = (x0 : Int) := by rw [and_32 _ (by omega) (by omega)]; omega
  have j5 : bits .or .u64 (hi : Int) 0 = (hi : Int) := by have := or_shift hi 0 0 (by omega) (by omega) (by decide); simpa using this
  have m0 : (lo : Int) / 18446744073709551616 = 0 := by omega
  have m1 : bits .and .u64 9223372036854775808 4294967295 = 0 := by rw [and_32 _ (by omega) (by omega)]; rfl
  have m2 : (hi : Int).tdiv 2147483648 = 0 := by rw [Int.tdiv_eq_ediv_of_nonneg (by omega)]; omega
  have m3 : IntKind.u64.wrap (hi : Int) = (hi : Int) := wraps_u64 _ (by omega) (by omega)
  have m4 : IntKind.u64.wrap (4294967296 * (hi : Int)) = 4294967296 * (hi : Int) := wraps_u64 _ (by omega) (by omega)
  have m5 : IntKind.u64.wrap (4294967296 * (hi : Int) + (x1 : Int)) = 4294967296 * (hi : Int) + (x1 : Int) := wraps_u64 _ (by omega) (by omega)
  have m6 : decide (4294967296 * (hi : Int) + (x1 : Int) < 0) = false := decide_eq_false (by omega)
  obtain ⟨V, hV⟩ : ∃ V, hi * 4294967296 + x1 = V := ⟨_, rfl⟩
  have e : V * 4294967296 + x0 = hi * 18446744073709551616 + lo := top_e hx1 hx0 hV
  have m7 : IntKind.u64.wrap ((hi : Int) * 4294967296) = (hi : Int) * 4294967296 := wraps_u64 _ (by omega) (by omega)
  have m8 : IntKind.u64.wrap ((hi : Int) * 4294967296 + (x1 : Int)) = (V : Int) := by rw [wraps_u64 _ (by omega) (by omega)]; omega
  have m9 : IntKind.u64.wrap (V : Int) = (V : Int) := wraps_u64 _ (by omega) (by omega)
  obtain ⟨Q0, hQ0⟩ : ∃ Q, V / 2147483648 = Q := ⟨_, rfl⟩
  obtain ⟨R0, hR0⟩ : ∃ R, V % 2147483648 = R := ⟨_, rfl⟩
  have t0 : (V : Int).tdiv 2147483648 = (Q0 : Int) := by rw [Int.tdiv_eq_ediv_of_nonneg (by omega)]; omega
  have t1 : IntKind.u64.wrap (Q0 : Int) = (Q0 : Int) := wraps_u64 _ (by omega) (by omega)
  have t2 : IntKind.u64.wrap ((Q0 : Int) * 2147483648) = (Q0 : Int) * 2147483648 := wraps_u64 _ (by omega) (by omega)
  have t3 : (V : Int) - (Q0 : Int) * 2147483648 = (R0 : Int) := by omega
  have t4 : IntKind.u64.wrap (R0 : Int) = (R0 : Int) := wraps_u64 _ (by omega) (by omega)
  have t5 : decide (4294967296 ≤ (Q0 : Int)) = false := decide_eq_false (by omega)
  have t6 : IntKind.u64.wrap (4294967296 * (R0 : Int)) = 4294967296 * (R0 : Int) := wraps_u64 _ (by omega) (by omega)
  have t7 : IntKind.u64.wrap (4294967296 * (R0 : Int) + (x0 : Int)) = 4294967296 * (R0 : Int) + (x0 : Int) := wraps_u64 _ (by omega) (by omega)
  have t8 : decide (4294967296 * (R0 : Int) + (x0 : Int) < 0) = false := decide_eq_false (by omega)
  have res : (hi * 18446744073709551616 + lo) / 9223372036854775808 = Q0 := by rw [← e]; clear e; omega
  have res2 : IntKind.u64.wrap (IntKind.u64.wrap (IntKind.u64.wrap ((V : Int) * 4294967296) + (x0 : Int)) - IntKind.u64.wrap ((Q0 : Int) * 9223372036854775808)) = (((hi * 18446744073709551616 + lo) % 9223372036854775808 : Nat) : Int) := by
    have r := w_rest (u := V) (x := x0) (q := Q0) (Y := 9223372036854775808) (by omega) (by omega) (by rw [e]; exact res.symm)
    rw [e] at r
    exact r
  obtain ⟨RR, hRR⟩ : ∃ a, (hi * 18446744073709551616 + lo) % 9223372036854775808 = a := ⟨_, rfl⟩
  rw [hRR] at res2
  rw [res, hRR]
  clear e hV hQ0 hR0 hx1 hx0 res hRR
  go_enter Tryd.func34, Tryd.ntmps34
  go_upto_block 0 with (first | ((with_reducible refine gate_callee (f := 46) rfl ?_); refine goesL_ (some 35) rfl rfl Tryd.func46 (by kernel_rfl) rfl #[.int .u64 9223372036854775808] rfl (by (try simp only [List.map_toArray, List.map_cons, List.map_nil]); first | done | rfl) ?_; (refine (hlz _).mono ?_); rintro e w10 ⟨rfl, rfl⟩; refine ⟨_, rfl, ?_⟩))
  go_wp2
  go_loopg [15, 16] 1 (fun kq v15 v16 w' => v15 = .int .u64 0 ∧ v16 = .int .u64 (hi : Int) ∧ Drawn0 w10 w')
  case atStart => exact ⟨by first | rfl | (simp [*]; done), by first | rfl | (simp [*]; done), by repeat (first | exact Drawn0.refl _ | apply Drawn0.step)⟩
  case round =>
    obtain ⟨rfl, rfl, HD⟩ := hrel
    go_wp2
    go_loopg [16, 18] 1 (fun kq v16 v18 w' => v16 = .int .u64 (R0 : Int) ∧ v18 = .int .u64 (Q0 : Int) ∧ Drawn0 w10 w')
    case atStart => exact ⟨by first | rfl | (simp [*]; done), by first | rfl | (simp [*]; done), by repeat (first | exact HD | exact Drawn0.refl _ | apply Drawn0.step)⟩
    case round =>
      obtain ⟨rfl, rfl, HD⟩ := hrel
      go_wp2
      go_ret2
      exact ⟨by first | rfl | (simp [res2]; done) | (simp [*]; done), by repeat (first | exact HD | exact Drawn0.refl _ | apply Drawn0.step)⟩
theorem div64_calls (hi lo y : Nat) (h0 : 0 < hi) (h1 : hi < y) (h2 : hi < 10000) (hy : y ≤ 9223372036854775808) (hlo : lo < 18446744073709551616) (w : World) :
    Calls Tryd.prog 34 #[.int .u64 (hi : Int), .int .u64 (lo : Int), .int .u64 (y : Int)] w fun e w' => e = .returned (.tuple #[.int .u64 (((hi * 18446744073709551616 + lo) / y : Nat) : Int), .int .u64 (((hi * 18446744073709551616 + lo) % y : Nat) : Int)]) ∧ Drawn0 w w' := by
  by_cases c : Lib.bitLen y < 64
  · exact div64_gen hi lo y h0 c h1 (by omega) hlo w
  · obtain ⟨n1, n2, n3, n4⟩ := norm_y y (by omega) (by omega)
    have e : Lib.bitLen y = 64 := by omega
    rw [e] at n3
    have ey : y = 9223372036854775808 := by omega
    subst ey
    exact div64_top hi lo h0 h2 hlo w
set_option maxHeartbeats 8000000 in
set_option maxRecDepth 100000 in
theorem div_calls (a b : Int) (ha : -9223372036854775808 ≤ a ∧ a ≤ 9223372036854775807) (hb : -9223372036854775808 ≤ b ∧ b ≤ 9223372036854775807) (w : World) :
    Calls Tryd.prog 12 #[.int .i64 a, .int .i64 b] w fun e w' => e = .returned (.tuple #[.int .i64 (divS a b).1, .bool (divS a b).2]) ∧ Drawn0 w w' := by
  by_cases c : b.natAbs = 0 ∨ a.natAbs * 10000 / 18446744073709551616 = 0 ∨ b.natAbs = 10000
  · have h := div_f a b ha.1 ha.2 hb.1 hb.2 c
    exact fixnum_Div.calls a b _ _ w h
  · have A1 := Aside0.mk (abs_f a ha.1 ha.2)
    have A2 := Aside0.mk (abs_f b hb.1 hb.2)
    have hm := mul64_f a.natAbs 10000 (by omega) (by omega)
    have hu : a.natAbs ≤ 9223372036854775808 := by omega
    have hv : b.natAbs ≤ 9223372036854775808 := by omega
    obtain ⟨R, hR⟩ : ∃ R, divS a b = R := ⟨_, rfl⟩
    rw [hR]
    unfold divS at hR
    obtain ⟨n, hn⟩ : ∃ n, decide (a < 0) = n := ⟨_, rfl⟩
    obtain ⟨m, hmm⟩ : ∃ n, decide (b < 0) = n := ⟨_, rfl⟩
    rw [hn] at A1 hR
    rw [hmm] at A2 hR
    obtain ⟨x, hx⟩ : ∃ x, a.natAbs = x := ⟨_, rfl⟩
    obtain ⟨y, hy⟩ : ∃ x, b.natAbs = x := ⟨_, rfl⟩
    rw [hx] at A1 hm hu hR c
    rw [hy] at A2 hv hR c
    clear hn hmm hx hy
    have hlo : x * 10000 % 18446744073709551616 < 18446744073709551616 := Nat.mod_lt _ (by decide)
    have hH : x * 10000 / 18446744073709551616 < 10000 := by omega
    have e := Nat.div_add_mod (x * 10000) 18446744073709551616
    obtain ⟨hi, hhi⟩ : ∃ h, x * 10000 / 18446744073709551616 = h := ⟨_, rfl⟩
    obtain ⟨lo, hlo'⟩ : ∃ h, x * 10000 % 18446744073709551616 = h := ⟨_, rfl⟩
    rw [hhi] at hm hR c hH e
    rw [hlo'] at hm hlo e
    rw [show ((10000 : Nat) : Int) = 10000 from rfl] at hm
    have A3 := Aside0.mk hm
    clear hm hhi hlo'
    by_cases d : y ≤ hi
    · rw [if_pos d] at hR
      have d1 : decide ((y : Int) ≤ (hi : Int)) = true := decide_eq_true (by omega)
      subst hR
      clear e c
      go_enter Tryd.func12, Tryd.ntmps12
      go_wp2_with (first
        | ((with_reducible refine gate_callee (f := 32) rfl ?_); refine goesL_ (some 16) rfl rfl Tryd.func32 (by kernel_rfl) rfl #[.int .i64 a] rfl (by (try simp only [List.map_toArray, List.map_cons, List.map_nil]); first | done | rfl) ?_; (refine (fixnum_abs.calls a x n _ A1.out).mono ?_); rintro e w' ⟨rfl, ⟨nd, rfl⟩⟩; refine ⟨_, rfl, ?_⟩)
        | ((with_reducible refine gate_callee (f := 32) rfl ?_); refine goesL_ (some 21) rfl rfl Tryd.func32 (by kernel_rfl) rfl #[.int .i64 b] rfl (by (try simp only [List.map_toArray, List.map_cons, List.map_nil]); first | done | rfl) ?_; (refine (fixnum_abs.calls b y m _ A2.out).mono ?_); rintro e w' ⟨rfl, ⟨nd, rfl⟩⟩; refine ⟨_, rfl, ?_⟩)
        | ((with_reducible refine gate_callee (f := 33) rfl ?_); refine goesL_ (some 26) rfl rfl Tryd.func33 (by kernel_rfl) rfl #[.int .u64 (x : Int), .int .u64 10000] rfl (by (try simp only [List.map_toArray, List.map_cons, List.map_nil]); first | done | rfl) ?_; (refine (mul64.calls x 10000 hi lo _ A3.out).mono ?_); rintro e w' ⟨rfl, ⟨nd, rfl⟩⟩; refine ⟨_, rfl, ?_⟩))
      go_ret2
      exact ⟨by first | rfl | (simp; done) | (simp [*]; done), by repeat (first | exact Drawn0.refl _ | apply Drawn0.step)⟩
    · rw [if_neg d] at hR
      have d1 : decide ((y : Int) ≤ (hi : Int)) = false := decide_eq_false (by omega)
      have e2 : hi * 18446744073709551616 + lo = x * 10000 := by omega
      have hd := fun w => div64_calls hi lo y (by omega) (by omega) hH hv hlo w
      rw [e2] at hd
      have hq : x * 10000 / y < 18446744073709551616 := by
        rw [Nat.div_lt_iff_lt_mul (by omega)]
        have : (hi + 1) * 18446744073709551616 ≤ 18446744073709551616 * y := by rw [Nat.mul_comm]; exact Nat.mul_le_mul_left _ (by omega)
        omega
      have hs := signed3_f (x * 10000 / y) (n != m) hq
      rw [hR] at hs
      obtain ⟨q, hqq⟩ : ∃ q, x * 10000 / y = q := ⟨_, rfl⟩
      rw [hqq] at hd hs
      obtain ⟨rm, hrm⟩ : ∃ q, x * 10000 % y = q := ⟨_, rfl⟩
      rw [hrm] at hd
      obtain ⟨r1, r2⟩ := R
      have HD := Aside0.mk hd
      have A5 := Aside0.mk hs
      clear hd hs hqq hrm hR e2 e c hq
      go_enter Tryd.func12, Tryd.ntmps12
      go_wp2_with (first
        | ((with_reducible refine gate_callee (f := 32) rfl ?_); refine goesL_ (some 16) rfl rfl Tryd.func32 (by kernel_rfl) rfl #[.int .i64 a] rfl (by (try simp only [List.map_toArray, List.map_cons, List.map_nil]); first | done | rfl) ?_; (refine (fixnum_abs.calls a x n _ A1.out).mono ?_); rintro e w' ⟨rfl, ⟨nd, rfl⟩⟩; refine ⟨_, rfl, ?_⟩)
        | ((with_reducible refine gate_callee (f := 32) rfl ?_); refine goesL_ (some 21) rfl rfl Tryd.func32 (by kernel_rfl) rfl #[.int .i64 b] rfl (by (try simp only [List.map_toArray, List.map_cons, List.map_nil]); first | done | rfl) ?_; (refine (fixnum_abs.calls b y m _ A2.out).mono ?_); rintro e w' ⟨rfl, ⟨nd, rfl⟩⟩; refine ⟨_, rfl, ?_⟩)
        | ((with_reducible refine gate_callee (f := 33) rfl ?_); refine goesL_ (some 26) rfl rfl Tryd.func33 (by kernel_rfl) rfl #[.int .u64 (x : Int), .int .u64 10000] rfl (by (try simp only [List.map_toArray, List.map_cons, List.map_nil]); first | done | rfl) ?_; (refine (mul64.calls x 10000 hi lo _ A3.out).mono ?_); rintro e w' ⟨rfl, ⟨nd, rfl⟩⟩; refine ⟨_, rfl, ?_⟩)
        | ((with_reducible refine gate_callee (f := 34) rfl ?_); refine goesL_ (some 36) rfl rfl Tryd.func34 (by kernel_rfl) rfl #[.int .u64 (hi : Int), .int .u64 (lo : Int), .int .u64 (y : Int)] rfl (by (try simp only [List.map_toArray, List.map_cons, List.map_nil]); first | done | rfl) ?_; (refine (HD.out _).mono ?_); rintro e w' ⟨rfl, ⟨nd, rfl⟩⟩; refine ⟨_, rfl, ?_⟩)
        | ((with_reducible refine gate_callee (f := 35) rfl ?_); refine goesL_ (some 43) rfl rfl Tryd.func35 (by kernel_rfl) rfl #[.int .u64 (q : Int), .bool (n != m)] rfl (by (try simp only [List.map_toArray, List.map_cons, List.map_nil]); first | done | rfl) ?_; (refine (signed3.calls q (n != m) r1 r2 _ A5.out).mono ?_); rintro e w' ⟨rfl, ⟨nd, rfl⟩⟩; refine ⟨_, rfl, ?_⟩))
      go_ret2
      exact ⟨by first | rfl | (simp; done) | (simp [*]; done), by repeat (first | exact Drawn0.refl _ | apply Drawn0.step)⟩
set_option maxHeartbeats 1600000 in
set_option maxRecDepth 100000 in
theorem refDiv_zero (a : Int) (ha : -9223372036854775808 ≤ a ∧ a ≤ 9223372036854775807) (w : World) :
    Calls Tryd.prog 24 #[.int .i64 a, .int .i64 0] w fun e w' => e = .returned (.tuple #[.int .i64 (divS a 0).1, .bool (divS a 0).2]) ∧ Below w.heap.size w w' := by
  have e : divS a 0 = (0, false) := by unfold divS; rw [if_pos (by simp)]
  rw [e]
  go_enter Tryd.func24, Tryd.ntmps24
  go_wp2
  go_ret2
  exact ⟨by first | rfl | (simp; done) | (simp [*]; done), by repeat (first | exact Below.refl _ _ | apply below_drew1 | exact Below.drew (Below.refl _ _))⟩
theorem refDiv_all (a b : Int) (ha : -9223372036854775808 ≤ a ∧ a ≤ 9223372036854775807) (hb : -9223372036854775808 ≤ b ∧ b ≤ 9223372036854775807) (w : World) :
    Calls Tryd.prog 24 #[.int .i64 a, .int .i64 b] w fun e w' => e = .returned (.tuple #[.int .i64 (divS a b).1, .bool (divS a b).2]) ∧ Below w.heap.size w w' := by
  by_cases c : b = 0
  · subst c; exact refDiv_zero a ha w
  · exact refDiv_calls a b ha hb c w
end Go.Proofs.YtkcncfikejepdaaDoor.Ext
