-- Written by extprint.py (wip/tools) out of the translation; Lean checks it.
import Derived.Test.YtfnbflhoaemmeaaGreatDoorEFix1
import Derived.Test.YtfnbflhoaemmeaaGreatDoorEFix0
namespace Go.Proofs.YtfnbflhoaemmeaaGreatDoor.EFix
open Go.RowKit Go.Proofs.YtfnbflhoaemmeaaGreatDoor.Ext Go.Proofs.YtfnbflhoaemmeaaGreatDoor.EFxA Go.Proofs.YtfnbflhoaemmeaaGreatDoorW.PrintWords Go.Proofs.YtfnbflhoaemmeaaGreatDoorW.PrintLast Go.Proofs.YtfnbflhoaemmeaaGreatDoorW.PrintMore
attribute [local go_sem] max2_int min2_int max_two min_two max_three min_three max_four min_four   -- for this text's walks alone
set_option linter.unusedVariables false
set_option linter.unusedSimpArgs false

/-! ### counterpaneref1_abs: function 79 -/
def counterpaneref1_abs.f (a0 : Int) : Option (Int) := if a0 < 0 then (some (IntKind.u64.wrap ((IntKind.u64.wrap (wrap64 (-(wrap64 (a0 + 1))))) + 1))) else (some (IntKind.u64.wrap (a0)))
set_option maxHeartbeats 8000000 in
set_option maxRecDepth 100000 in
theorem counterpaneref1_abs.calls (a0 : Int) (r : Int) (w : World) (h : counterpaneref1_abs.f a0 = some r) :
  Calls Tryz.prog 79 #[.int .i64 a0] w fun e w' => e = .returned (.int .u64 r) ∧ Drawn0 w w' := by
 have H : (if a0 < 0 then (some (IntKind.u64.wrap ((IntKind.u64.wrap (wrap64 (-(wrap64 (a0 + 1))))) + 1))) else (some (IntKind.u64.wrap (a0)))) = some r := h
 clear h
 by_cases c2 : a0 < 0
 ·rw [if_pos c2] at H
  have c2b0 : decide (a0 < 0) = true := decide_eq_true c2
  clear c2
  obtain rfl := Option.some.inj H
  go_enter Tryz.func79, Tryz.ntmps79
  go_wp2
  go_ret
  exact ⟨by first | rfl | (simp; done) | (simp [*]; done) | (simp; generalize ByteArray.toList _ = l_; cases l_ <;> rfl), by repeat (first | exact Drawn0.refl _ | apply Drawn0.step)⟩
 ·rw [if_neg c2] at H
  have c2b0 : decide (a0 < 0) = false := decide_eq_false c2
  clear c2
  obtain rfl := Option.some.inj H
  go_enter Tryz.func79, Tryz.ntmps79
  go_wp2
  go_ret
  exact ⟨by first | rfl | (simp; done) | (simp [*]; done) | (simp; generalize ByteArray.toList _ = l_; cases l_ <;> rfl), by repeat (first | exact Drawn0.refl _ | apply Drawn0.step)⟩

/-! ### counterpaneref1_dec: function 80 -/
def counterpaneref1_dec.l0 : Nat → Int → ByteArray → Option (ByteArray)
 | 0, _, _ => none
 | k + 1, x0, x3 => if x0 > 0 then ((some (([(IntKind.u64.wrap (48 + (Int.tmod x0 10))) % 256] : List Int) : List Int)).bind fun y136 => (if (strOfNums y136).size + x3.size ≤ 9223372036854775807 then (counterpaneref1_dec.l0 k (IntKind.u64.wrap (Int.tdiv x0 10)) ((strOfNums y136) ++ x3)) else (none))) else (if x3.toList = ([] : List UInt8) then ((some (([(IntKind.u64.wrap (48 + (Int.tmod x0 10))) % 256] : List Int) : List Int)).bind fun y139 => (if (strOfNums y139).size + x3.size ≤ 9223372036854775807 then (counterpaneref1_dec.l0 k (IntKind.u64.wrap (Int.tdiv x0 10)) ((strOfNums y139) ++ x3)) else (none))) else (some x3))
def counterpaneref1_dec.f (k : Nat) (a0 : Int) : Option (ByteArray) := counterpaneref1_dec.l0 k a0 (⟨#[]⟩ : ByteArray)
theorem counterpaneref1_dec.mono_l : ∀ k, (∀ y0 y1, LeO (counterpaneref1_dec.l0 k y0 y1) (counterpaneref1_dec.l0 (k + 1) y0 y1))
 | 0 => fun _ _ r h => by simp [counterpaneref1_dec.l0] at h
 | k + 1 => by
  have ih0 := counterpaneref1_dec.mono_l k
  ·intro y0 y1
   unfold counterpaneref1_dec.l0
   repeat' first
   | (with_reducible exact ih0 _ _)
   | (with_reducible exact LeO.refl _)
   | (with_reducible exact LeO.none _)
   | (with_reducible refine LeO.ite ?_ ?_)
   | (with_reducible refine LeO.bind ?_ (fun _ => ?_))
   | exact ih0 _ _
   | exact LeO.none _
   | refine LeO.ite ?_ ?_
   | refine LeO.bind ?_ (fun _ => ?_)
theorem counterpaneref1_dec.mono : ∀ a0 k, LeO (counterpaneref1_dec.f k a0) (counterpaneref1_dec.f (k + 1) a0) := by
 intro a0 k
 have ih0 := counterpaneref1_dec.mono_l k
 unfold counterpaneref1_dec.f
 repeat' first
   | (with_reducible exact ih0 _ _)
   | (with_reducible exact LeO.refl _)
   | (with_reducible exact LeO.none _)
   | (with_reducible refine LeO.ite ?_ ?_)
   | (with_reducible refine LeO.bind ?_ (fun _ => ?_))
   | exact ih0 _ _
   | exact LeO.none _
   | refine LeO.ite ?_ ?_
   | refine LeO.bind ?_ (fun _ => ?_)
set_option maxHeartbeats 8000000 in
set_option maxRecDepth 100000 in
theorem counterpaneref1_dec.calls (k : Nat) (a0 : Int) (r : ByteArray) (w : World) (h : counterpaneref1_dec.f k a0 = some r) :
  Calls Tryz.prog 80 #[.int .u64 a0] w fun e w' => e = .returned (.string r) ∧ Below w.heap.size w w' := by
 have HB := Aside0.mk (Below.refl w.heap.size w)
 have H : (counterpaneref1_dec.l0 k a0 (⟨#[]⟩ : ByteArray)) = some r := h
 clear h
 have H' := Aside0.mk H
 clear H
 go_enter Tryz.func80, Tryz.ntmps80
 go_wp2
 go_loopg [0, 3] k (fun kq v0 v3 w' => ∃ (x0_1 : Int) (x3_1 : ByteArray), v0 = .int .u64 x0_1 ∧ v3 = .string x3_1 ∧ Aside0 (counterpaneref1_dec.l0 kq x0_1 x3_1 = some r) ∧ Aside0 (kq ≤ k) ∧ Aside0 (Below w.heap.size w w'))
 case atStart => exact ⟨(a0), ((⟨#[]⟩ : ByteArray)), (by first | rfl | (simp; done) | (simp [*]; done)), (by first | rfl | (simp; done) | (simp [*]; done)), H', ⟨Nat.le_refl _⟩, ⟨by repeat (first | (with_reducible first | exact HB.out | apply below_alloc | apply pw_below_drewN | apply below_drew1) | exact HB.out)⟩⟩
 case round =>
  clear H'
  obtain ⟨x0_1, x3_1, rfl, rfl, HA, HK1, HB⟩ := hrel
  cases gk with
  | zero => exact absurd HA.out (by simp [counterpaneref1_dec.l0])
  | succ k1 =>
   have H := HA.out
   clear HA
   simp only [counterpaneref1_dec.l0] at H
   by_cases c2 : x0_1 > 0
   ·rw [if_pos c2] at H
    have c2b0 : decide (0 < x0_1) = true := decide_eq_true c2
    clear c2
    obtain ⟨y136, hy136⟩ : ∃ y_ : List Int, y_ = (([(IntKind.u64.wrap (48 + (Int.tmod x0_1 10))) % 256] : List Int)) := ⟨_, rfl⟩
    replace H : (if (strOfNums y136).size + x3_1.size ≤ 9223372036854775807 then (counterpaneref1_dec.l0 k1 (IntKind.u64.wrap (Int.tdiv x0_1 10)) ((strOfNums y136) ++ x3_1)) else (none)) = some r := by first | (rw [hy136]; with_reducible exact H) | (have H2_ := (Option.bind_some _ _).symm.trans H; rw [hy136]; with_reducible exact H2_) | (have H2_ := (Option.bind_some _ _).symm.trans H; with_reducible exact H2_) | with_reducible exact H | (rw [hy136]; exact H) | exact H
    have Ny136 := Aside0.mk hy136
    clear hy136
    by_cases c3 : (strOfNums y136).size + x3_1.size ≤ 9223372036854775807
    ·rw [if_pos c3] at H
     have c3b0 := eq_true c3
     have c3b1 : decide ((strOfNums y136).size + x3_1.size ≤ 9223372036854775807) = true := decide_eq_true c3
     try have c3b2 : (9223372036854775807 < (strOfNums y136).size + x3_1.size) = False := eq_false (Nat.not_lt.2 c3)
     have H' := Aside0.mk H
     clear H
     go_wp2_with (first | ((with_reducible refine gate_dst (N := 16) rfl ?_); refine Kd.R_lit (Kd.int .u8) _ 5 ?hg (N := 16) ?hd (xs := ([(IntKind.u64.wrap (48 + (Int.tmod x0_1 10))) % 256] : List Int)) (inner := [.int .u8 ((IntKind.u64.wrap (48 + (Int.tmod x0_1 10))) % 256)]) (ok := fun _ => True) (okp := fun _ => True) ?hr ?hp (fun _ hk => hk) trivial (Below.refl _ _) (Nat.le_refl _) (by simp) ?_; (case hd => rfl); (case hg => rfl); (case hr => first | (go_simp; done) | (go_simp; rfl)); (case hp => exact (Reps.one (show Kd.M (Kd.int .u8) _ _ _ ((IntKind.u64.wrap (48 + (Int.tmod x0_1 10))) % 256) [.int .u8 ((IntKind.u64.wrap (48 + (Int.tmod x0_1 10))) % 256)] from rfl) (Reps.none _ _))); intro v137 w4 ho5 hb hg_ hnew_; clear hg_ hnew_; (first | rw [← Ny136.out] at ho5 | (simp only [Int.reduceToNat] at ho5; rw [← Ny136.out] at ho5)); have n0_ := Aside0.mk (Kd.R_lower ho5 (below_size (by repeat (first | (with_reducible first | exact HB.out | apply below_alloc | apply pw_below_drewN | apply below_drew1) | exact HB.out)))); have n1_ := Aside0.mk (below_step (by repeat (first | (with_reducible first | exact HB.out | apply below_alloc | apply pw_below_drewN | apply below_drew1) | exact HB.out)) hb); clear HB; have HO138 := n0_; have HB := n1_; clear n0_ n1_; clear hb ho5; have hcv6 := own_string (P := Tryz.prog) Tryz.underlying118 Tryz.underlying5 Tryz.underlying9 (Kd.own_of_R HO138.out)))
     go_roundg k1
     case measure => have := HK1.out; omega
     case rel => exact ⟨(IntKind.u64.wrap (Int.tdiv x0_1 10)), ((strOfNums y136) ++ x3_1), (by first | rfl | (simp; done) | (simp [*]; done)), (by first | rfl | (simp; done) | (simp [*]; done)), H', ⟨by have := HK1.out; omega⟩, ⟨by repeat (first | (with_reducible first | exact HB.out | apply below_alloc | apply pw_below_drewN | apply below_drew1) | exact HB.out)⟩⟩
    ·rw [if_neg c3] at H
     exact absurd H (by simp)
   ·rw [if_neg c2] at H
    have c2b0 : decide (0 < x0_1) = false := decide_eq_false c2
    clear c2
    by_cases c7 : x3_1.toList = ([] : List UInt8)
    ·rw [if_pos c7] at H
     have c7b0 : (x3_1.toList == ([] : List UInt8)) = true := beq_iff_eq.mpr c7
     have c7b1 : (x3_1.toList != ([] : List UInt8)) = false := bne_eq_false_iff_eq.mpr c7
     try (have c7be : x3_1.toList.isEmpty = true := List.isEmpty_iff.mpr c7)
     try simp only [c7be, Bool.not_true, Bool.not_false]
     clear c7
     obtain ⟨y139, hy139⟩ : ∃ y_ : List Int, y_ = (([(IntKind.u64.wrap (48 + (Int.tmod x0_1 10))) % 256] : List Int)) := ⟨_, rfl⟩
     replace H : (if (strOfNums y139).size + x3_1.size ≤ 9223372036854775807 then (counterpaneref1_dec.l0 k1 (IntKind.u64.wrap (Int.tdiv x0_1 10)) ((strOfNums y139) ++ x3_1)) else (none)) = some r := by first | (rw [hy139]; with_reducible exact H) | (have H2_ := (Option.bind_some _ _).symm.trans H; rw [hy139]; with_reducible exact H2_) | (have H2_ := (Option.bind_some _ _).symm.trans H; with_reducible exact H2_) | with_reducible exact H | (rw [hy139]; exact H) | exact H
     have Ny139 := Aside0.mk hy139
     clear hy139
     by_cases c8 : (strOfNums y139).size + x3_1.size ≤ 9223372036854775807
     ·rw [if_pos c8] at H
      have c8b0 := eq_true c8
      have c8b1 : decide ((strOfNums y139).size + x3_1.size ≤ 9223372036854775807) = true := decide_eq_true c8
      try have c8b2 : (9223372036854775807 < (strOfNums y139).size + x3_1.size) = False := eq_false (Nat.not_lt.2 c8)
      have H' := Aside0.mk H
      clear H
      go_wp2_with (first | ((with_reducible refine gate_dst (N := 16) rfl ?_); refine Kd.R_lit (Kd.int .u8) _ 5 ?hg (N := 16) ?hd (xs := ([(IntKind.u64.wrap (48 + (Int.tmod x0_1 10))) % 256] : List Int)) (inner := [.int .u8 ((IntKind.u64.wrap (48 + (Int.tmod x0_1 10))) % 256)]) (ok := fun _ => True) (okp := fun _ => True) ?hr ?hp (fun _ hk => hk) trivial (Below.refl _ _) (Nat.le_refl _) (by simp) ?_; (case hd => rfl); (case hg => rfl); (case hr => first | (go_simp; done) | (go_simp; rfl)); (case hp => exact (Reps.one (show Kd.M (Kd.int .u8) _ _ _ ((IntKind.u64.wrap (48 + (Int.tmod x0_1 10))) % 256) [.int .u8 ((IntKind.u64.wrap (48 + (Int.tmod x0_1 10))) % 256)] from rfl) (Reps.none _ _))); intro v140 w9 ho10 hb hg_ hnew_; clear hg_ hnew_; (first | rw [← Ny139.out] at ho10 | (simp only [Int.reduceToNat] at ho10; rw [← Ny139.out] at ho10)); have n0_ := Aside0.mk (Kd.R_lower ho10 (below_size (by repeat (first | (with_reducible first | exact HB.out | apply below_alloc | apply pw_below_drewN | apply below_drew1) | exact HB.out)))); have n1_ := Aside0.mk (below_step (by repeat (first | (with_reducible first | exact HB.out | apply below_alloc | apply pw_below_drewN | apply below_drew1) | exact HB.out)) hb); clear HB; have HO141 := n0_; have HB := n1_; clear n0_ n1_; clear hb ho10; have hcv11 := own_string (P := Tryz.prog) Tryz.underlying118 Tryz.underlying5 Tryz.underlying9 (Kd.own_of_R HO141.out)))
      go_roundg k1
      case measure => have := HK1.out; omega
      case rel => exact ⟨(IntKind.u64.wrap (Int.tdiv x0_1 10)), ((strOfNums y139) ++ x3_1), (by first | rfl | (simp; done) | (simp [*]; done)), (by first | rfl | (simp; done) | (simp [*]; done)), H', ⟨by have := HK1.out; omega⟩, ⟨by repeat (first | (with_reducible first | exact HB.out | apply below_alloc | apply pw_below_drewN | apply below_drew1) | exact HB.out)⟩⟩
     ·rw [if_neg c8] at H
      exact absurd H (by simp)
    ·rw [if_neg c7] at H
     have c7b0 : (x3_1.toList == ([] : List UInt8)) = false := beq_eq_false_iff_ne.mpr c7
     have c7b1 : (x3_1.toList != ([] : List UInt8)) = true := bne_iff_ne.mpr c7
     try (have c7be : x3_1.toList.isEmpty = false := List.isEmpty_eq_false_iff.mpr c7)
     try simp only [c7be, Bool.not_true, Bool.not_false]
     obtain rfl := Option.some.inj H
     go_wp2
     go_ret
     exact ⟨by first | rfl | (simp [errW_none, errW_some] <;> rfl) | (simp [*, errW_none, errW_some] <;> rfl) | (simp [*, errW_none, errW_some] <;> (generalize ByteArray.toList _ = l_; cases l_ <;> rfl)), by repeat (first | (with_reducible first | exact HB.out | apply below_alloc | apply pw_below_drewN | apply below_drew1) | exact HB.out)⟩

/-! ### counterpaneref1_Print: function 48 -/
def counterpaneref1_Print.l0 : Nat → Int → ByteArray → ByteArray → Option (ByteArray)
 | 0, _, _, _ => none
 | k + 1, x0, x4, x6 => if 0 ≤ (wrap64 ((x6.size : Int) - 1)) then (if (wrap64 ((x6.size : Int) - 1)) < (x6.size : Int) then (if (bt x6 (wrap64 ((x6.size : Int) - 1))) = 48 then (if (wrap64 ((x6.size : Int) - 1)) ≤ (x6.size : Int) then (counterpaneref1_Print.l0 k x0 x4 (x6.extract 0 ((wrap64 ((x6.size : Int) - 1)) : Int).toNat)) else (none)) else (if 1 + x6.size ≤ 9223372036854775807 then (if x4.size + ((⟨#[46]⟩ : ByteArray) ++ x6).size ≤ 9223372036854775807 then (if x0 < 0 then (if 1 + (x4 ++ ((⟨#[46]⟩ : ByteArray) ++ x6)).size ≤ 9223372036854775807 then (some ((⟨#[45]⟩ : ByteArray) ++ (x4 ++ ((⟨#[46]⟩ : ByteArray) ++ x6)))) else (none)) else (some (x4 ++ ((⟨#[46]⟩ : ByteArray) ++ x6)))) else (none)) else (none))) else (none)) else (none)
def counterpaneref1_Print.f (k : Nat) (a0 : Int) : Option (ByteArray) := (counterpaneref1_abs.f a0).bind fun t142 => ((counterpaneref1_dec.f k (IntKind.u64.wrap (Int.tdiv t142 10000))).bind fun t143 => (if (Int.tmod t142 10000) > 0 then ((counterpaneref1_dec.f k (IntKind.u64.wrap (10000 + (Int.tmod t142 10000)))).bind fun t144 => (if 1 ≤ (t144.size : Int) then (counterpaneref1_Print.l0 k a0 t143 (t144.extract 1 t144.size)) else (none))) else (if a0 < 0 then (if 1 + t143.size ≤ 9223372036854775807 then (some ((⟨#[45]⟩ : ByteArray) ++ t143)) else (none)) else (some t143))))
theorem counterpaneref1_Print.mono_l : ∀ k, (∀ y0 y1 y2, LeO (counterpaneref1_Print.l0 k y0 y1 y2) (counterpaneref1_Print.l0 (k + 1) y0 y1 y2))
 | 0 => fun _ _ _ r h => by simp [counterpaneref1_Print.l0] at h
 | k + 1 => by
  have ih0 := counterpaneref1_Print.mono_l k
  ·intro y0 y1 y2
   unfold counterpaneref1_Print.l0
   repeat' first
   | (with_reducible exact ih0 _ _ _)
   | (with_reducible exact counterpaneref1_dec.mono _ _)
   | (with_reducible exact LeO.refl _)
   | (with_reducible exact LeO.none _)
   | (with_reducible refine LeO.ite ?_ ?_)
   | (with_reducible refine LeO.bind ?_ (fun _ => ?_))
   | exact ih0 _ _ _
   | exact counterpaneref1_dec.mono _ _
   | exact LeO.none _
   | refine LeO.ite ?_ ?_
   | refine LeO.bind ?_ (fun _ => ?_)
theorem counterpaneref1_Print.mono : ∀ a0 k, LeO (counterpaneref1_Print.f k a0) (counterpaneref1_Print.f (k + 1) a0) := by
 intro a0 k
 have ih0 := counterpaneref1_Print.mono_l k
 unfold counterpaneref1_Print.f
 repeat' first
   | (with_reducible exact ih0 _ _ _)
   | (with_reducible exact counterpaneref1_dec.mono _ _)
   | (with_reducible exact LeO.refl _)
   | (with_reducible exact LeO.none _)
   | (with_reducible refine LeO.ite ?_ ?_)
   | (with_reducible refine LeO.bind ?_ (fun _ => ?_))
   | exact ih0 _ _ _
   | exact counterpaneref1_dec.mono _ _
   | exact LeO.none _
   | refine LeO.ite ?_ ?_
   | refine LeO.bind ?_ (fun _ => ?_)
set_option maxHeartbeats 8000000 in
set_option maxRecDepth 100000 in
theorem counterpaneref1_Print.calls (k : Nat) (a0 : Int) (r : ByteArray) (w : World) (h : counterpaneref1_Print.f k a0 = some r) :
  Calls Tryz.prog 48 #[.int .i64 a0] w fun e w' => e = .returned (.string r) ∧ Below w.heap.size w w' := by
 have HB := Aside0.mk (Below.refl w.heap.size w)
 have H : ((counterpaneref1_abs.f a0).bind fun t142 => ((counterpaneref1_dec.f k (IntKind.u64.wrap (Int.tdiv t142 10000))).bind fun t143 => (if (Int.tmod t142 10000) > 0 then ((counterpaneref1_dec.f k (IntKind.u64.wrap (10000 + (Int.tmod t142 10000)))).bind fun t144 => (if 1 ≤ (t144.size : Int) then (counterpaneref1_Print.l0 k a0 t143 (t144.extract 1 t144.size)) else (none))) else (if a0 < 0 then (if 1 + t143.size ≤ 9223372036854775807 then (some ((⟨#[45]⟩ : ByteArray) ++ t143)) else (none)) else (some t143))))) = some r := h
 clear h
 replace H := Option.bind_eq_some_iff.mp H
 obtain ⟨t142, A20, H⟩ := H
 replace H : ((counterpaneref1_dec.f k (IntKind.u64.wrap (Int.tdiv t142 10000))).bind fun t143 => (if (Int.tmod t142 10000) > 0 then ((counterpaneref1_dec.f k (IntKind.u64.wrap (10000 + (Int.tmod t142 10000)))).bind fun t144 => (if 1 ≤ (t144.size : Int) then (counterpaneref1_Print.l0 k a0 t143 (t144.extract 1 t144.size)) else (none))) else (if a0 < 0 then (if 1 + t143.size ≤ 9223372036854775807 then (some ((⟨#[45]⟩ : ByteArray) ++ t143)) else (none)) else (some t143)))) = some r := H
 have A2 := Aside0.mk A20
 clear A20
 replace H := Option.bind_eq_some_iff.mp H
 obtain ⟨t143, A30, H⟩ := H
 replace H : (if (Int.tmod t142 10000) > 0 then ((counterpaneref1_dec.f k (IntKind.u64.wrap (10000 + (Int.tmod t142 10000)))).bind fun t144 => (if 1 ≤ (t144.size : Int) then (counterpaneref1_Print.l0 k a0 t143 (t144.extract 1 t144.size)) else (none))) else (if a0 < 0 then (if 1 + t143.size ≤ 9223372036854775807 then (some ((⟨#[45]⟩ : ByteArray) ++ t143)) else (none)) else (some t143))) = some r := H
 have A3 := Aside0.mk A30
 clear A30
 by_cases c4 : (Int.tmod t142 10000) > 0
 ·rw [if_pos c4] at H
  have c4b0 : decide (0 < (Int.tmod t142 10000)) = true := decide_eq_true c4
  clear c4
  replace H := Option.bind_eq_some_iff.mp H
  obtain ⟨t144, A50, H⟩ := H
  replace H : (if 1 ≤ (t144.size : Int) then (counterpaneref1_Print.l0 k a0 t143 (t144.extract 1 t144.size)) else (none)) = some r := H
  have A5 := Aside0.mk A50
  clear A50
  by_cases c6 : 1 ≤ (t144.size : Int)
  ·rw [if_pos c6] at H
   have c6b0 := eq_true c6
   have c6b1 : decide (1 ≤ (t144.size : Int)) = true := decide_eq_true c6
   clear c6
   have H' := Aside0.mk H
   clear H
   go_enter Tryz.func48, Tryz.ntmps48
   go_wp2_with (first | ((with_reducible refine gate_callee (f := 79) rfl ?_); refine goesL_ (some 8) rfl rfl Tryz.func79 (by kernel_rfl) rfl #[.int .i64 a0] rfl (by (try simp only [List.map_toArray, List.map_cons, List.map_nil]); first | done | rfl | (simp only [List.length_drop, List.length_take]; rfl)) ?_; (with_reducible refine (counterpaneref1_abs.calls a0 t142 _ A2.out).mono ?_); rintro e w' ⟨rfl, ⟨nd, rfl⟩⟩; refine ⟨_, rfl, ?_⟩) | ((with_reducible refine gate_callee (f := 80) rfl ?_); refine goesL_ (some 11) rfl rfl Tryz.func80 (by kernel_rfl) rfl #[.int .u64 (IntKind.u64.wrap (Int.tdiv t142 10000))] rfl (by (try simp only [List.map_toArray, List.map_cons, List.map_nil]); first | done | rfl | (simp only [List.length_drop, List.length_take]; rfl)) ?_; (with_reducible refine (counterpaneref1_dec.calls k (IntKind.u64.wrap (Int.tdiv t142 10000)) t143 _ A3.out).mono ?_); rintro e w7 ⟨rfl, hb⟩; refine ⟨_, rfl, ?_⟩; have n0_ := Aside0.mk (below_step (by repeat (first | (with_reducible first | exact HB.out | apply below_alloc | apply pw_below_drewN | apply below_drew1) | exact HB.out)) hb); clear HB; have HB := n0_; clear n0_; (try clear hb); (try clear hb2); (try clear hk); (try clear hi)) | ((with_reducible refine gate_callee (f := 80) rfl ?_); refine goesL_ (some 18) rfl rfl Tryz.func80 (by kernel_rfl) rfl #[.int .u64 (IntKind.u64.wrap (10000 + (Int.tmod t142 10000)))] rfl (by (try simp only [List.map_toArray, List.map_cons, List.map_nil]); first | done | rfl | (simp only [List.length_drop, List.length_take]; rfl)) ?_; (with_reducible refine (counterpaneref1_dec.calls k (IntKind.u64.wrap (10000 + (Int.tmod t142 10000))) t144 _ A5.out).mono ?_); rintro e w8 ⟨rfl, hb⟩; refine ⟨_, rfl, ?_⟩; have n0_ := Aside0.mk (below_step (by repeat (first | (with_reducible first | exact HB.out | apply below_alloc | apply pw_below_drewN | apply below_drew1) | exact HB.out)) hb); clear HB; have HB := n0_; clear n0_; (try clear hb); (try clear hb2); (try clear hk); (try clear hi)))
   go_loopg [6] k (fun kq v6 w' => ∃ (x6_1 : ByteArray), v6 = .string x6_1 ∧ Aside0 (counterpaneref1_Print.l0 kq a0 t143 x6_1 = some r) ∧ Aside0 (kq ≤ k) ∧ Aside0 (Below w.heap.size w w'))
   case atStart => exact ⟨(t144.extract 1 t144.size), (by first | rfl | (simp; done) | (simp [*]; done)), H', ⟨Nat.le_refl _⟩, ⟨by repeat (first | (with_reducible first | exact HB.out | apply below_alloc | apply pw_below_drewN | apply below_drew1) | exact HB.out)⟩⟩
   case round =>
    clear H'
    try clear p2
    try clear c4
    try clear c4b0
    try clear c6
    try clear c6b0
    try clear c6b1
    try clear c7
    try clear c8
    obtain ⟨x6_1, rfl, HA, HK1, HB⟩ := hrel
    cases gk with
    | zero => exact absurd HA.out (by simp [counterpaneref1_Print.l0])
    | succ k1 =>
     have H := HA.out
     clear HA
     simp only [counterpaneref1_Print.l0] at H
     obtain ⟨ji9, hji9⟩ : ∃ j_ : Int, (wrap64 ((x6_1.size : Int) - 1)) = j_ := ⟨_, rfl⟩
     replace H : (if 0 ≤ (ji9) then (if (ji9) < (x6_1.size : Int) then (if (bt x6_1 (ji9)) = 48 then (if (ji9) ≤ (x6_1.size : Int) then (counterpaneref1_Print.l0 k1 a0 t143 (x6_1.extract 0 ((ji9) : Int).toNat)) else (none)) else (if 1 + x6_1.size ≤ 9223372036854775807 then (if t143.size + ((⟨#[46]⟩ : ByteArray) ++ x6_1).size ≤ 9223372036854775807 then (if a0 < 0 then (if 1 + (t143 ++ ((⟨#[46]⟩ : ByteArray) ++ x6_1)).size ≤ 9223372036854775807 then (some ((⟨#[45]⟩ : ByteArray) ++ (t143 ++ ((⟨#[46]⟩ : ByteArray) ++ x6_1)))) else (none)) else (some (t143 ++ ((⟨#[46]⟩ : ByteArray) ++ x6_1)))) else (none)) else (none))) else (none)) else (none)) = some r := by first | (rw [hji9] at H; exact H) | (simp only [hji9] at H ⊢; exact H)
     have hji9w : (IntKind.i64.wrap ((x6_1.size : Int) - 1)) = ji9 := (i64_w _).trans hji9
     by_cases c10 : 0 ≤ (ji9)
     ·rw [if_pos c10] at H
      have c10b0 : decide (0 ≤ (ji9)) = true := decide_eq_true c10
      clear c10
      by_cases c11 : (ji9) < (x6_1.size : Int)
      ·rw [if_pos c11] at H
       have c11b0 : decide ((ji9) < (x6_1.size : Int)) = true := decide_eq_true c11
       clear c11
       by_cases c13 : (bt x6_1 (ji9)) = 48
       ·rw [if_pos c13] at H
        have c13b0 : ((bt x6_1 (ji9)) == 48) = true := beq_iff_eq.mpr c13
        have c13b1 : ((bt x6_1 (ji9)) != 48) = false := bne_eq_false_iff_eq.mpr c13
        clear c13
        have c14b0 := eq_true (of_decide_eq_true (by first | (with_reducible assumption) | assumption) : 0 ≤ (ji9))
        by_cases c15 : (ji9) ≤ (x6_1.size : Int)
        ·rw [if_pos c15] at H
         have c15b0 := eq_true c15
         have c15b1 : decide ((ji9) ≤ (x6_1.size : Int)) = true := decide_eq_true c15
         clear c15
         have H' := Aside0.mk H
         clear H
         have p12 : 0 ≤ ((ji9) : Int) := of_decide_eq_true (by first | (with_reducible assumption) | assumption)
         have q12 : (ji9) < (x6_1.size : Int) := of_decide_eq_true (by first | (with_reducible assumption) | assumption)
         have hx12 := bt_at x6_1 (ji9)
         replace p12 := eq_true p12
         replace q12 := eq_true q12
         try (have q12z := q12; simp only [ByteArray.size_extract, Nat.min_self] at q12z)
         go_wp2
         go_roundg k1
         case measure => have := HK1.out; omega
         case rel => exact ⟨(x6_1.extract 0 ((ji9) : Int).toNat), (by first | rfl | (simp; done) | (simp only [← hji9] <;> (first | rfl | simp)) | (simp [*]; done)), H', ⟨by have := HK1.out; omega⟩, ⟨by repeat (first | (with_reducible first | exact HB.out | apply below_alloc | apply pw_below_drewN | apply below_drew1) | exact HB.out)⟩⟩
        ·rw [if_neg c15] at H
         exact absurd H (by simp)
       ·rw [if_neg c13] at H
        have c13b0 : ((bt x6_1 (ji9)) == 48) = false := beq_eq_false_iff_ne.mpr c13
        have c13b1 : ((bt x6_1 (ji9)) != 48) = true := bne_iff_ne.mpr c13
        by_cases c16 : 1 + x6_1.size ≤ 9223372036854775807
        ·rw [if_pos c16] at H
         have c16b0 := eq_true c16
         have c16b1 : decide (1 + x6_1.size ≤ 9223372036854775807) = true := decide_eq_true c16
         try have c16b2 : (9223372036854775807 < 1 + x6_1.size) = False := eq_false (Nat.not_lt.2 c16)
         by_cases c17 : t143.size + ((⟨#[46]⟩ : ByteArray) ++ x6_1).size ≤ 9223372036854775807
         ·rw [if_pos c17] at H
          have c17b0 := eq_true c17
          have c17b1 : decide (t143.size + ((⟨#[46]⟩ : ByteArray) ++ x6_1).size ≤ 9223372036854775807) = true := decide_eq_true c17
          try have c17b2 : (9223372036854775807 < t143.size + ((⟨#[46]⟩ : ByteArray) ++ x6_1).size) = False := eq_false (Nat.not_lt.2 c17)
          try (have c17b3 := c17b2; simp only [ByteArray.size_append] at c17b3)
          try (have c17b4 := c17b3; simp only [show (⟨#[46]⟩ : ByteArray).size = 1 from rfl] at c17b4)
          by_cases c18 : a0 < 0
          ·rw [if_pos c18] at H
           have c18b0 : decide (a0 < 0) = true := decide_eq_true c18
           clear c18
           by_cases c19 : 1 + (t143 ++ ((⟨#[46]⟩ : ByteArray) ++ x6_1)).size ≤ 9223372036854775807
           ·rw [if_pos c19] at H
            have c19b0 := eq_true c19
            have c19b1 : decide (1 + (t143 ++ ((⟨#[46]⟩ : ByteArray) ++ x6_1)).size ≤ 9223372036854775807) = true := decide_eq_true c19
            try have c19b2 : (9223372036854775807 < 1 + (t143 ++ ((⟨#[46]⟩ : ByteArray) ++ x6_1)).size) = False := eq_false (Nat.not_lt.2 c19)
            try (have c19b3 := c19b2; simp only [ByteArray.size_append] at c19b3)
            try (have c19b4 := c19b3; simp only [show (⟨#[46]⟩ : ByteArray).size = 1 from rfl] at c19b4)
            obtain rfl := Option.some.inj H
            have p12 : 0 ≤ ((ji9) : Int) := of_decide_eq_true (by first | (with_reducible assumption) | assumption)
            have q12 : (ji9) < (x6_1.size : Int) := of_decide_eq_true (by first | (with_reducible assumption) | assumption)
            have hx12 := bt_at x6_1 (ji9)
            replace p12 := eq_true p12
            replace q12 := eq_true q12
            try (have q12z := q12; simp only [ByteArray.size_extract, Nat.min_self] at q12z)
            go_wp2
            go_ret
            exact ⟨by first | rfl | (simp [errW_none, errW_some] <;> rfl) | (simp only [← hji9]; first | rfl | (simp [errW_none, errW_some] <;> rfl)) | (simp [*, errW_none, errW_some] <;> rfl) | (simp [*, errW_none, errW_some] <;> (generalize ByteArray.toList _ = l_; cases l_ <;> rfl)), by repeat (first | (with_reducible first | exact HB.out | apply below_alloc | apply pw_below_drewN | apply below_drew1) | exact HB.out)⟩
           ·rw [if_neg c19] at H
            exact absurd H (by simp)
          ·rw [if_neg c18] at H
           have c18b0 : decide (a0 < 0) = false := decide_eq_false c18
           clear c18
           obtain rfl := Option.some.inj H
           have p12 : 0 ≤ ((ji9) : Int) := of_decide_eq_true (by first | (with_reducible assumption) | assumption)
           have q12 : (ji9) < (x6_1.size : Int) := of_decide_eq_true (by first | (with_reducible assumption) | assumption)
           have hx12 := bt_at x6_1 (ji9)
           replace p12 := eq_true p12
           replace q12 := eq_true q12
           try (have q12z := q12; simp only [ByteArray.size_extract, Nat.min_self] at q12z)
           go_wp2
           go_ret
           exact ⟨by first | rfl | (simp [errW_none, errW_some] <;> rfl) | (simp only [← hji9]; first | rfl | (simp [errW_none, errW_some] <;> rfl)) | (simp [*, errW_none, errW_some] <;> rfl) | (simp [*, errW_none, errW_some] <;> (generalize ByteArray.toList _ = l_; cases l_ <;> rfl)), by repeat (first | (with_reducible first | exact HB.out | apply below_alloc | apply pw_below_drewN | apply below_drew1) | exact HB.out)⟩
         ·rw [if_neg c17] at H
          exact absurd H (by simp)
        ·rw [if_neg c16] at H
         exact absurd H (by simp)
      ·rw [if_neg c11] at H
       exact absurd H (by simp)
     ·rw [if_neg c10] at H
      exact absurd H (by simp)
  ·rw [if_neg c6] at H
   exact absurd H (by simp)
 ·rw [if_neg c4] at H
  have c4b0 : decide (0 < (Int.tmod t142 10000)) = false := decide_eq_false c4
  clear c4
  by_cases c20 : a0 < 0
  ·rw [if_pos c20] at H
   have c20b0 : decide (a0 < 0) = true := decide_eq_true c20
   clear c20
   by_cases c21 : 1 + t143.size ≤ 9223372036854775807
   ·rw [if_pos c21] at H
    have c21b0 := eq_true c21
    have c21b1 : decide (1 + t143.size ≤ 9223372036854775807) = true := decide_eq_true c21
    try have c21b2 : (9223372036854775807 < 1 + t143.size) = False := eq_false (Nat.not_lt.2 c21)
    obtain rfl := Option.some.inj H
    go_enter Tryz.func48, Tryz.ntmps48
    go_wp2_with (first | ((with_reducible refine gate_callee (f := 79) rfl ?_); refine goesL_ (some 8) rfl rfl Tryz.func79 (by kernel_rfl) rfl #[.int .i64 a0] rfl (by (try simp only [List.map_toArray, List.map_cons, List.map_nil]); first | done | rfl | (simp only [List.length_drop, List.length_take]; rfl)) ?_; (with_reducible refine (counterpaneref1_abs.calls a0 t142 _ A2.out).mono ?_); rintro e w' ⟨rfl, ⟨nd, rfl⟩⟩; refine ⟨_, rfl, ?_⟩) | ((with_reducible refine gate_callee (f := 80) rfl ?_); refine goesL_ (some 11) rfl rfl Tryz.func80 (by kernel_rfl) rfl #[.int .u64 (IntKind.u64.wrap (Int.tdiv t142 10000))] rfl (by (try simp only [List.map_toArray, List.map_cons, List.map_nil]); first | done | rfl | (simp only [List.length_drop, List.length_take]; rfl)) ?_; (with_reducible refine (counterpaneref1_dec.calls k (IntKind.u64.wrap (Int.tdiv t142 10000)) t143 _ A3.out).mono ?_); rintro e w22 ⟨rfl, hb⟩; refine ⟨_, rfl, ?_⟩; have n0_ := Aside0.mk (below_step (by repeat (first | (with_reducible first | exact HB.out | apply below_alloc | apply pw_below_drewN | apply below_drew1) | exact HB.out)) hb); clear HB; have HB := n0_; clear n0_; (try clear hb); (try clear hb2); (try clear hk); (try clear hi)))
    go_ret
    exact ⟨by first | rfl | (simp [errW_none, errW_some] <;> rfl) | (simp [*, errW_none, errW_some] <;> rfl) | (simp [*, errW_none, errW_some] <;> (generalize ByteArray.toList _ = l_; cases l_ <;> rfl)), by repeat (first | (with_reducible first | exact HB.out | apply below_alloc | apply pw_below_drewN | apply below_drew1) | exact HB.out)⟩
   ·rw [if_neg c21] at H
    exact absurd H (by simp)
  ·rw [if_neg c20] at H
   have c20b0 : decide (a0 < 0) = false := decide_eq_false c20
   clear c20
   obtain rfl := Option.some.inj H
   go_enter Tryz.func48, Tryz.ntmps48
   go_wp2_with (first | ((with_reducible refine gate_callee (f := 79) rfl ?_); refine goesL_ (some 8) rfl rfl Tryz.func79 (by kernel_rfl) rfl #[.int .i64 a0] rfl (by (try simp only [List.map_toArray, List.map_cons, List.map_nil]); first | done | rfl | (simp only [List.length_drop, List.length_take]; rfl)) ?_; (with_reducible refine (counterpaneref1_abs.calls a0 t142 _ A2.out).mono ?_); rintro e w' ⟨rfl, ⟨nd, rfl⟩⟩; refine ⟨_, rfl, ?_⟩) | ((with_reducible refine gate_callee (f := 80) rfl ?_); refine goesL_ (some 11) rfl rfl Tryz.func80 (by kernel_rfl) rfl #[.int .u64 (IntKind.u64.wrap (Int.tdiv t142 10000))] rfl (by (try simp only [List.map_toArray, List.map_cons, List.map_nil]); first | done | rfl | (simp only [List.length_drop, List.length_take]; rfl)) ?_; (with_reducible refine (counterpaneref1_dec.calls k (IntKind.u64.wrap (Int.tdiv t142 10000)) t143 _ A3.out).mono ?_); rintro e w23 ⟨rfl, hb⟩; refine ⟨_, rfl, ?_⟩; have n0_ := Aside0.mk (below_step (by repeat (first | (with_reducible first | exact HB.out | apply below_alloc | apply pw_below_drewN | apply below_drew1) | exact HB.out)) hb); clear HB; have HB := n0_; clear n0_; (try clear hb); (try clear hb2); (try clear hk); (try clear hi)))
   go_ret
   exact ⟨by first | rfl | (simp [errW_none, errW_some] <;> rfl) | (simp [*, errW_none, errW_some] <;> rfl) | (simp [*, errW_none, errW_some] <;> (generalize ByteArray.toList _ = l_; cases l_ <;> rfl)), by repeat (first | (with_reducible first | exact HB.out | apply below_alloc | apply pw_below_drewN | apply below_drew1) | exact HB.out)⟩

end Go.Proofs.YtfnbflhoaemmeaaGreatDoor.EFix
