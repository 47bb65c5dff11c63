-- Written by extprint.py (wip/tools) out of the translation; Lean checks it.
import Derived.Test.YtpabggjnkoehfaaDoorERef0
import Derived.Test.YtpabggjnkoehfaaDoorERef4
namespace Go.Proofs.YtpabggjnkoehfaaDoor.ERef
open Go.RowKit Go.Proofs.YtpabggjnkoehfaaDoor.Ext Go.Proofs.YtpabggjnkoehfaaDoorW.PrintWords Go.Proofs.YtpabggjnkoehfaaDoorW.PrintLast Go.Proofs.YtpabggjnkoehfaaDoorW.PrintMore
attribute [local go_sem] max2_int min2_int max_two min_two max_three min_three max_four min_four   -- for this text's walks alone
set_option linter.unusedVariables false
set_option linter.unusedSimpArgs false

/-! ### counterpaneref5_Ref: function 10 -/
mutual
def counterpaneref5_Ref.j1 : Nat → ByteArray → ByteArray → Int → Int → Bool → Bool → Option (ByteArray × Int × Int × Bool × Bool × Bool)
  | 0, _, _, _, _, _, _ => none
  | k + 1, x0, x156000, x156001, x156002, x156003, x156004 => if (x0.size : Int) > 0 then (if 0 < (x0.size : Int) then (counterpaneref5_Ref.j2 k x0 ((bt x0 0) == 36) x156000 x156001 x156002 x156003 x156004) else (none)) else (counterpaneref5_Ref.j2 k x0 false x156000 x156001 x156002 x156003 x156004)
def counterpaneref5_Ref.j2 : Nat → ByteArray → Bool → ByteArray → Int → Int → Bool → Bool → Option (ByteArray × Int × Int × Bool × Bool × Bool)
  | 0, _, _, _, _, _, _, _ => none
  | k + 1, x0, x40, x156000, x156001, x156002, x156003, x156004 => if x40 = true then (if 1 ≤ (x0.size : Int) then (counterpaneref5_Ref.j3 k (x0.extract 1 x0.size) x156000 x156001 x156002 x156003 true) else (none)) else (counterpaneref5_Ref.j3 k x0 x156000 x156001 x156002 x156003 x156004)
def counterpaneref5_Ref.j3 : Nat → ByteArray → ByteArray → Int → Int → Bool → Bool → Option (ByteArray × Int × Int × Bool × Bool × Bool)
  | 0, _, _, _, _, _, _ => none
  | k + 1, x0, x156000, x156001, x156002, x156003, x156004 => counterpaneref5_Ref.l1 k x0 0 x156000 x156001 x156002 x156003 x156004
def counterpaneref5_Ref.j5 : Nat → ByteArray → Int → ByteArray → Int → Int → Bool → Bool → Option (ByteArray × Int × Int × Bool × Bool × Bool)
  | 0, _, _, _, _, _, _, _ => none
  | k + 1, x0, x6, x156000, x156001, x156002, x156003, x156004 => if 0 ≤ x6 then (if x6 ≤ (x0.size : Int) then ((counterpaneref5_Col.f k (x0.extract 0 (x6 : Int).toNat)).bind fun bt157 => (if ((x0.extract (x6 : Int).toNat x0.size).size : Int) > 0 then (if 0 < ((x0.extract (x6 : Int).toNat x0.size).size : Int) then (counterpaneref5_Ref.j6 k (x0.extract (x6 : Int).toNat x0.size) bt157.1 bt157.2 ((bt (x0.extract (x6 : Int).toNat x0.size) 0) == 36) x156000 x156001 x156002 x156003 x156004) else (none)) else (counterpaneref5_Ref.j6 k (x0.extract (x6 : Int).toNat x0.size) bt157.1 bt157.2 false x156000 x156001 x156002 x156003 x156004))) else (none)) else (none)
def counterpaneref5_Ref.j6 : Nat → ByteArray → Int → Bool → Bool → ByteArray → Int → Int → Bool → Bool → Option (ByteArray × Int × Int × Bool × Bool × Bool)
  | 0, _, _, _, _, _, _, _, _, _ => none
  | k + 1, x0, x7, x8, x79, x156000, x156001, x156002, x156003, x156004 => if x79 = true then (if 1 ≤ (x0.size : Int) then ((counterpaneref5_num.f k (x0.extract 1 x0.size) 2199023255552).bind fun t159 => (if x8 = true then (if t159 < 1 then (some ((⟨#[]⟩ : ByteArray), 0, 0, false, false, false)) else (some (x156000, wrap64 (t159 - 1), x7, true, x156004, true))) else (some ((⟨#[]⟩ : ByteArray), 0, 0, false, false, false)))) else (none)) else ((counterpaneref5_num.f k x0 2199023255552).bind fun t160 => (if x8 = true then (if t160 < 1 then (some ((⟨#[]⟩ : ByteArray), 0, 0, false, false, false)) else (some (x156000, wrap64 (t160 - 1), x7, x156003, x156004, true))) else (some ((⟨#[]⟩ : ByteArray), 0, 0, false, false, false))))
def counterpaneref5_Ref.l1 : Nat → ByteArray → Int → ByteArray → Int → Int → Bool → Bool → Option (ByteArray × Int × Int × Bool × Bool × Bool)
  | 0, _, _, _, _, _, _, _ => none
  | k + 1, x0, x6, x156000, x156001, x156002, x156003, x156004 => if x6 < (x0.size : Int) then (if 0 ≤ x6 then (if (bt x0 x6) ≥ 65 then (if (bt x0 x6) ≤ 90 then (counterpaneref5_Ref.l1 k x0 (wrap64 (x6 + 1)) x156000 x156001 x156002 x156003 x156004) else (counterpaneref5_Ref.j5 k x0 x6 x156000 x156001 x156002 x156003 x156004)) else (counterpaneref5_Ref.j5 k x0 x6 x156000 x156001 x156002 x156003 x156004)) else (none)) else (counterpaneref5_Ref.j5 k x0 x6 x156000 x156001 x156002 x156003 x156004)
def counterpaneref5_Ref.l0 : Nat → ByteArray → Int → ByteArray → Int → Int → Bool → Bool → Option (ByteArray × Int × Int × Bool × Bool × Bool)
  | 0, _, _, _, _, _, _, _ => none
  | k + 1, x0, x5, x156000, x156001, x156002, x156003, x156004 => if x5 < (x0.size : Int) then (if 0 ≤ x5 then (if (bt x0 x5) = 33 then (if x5 ≤ (x0.size : Int) then (if 0 ≤ (wrap64 (x5 + 1)) then (if (wrap64 (x5 + 1)) ≤ (x0.size : Int) then ((counterpaneref5_Id.f k (x0.extract 0 (x5 : Int).toNat)).bind fun t156 => (if t156 = true then (counterpaneref5_Ref.j1 k (x0.extract ((wrap64 (x5 + 1)) : Int).toNat x0.size) (x0.extract 0 (x5 : Int).toNat) x156001 x156002 x156003 x156004) else (some ((⟨#[]⟩ : ByteArray), 0, 0, false, false, false)))) else (none)) else (none)) else (none)) else (counterpaneref5_Ref.l0 k x0 (wrap64 (x5 + 1)) x156000 x156001 x156002 x156003 x156004)) else (none)) else (counterpaneref5_Ref.j1 k x0 x156000 x156001 x156002 x156003 x156004)
end
def counterpaneref5_Ref.f (k : Nat) (a0 : ByteArray) : Option (ByteArray × Int × Int × Bool × Bool × Bool) := counterpaneref5_Ref.l0 k a0 0 (⟨#[]⟩ : ByteArray) 0 0 false false
theorem counterpaneref5_Ref.mono_l : ∀ k, (∀ y0 y1 y2 y3 y4 y5, LeO (counterpaneref5_Ref.j1 k y0 y1 y2 y3 y4 y5) (counterpaneref5_Ref.j1 (k + 1) y0 y1 y2 y3 y4 y5)) ∧ (∀ y0 y1 y2 y3 y4 y5 y6, LeO (counterpaneref5_Ref.j2 k y0 y1 y2 y3 y4 y5 y6) (counterpaneref5_Ref.j2 (k + 1) y0 y1 y2 y3 y4 y5 y6)) ∧ (∀ y0 y1 y2 y3 y4 y5, LeO (counterpaneref5_Ref.j3 k y0 y1 y2 y3 y4 y5) (counterpaneref5_Ref.j3 (k + 1) y0 y1 y2 y3 y4 y5)) ∧ (∀ y0 y1 y2 y3 y4 y5 y6, LeO (counterpaneref5_Ref.j5 k y0 y1 y2 y3 y4 y5 y6) (counterpaneref5_Ref.j5 (k + 1) y0 y1 y2 y3 y4 y5 y6)) ∧ (∀ y0 y1 y2 y3 y4 y5 y6 y7 y8, LeO (counterpaneref5_Ref.j6 k y0 y1 y2 y3 y4 y5 y6 y7 y8) (counterpaneref5_Ref.j6 (k + 1) y0 y1 y2 y3 y4 y5 y6 y7 y8)) ∧ (∀ y0 y1 y2 y3 y4 y5 y6, LeO (counterpaneref5_Ref.l1 k y0 y1 y2 y3 y4 y5 y6) (counterpaneref5_Ref.l1 (k + 1) y0 y1 y2 y3 y4 y5 y6)) ∧ (∀ y0 y1 y2 y3 y4 y5 y6, LeO (counterpaneref5_Ref.l0 k y0 y1 y2 y3 y4 y5 y6) (counterpaneref5_Ref.l0 (k + 1) y0 y1 y2 y3 y4 y5 y6))
  | 0 => ⟨fun _ _ _ _ _ _ r h => by simp [counterpaneref5_Ref.j1] at h, fun _ _ _ _ _ _ _ r h => by simp [counterpaneref5_Ref.j2] at h, fun _ _ _ _ _ _ r h => by simp [counterpaneref5_Ref.j3] at h, fun _ _ _ _ _ _ _ r h => by simp [counterpaneref5_Ref.j5] at h, fun _ _ _ _ _ _ _ _ _ r h => by simp [counterpaneref5_Ref.j6] at h, fun _ _ _ _ _ _ _ r h => by simp [counterpaneref5_Ref.l1] at h, fun _ _ _ _ _ _ _ r h => by simp [counterpaneref5_Ref.l0] at h⟩
  | k + 1 => by
    obtain ⟨ih0, ih1, ih2, ih3, ih4, ih5, ih6⟩ := counterpaneref5_Ref.mono_l k
    refine ⟨?_, ?_, ?_, ?_, ?_, ?_, ?_⟩
    · intro y0 y1 y2 y3 y4 y5
      unfold counterpaneref5_Ref.j1
      repeat' first
      | (with_reducible exact ih0 _ _ _ _ _ _)
      | (with_reducible exact ih1 _ _ _ _ _ _ _)
      | (with_reducible exact ih2 _ _ _ _ _ _)
      | (with_reducible exact ih3 _ _ _ _ _ _ _)
      | (with_reducible exact ih4 _ _ _ _ _ _ _ _ _)
      | (with_reducible exact ih5 _ _ _ _ _ _ _)
      | (with_reducible exact ih6 _ _ _ _ _ _ _)
      | (with_reducible exact counterpaneref5_Col.mono _ _)
      | (with_reducible exact counterpaneref5_Id.mono _ _)
      | (with_reducible exact counterpaneref5_num.mono _ _ _)
      | (with_reducible exact LeO.refl _)
      | (with_reducible exact LeO.none _)
      | (with_reducible refine LeO.ite ?_ ?_)
      | (with_reducible refine LeO.bind ?_ (fun _ => ?_))
      | exact ih0 _ _ _ _ _ _
      | exact ih1 _ _ _ _ _ _ _
      | exact ih2 _ _ _ _ _ _
      | exact ih3 _ _ _ _ _ _ _
      | exact ih4 _ _ _ _ _ _ _ _ _
      | exact ih5 _ _ _ _ _ _ _
      | exact ih6 _ _ _ _ _ _ _
      | exact counterpaneref5_Col.mono _ _
      | exact counterpaneref5_Id.mono _ _
      | exact counterpaneref5_num.mono _ _ _
      | exact LeO.none _
      | refine LeO.ite ?_ ?_
      | refine LeO.bind ?_ (fun _ => ?_)
    · intro y0 y1 y2 y3 y4 y5 y6
      unfold counterpaneref5_Ref.j2
      repeat' first
      | (with_reducible exact ih0 _ _ _ _ _ _)
      | (with_reducible exact ih1 _ _ _ _ _ _ _)
      | (with_reducible exact ih2 _ _ _ _ _ _)
      | (with_reducible exact ih3 _ _ _ _ _ _ _)
      | (with_reducible exact ih4 _ _ _ _ _ _ _ _ _)
      | (with_reducible exact ih5 _ _ _ _ _ _ _)
      | (with_reducible exact ih6 _ _ _ _ _ _ _)
      | (with_reducible exact counterpaneref5_Col.mono _ _)
      | (with_reducible exact counterpaneref5_Id.mono _ _)
      | (with_reducible exact counterpaneref5_num.mono _ _ _)
      | (with_reducible exact LeO.refl _)
      | (with_reducible exact LeO.none _)
      | (with_reducible refine LeO.ite ?_ ?_)
      | (with_reducible refine LeO.bind ?_ (fun _ => ?_))
      | exact ih0 _ _ _ _ _ _
      | exact ih1 _ _ _ _ _ _ _
      | exact ih2 _ _ _ _ _ _
      | exact ih3 _ _ _ _ _ _ _
      | exact ih4 _ _ _ _ _ _ _ _ _
      | exact ih5 _ _ _ _ _ _ _
      | exact ih6 _ _ _ _ _ _ _
      | exact counterpaneref5_Col.mono _ _
      | exact counterpaneref5_Id.mono _ _
      | exact counterpaneref5_num.mono _ _ _
      | exact LeO.none _
      | refine LeO.ite ?_ ?_
      | refine LeO.bind ?_ (fun _ => ?_)
    · intro y0 y1 y2 y3 y4 y5
      unfold counterpaneref5_Ref.j3
      repeat' first
      | (with_reducible exact ih0 _ _ _ _ _ _)
      | (with_reducible exact ih1 _ _ _ _ _ _ _)
      | (with_reducible exact ih2 _ _ _ _ _ _)
      | (with_reducible exact ih3 _ _ _ _ _ _ _)
      | (with_reducible exact ih4 _ _ _ _ _ _ _ _ _)
      | (with_reducible exact ih5 _ _ _ _ _ _ _)
      | (with_reducible exact ih6 _ _ _ _ _ _ _)
      | (with_reducible exact counterpaneref5_Col.mono _ _)
      | (with_reducible exact counterpaneref5_Id.mono _ _)
      | (with_reducible exact counterpaneref5_num.mono _ _ _)
      | (with_reducible exact LeO.refl _)
      | (with_reducible exact LeO.none _)
      | (with_reducible refine LeO.ite ?_ ?_)
      | (with_reducible refine LeO.bind ?_ (fun _ => ?_))
      | exact ih0 _ _ _ _ _ _
      | exact ih1 _ _ _ _ _ _ _
      | exact ih2 _ _ _ _ _ _
      | exact ih3 _ _ _ _ _ _ _
      | exact ih4 _ _ _ _ _ _ _ _ _
      | exact ih5 _ _ _ _ _ _ _
      | exact ih6 _ _ _ _ _ _ _
      | exact counterpaneref5_Col.mono _ _
      | exact counterpaneref5_Id.mono _ _
      | exact counterpaneref5_num.mono _ _ _
      | exact LeO.none _
      | refine LeO.ite ?_ ?_
      | refine LeO.bind ?_ (fun _ => ?_)
    · intro y0 y1 y2 y3 y4 y5 y6
      unfold counterpaneref5_Ref.j5
      repeat' first
      | (with_reducible exact ih0 _ _ _ _ _ _)
      | (with_reducible exact ih1 _ _ _ _ _ _ _)
      | (with_reducible exact ih2 _ _ _ _ _ _)
      | (with_reducible exact ih3 _ _ _ _ _ _ _)
      | (with_reducible exact ih4 _ _ _ _ _ _ _ _ _)
      | (with_reducible exact ih5 _ _ _ _ _ _ _)
      | (with_reducible exact ih6 _ _ _ _ _ _ _)
      | (with_reducible exact counterpaneref5_Col.mono _ _)
      | (with_reducible exact counterpaneref5_Id.mono _ _)
      | (with_reducible exact counterpaneref5_num.mono _ _ _)
      | (with_reducible exact LeO.refl _)
      | (with_reducible exact LeO.none _)
      | (with_reducible refine LeO.ite ?_ ?_)
      | (with_reducible refine LeO.bind ?_ (fun _ => ?_))
      | exact ih0 _ _ _ _ _ _
      | exact ih1 _ _ _ _ _ _ _
      | exact ih2 _ _ _ _ _ _
      | exact ih3 _ _ _ _ _ _ _
      | exact ih4 _ _ _ _ _ _ _ _ _
      | exact ih5 _ _ _ _ _ _ _
      | exact ih6 _ _ _ _ _ _ _
      | exact counterpaneref5_Col.mono _ _
      | exact counterpaneref5_Id.mono _ _
      | exact counterpaneref5_num.mono _ _ _
      | exact LeO.none _
      | refine LeO.ite ?_ ?_
      | refine LeO.bind ?_ (fun _ => ?_)
    · intro y0 y1 y2 y3 y4 y5 y6 y7 y8
      unfold counterpaneref5_Ref.j6
      repeat' first
      | (with_reducible exact ih0 _ _ _ _ _ _)
      | (with_reducible exact ih1 _ _ _ _ _ _ _)
      | (with_reducible exact ih2 _ _ _ _ _ _)
      | (with_reducible exact ih3 _ _ _ _ _ _ _)
      | (with_reducible exact ih4 _ _ _ _ _ _ _ _ _)
      | (with_reducible exact ih5 _ _ _ _ _ _ _)
      | (with_reducible exact ih6 _ _ _ _ _ _ _)
      | (with_reducible exact counterpaneref5_Col.mono _ _)
      | (with_reducible exact counterpaneref5_Id.mono _ _)
      | (with_reducible exact counterpaneref5_num.mono _ _ _)
      | (with_reducible exact LeO.refl _)
      | (with_reducible exact LeO.none _)
      | (with_reducible refine LeO.ite ?_ ?_)
      | (with_reducible refine LeO.bind ?_ (fun _ => ?_))
      | exact ih0 _ _ _ _ _ _
      | exact ih1 _ _ _ _ _ _ _
      | exact ih2 _ _ _ _ _ _
      | exact ih3 _ _ _ _ _ _ _
      | exact ih4 _ _ _ _ _ _ _ _ _
      | exact ih5 _ _ _ _ _ _ _
      | exact ih6 _ _ _ _ _ _ _
      | exact counterpaneref5_Col.mono _ _
      | exact counterpaneref5_Id.mono _ _
      | exact counterpaneref5_num.mono _ _ _
      | exact LeO.none _
      | refine LeO.ite ?_ ?_
      | refine LeO.bind ?_ (fun _ => ?_)
    · intro y0 y1 y2 y3 y4 y5 y6
      unfold counterpaneref5_Ref.l1
      repeat' first
      | (with_reducible exact ih0 _ _ _ _ _ _)
      | (with_reducible exact ih1 _ _ _ _ _ _ _)
      | (with_reducible exact ih2 _ _ _ _ _ _)
      | (with_reducible exact ih3 _ _ _ _ _ _ _)
      | (with_reducible exact ih4 _ _ _ _ _ _ _ _ _)
      | (with_reducible exact ih5 _ _ _ _ _ _ _)
      | (with_reducible exact ih6 _ _ _ _ _ _ _)
      | (with_reducible exact counterpaneref5_Col.mono _ _)
      | (with_reducible exact counterpaneref5_Id.mono _ _)
      | (with_reducible exact counterpaneref5_num.mono _ _ _)
      | (with_reducible exact LeO.refl _)
      | (with_reducible exact LeO.none _)
      | (with_reducible refine LeO.ite ?_ ?_)
      | (with_reducible refine LeO.bind ?_ (fun _ => ?_))
      | exact ih0 _ _ _ _ _ _
      | exact ih1 _ _ _ _ _ _ _
      | exact ih2 _ _ _ _ _ _
      | exact ih3 _ _ _ _ _ _ _
      | exact ih4 _ _ _ _ _ _ _ _ _
      | exact ih5 _ _ _ _ _ _ _
      | exact ih6 _ _ _ _ _ _ _
      | exact counterpaneref5_Col.mono _ _
      | exact counterpaneref5_Id.mono _ _
      | exact counterpaneref5_num.mono _ _ _
      | exact LeO.none _
      | refine LeO.ite ?_ ?_
      | refine LeO.bind ?_ (fun _ => ?_)
    · intro y0 y1 y2 y3 y4 y5 y6
      unfold counterpaneref5_Ref.l0
      repeat' first
      | (with_reducible exact ih0 _ _ _ _ _ _)
      | (with_reducible exact ih1 _ _ _ _ _ _ _)
      | (with_reducible exact ih2 _ _ _ _ _ _)
      | (with_reducible exact ih3 _ _ _ _ _ _ _)
      | (with_reducible exact ih4 _ _ _ _ _ _ _ _ _)
      | (with_reducible exact ih5 _ _ _ _ _ _ _)
      | (with_reducible exact ih6 _ _ _ _ _ _ _)
      | (with_reducible exact counterpaneref5_Col.mono _ _)
      | (with_reducible exact counterpaneref5_Id.mono _ _)
      | (with_reducible exact counterpaneref5_num.mono _ _ _)
      | (with_reducible exact LeO.refl _)
      | (with_reducible exact LeO.none _)
      | (with_reducible refine LeO.ite ?_ ?_)
      | (with_reducible refine LeO.bind ?_ (fun _ => ?_))
      | exact ih0 _ _ _ _ _ _
      | exact ih1 _ _ _ _ _ _ _
      | exact ih2 _ _ _ _ _ _
      | exact ih3 _ _ _ _ _ _ _
      | exact ih4 _ _ _ _ _ _ _ _ _
      | exact ih5 _ _ _ _ _ _ _
      | exact ih6 _ _ _ _ _ _ _
      | exact counterpaneref5_Col.mono _ _
      | exact counterpaneref5_Id.mono _ _
      | exact counterpaneref5_num.mono _ _ _
      | exact LeO.none _
      | refine LeO.ite ?_ ?_
      | refine LeO.bind ?_ (fun _ => ?_)
theorem counterpaneref5_Ref.mono : ∀ a0 k, LeO (counterpaneref5_Ref.f k a0) (counterpaneref5_Ref.f (k + 1) a0) := by
  intro a0 k
  obtain ⟨ih0, ih1, ih2, ih3, ih4, ih5, ih6⟩ := counterpaneref5_Ref.mono_l k
  unfold counterpaneref5_Ref.f
  repeat' first
      | (with_reducible exact ih0 _ _ _ _ _ _)
      | (with_reducible exact ih1 _ _ _ _ _ _ _)
      | (with_reducible exact ih2 _ _ _ _ _ _)
      | (with_reducible exact ih3 _ _ _ _ _ _ _)
      | (with_reducible exact ih4 _ _ _ _ _ _ _ _ _)
      | (with_reducible exact ih5 _ _ _ _ _ _ _)
      | (with_reducible exact ih6 _ _ _ _ _ _ _)
      | (with_reducible exact counterpaneref5_Col.mono _ _)
      | (with_reducible exact counterpaneref5_Id.mono _ _)
      | (with_reducible exact counterpaneref5_num.mono _ _ _)
      | (with_reducible exact LeO.refl _)
      | (with_reducible exact LeO.none _)
      | (with_reducible refine LeO.ite ?_ ?_)
      | (with_reducible refine LeO.bind ?_ (fun _ => ?_))
      | exact ih0 _ _ _ _ _ _
      | exact ih1 _ _ _ _ _ _ _
      | exact ih2 _ _ _ _ _ _
      | exact ih3 _ _ _ _ _ _ _
      | exact ih4 _ _ _ _ _ _ _ _ _
      | exact ih5 _ _ _ _ _ _ _
      | exact ih6 _ _ _ _ _ _ _
      | exact counterpaneref5_Col.mono _ _
      | exact counterpaneref5_Id.mono _ _
      | exact counterpaneref5_num.mono _ _ _
      | exact LeO.none _
      | refine LeO.ite ?_ ?_
      | refine LeO.bind ?_ (fun _ => ?_)
set_option maxHeartbeats 8000000 in
set_option maxRecDepth 100000 in
theorem counterpaneref5_Ref.calls (k : Nat) (a0 : ByteArray) (r1 : ByteArray) (r2 : Int) (r3 : Int) (r4 : Bool) (r5 : Bool) (r6 : Bool) (w : World) (h : counterpaneref5_Ref.f k a0 = some (r1, r2, r3, r4, r5, r6)) :
    Calls Tryd.prog 10 #[.string a0] w fun e w' => e = .returned (.tuple #[.agg #[.string r1, .int .i64 r2, .int .i64 r3, .bool r4, .bool r5], .bool r6]) ∧ Below w.heap.size w w' := by
  have hu25 := Tryd.underlying25
  have HB := Aside0.mk (Below.refl w.heap.size w)
  have H : (counterpaneref5_Ref.l0 k a0 0 (⟨#[]⟩ : ByteArray) 0 0 false false) = some (r1, r2, r3, r4, r5, r6) := h
  clear h
  have HC2 := Aside0.mk H
  clear H
  go_enter Tryd.func10, Tryd.ntmps10
  go_upto_block 0 with (first | ((with_reducible refine gate_dst (N := 2) rfl ?_); refine box_event ?hg (N := 2) ?hd (cs := #[.string (⟨#[]⟩ : ByteArray), .int .i64 0, .int .i64 0, .bool false, .bool false]) (t := 25) ?hr ?_; (case hd => rfl); (case hg => rfl); (case hr => first | (go_simp; done) | (go_simp; rfl)); intro gb154 hg w3 hbox hb; have n0_ := Aside0.mk (below_step (by repeat (first | (with_reducible first | exact HB.out | apply below_alloc | apply pw_below_drewN | apply below_drew1) | exact HB.out)) hb); have n1_ := Aside0.mk (hbox); have n2_ := Aside0.mk ((by rw [hg]; exact (below_size (by repeat (first | (with_reducible first | exact HB.out | apply below_alloc | apply pw_below_drewN | apply below_drew1) | exact HB.out))) : w.heap.size ≤ gb154)); have n3_ := Aside0.mk ((by rw [hg]; exact (below_size (by repeat (first | (with_reducible first | exact HB.out | apply below_alloc | apply pw_below_drewN | apply below_drew1) | exact HB.out))) : w.heap.size ≤ gb154)); clear HB; have HB := n0_; have BK154 := n1_; have GW154 := n2_; have GE154 := n3_; clear n0_ n1_ n2_ n3_; clear hb hbox hg) | ((with_reducible refine gate_dst (N := 4) rfl ?_); refine box_event ?hg (N := 4) ?hd (cs := #[.string (⟨#[]⟩ : ByteArray), .int .i64 0, .int .i64 0, .bool false, .bool false]) (t := 25) ?hr ?_; (case hd => rfl); (case hg => rfl); (case hr => first | (go_simp; done) | (go_simp; rfl)); intro gb155 hg w4 hbox hb; have n0_ := Aside0.mk (blk_below (g := gb154) (o := .cells #[.string (⟨#[]⟩ : ByteArray), .int .i64 0, .int .i64 0, .bool false, .bool false] 25 (0, 0)) (by (with_reducible repeat (first | refine blk_drewN ?_ _ | refine blk_drew ?_ | refine blk_alloc ?_ _)); exact BK154.out) hb); have n1_ := Aside0.mk (below_step (by repeat (first | (with_reducible first | exact HB.out | apply below_alloc | apply pw_below_drewN | apply below_drew1 | refine below_set ?_ GE154.out) | exact HB.out)) hb); have n2_ := Aside0.mk (hbox); have n3_ := Aside0.mk ((by rw [hg]; exact (below_size (by repeat (first | (with_reducible first | exact HB.out | apply below_alloc | apply pw_below_drewN | apply below_drew1 | refine below_set ?_ GE154.out) | exact HB.out))) : w.heap.size ≤ gb155)); have n4_ := Aside0.mk ((by rw [hg]; exact (below_size (by repeat (first | (with_reducible first | exact HB.out | apply below_alloc | apply pw_below_drewN | apply below_drew1 | refine below_set ?_ GE154.out) | exact HB.out))) : w.heap.size ≤ gb155)); have n5_ := Aside0.mk ((by rw [hg]; exact Nat.ne_of_lt (blk_lt (g := gb154) (o := .cells #[.string (⟨#[]⟩ : ByteArray), .int .i64 0, .int .i64 0, .bool false, .bool false] 25 (0, 0)) (by (with_reducible repeat (first | refine blk_drewN ?_ _ | refine blk_drew ?_ | refine blk_alloc ?_ _)); exact BK154.out)) : gb154 ≠ gb155)); have n6_ := Aside0.mk ((by rw [hg]; exact Nat.ne_of_gt (blk_lt (g := gb154) (o := .cells #[.string (⟨#[]⟩ : ByteArray), .int .i64 0, .int .i64 0, .bool false, .bool false] 25 (0, 0)) (by (with_reducible repeat (first | refine blk_drewN ?_ _ | refine blk_drew ?_ | refine blk_alloc ?_ _)); exact BK154.out)) : gb155 ≠ gb154)); clear BK154; clear HB; have BK154 := n0_; have HB := n1_; have BK155 := n2_; have GW155 := n3_; have GE155 := n4_; have NB154_155 := n5_; have NB155_154 := n6_; clear n0_ n1_ n2_ n3_ n4_ n5_ n6_; clear hb hbox hg))
  (try simp only [Act.put, List.setIfInBounds_toArray, List.set_cons_zero, List.set_cons_succ])
  go_cut [0] (fun v0 wc => ∃ (kq : Nat) (x0_1 : ByteArray) (x155000_1 : ByteArray) (x155001_1 : Int) (x155002_1 : Int) (x155003_1 : Bool) (x155004_1 : Bool) (x156000_1 : ByteArray), v0 = .string x0_1 ∧ Aside0 (counterpaneref5_Ref.j1 kq x0_1 x156000_1 0 0 false false = some (r1, r2, r3, r4, r5, r6)) ∧ Aside0 (kq ≤ k) ∧ Aside0 (wc.heap[gb154]? = some (.cells #[.string x155000_1, .int .i64 x155001_1, .int .i64 x155002_1, .bool x155003_1, .bool x155004_1] 25 (0, 0))) ∧ Aside0 (wc.heap[gb155]? = some (.cells #[.string x156000_1, .int .i64 0, .int .i64 0, .bool false, .bool false] 25 (0, 0))) ∧ Aside0 (Below w.heap.size w wc))
  case first =>
    have H := HC2.out
    clear HC2
    have H' := Aside0.mk H
    clear H
    go_wp2
    go_loopg [0, 5] k (fun kq v0 v5 w' => ∃ (x0_1 : ByteArray) (x5_1 : Int) (x155000_1 : ByteArray) (x155001_1 : Int) (x155002_1 : Int) (x155003_1 : Bool) (x155004_1 : Bool) (x156000_1 : ByteArray), v0 = .string x0_1 ∧ v5 = .int .i64 x5_1 ∧ Aside0 (counterpaneref5_Ref.l0 kq x0_1 x5_1 x156000_1 0 0 false false = some (r1, r2, r3, r4, r5, r6)) ∧ Aside0 (kq ≤ k) ∧ Aside0 (w'.heap[gb154]? = some (.cells #[.string x155000_1, .int .i64 x155001_1, .int .i64 x155002_1, .bool x155003_1, .bool x155004_1] 25 (0, 0))) ∧ Aside0 (w'.heap[gb155]? = some (.cells #[.string x156000_1, .int .i64 0, .int .i64 0, .bool false, .bool false] 25 (0, 0))) ∧ Aside0 (Below w.heap.size w w'))
    case atStart => exact ⟨(a0), (0), ((⟨#[]⟩ : ByteArray)), (0), (0), (false), (false), ((⟨#[]⟩ : ByteArray)), (by first | rfl | (simp; done) | (simp [*]; done)), (by first | rfl | (simp; done) | (simp [*]; done)), H', ⟨Nat.le_refl _⟩, ⟨by (with_reducible repeat (first | refine blk_drewN ?_ _ | refine blk_drew ?_ | refine blk_alloc ?_ _)); exact BK154.out⟩, ⟨by (with_reducible repeat (first | refine blk_drewN ?_ _ | refine blk_drew ?_ | refine blk_alloc ?_ _)); exact BK155.out⟩, ⟨by repeat (first | (with_reducible first | exact HB.out | apply below_alloc | apply pw_below_drewN | apply below_drew1 | refine below_set ?_ GE154.out | refine below_set ?_ GE155.out) | exact HB.out)⟩⟩
    case round =>
      clear H'
      try clear c1
      try clear p2
      obtain ⟨x0_1, x5_1, x155000_1, x155001_1, x155002_1, x155003_1, x155004_1, x156000_1, rfl, rfl, HA, HK1, BK154, BK155, HB⟩ := hrel
      cases gk with
      | zero => exact absurd HA.out (by simp [counterpaneref5_Ref.l0])
      | succ k1 =>
        have H := HA.out
        clear HA
        simp only [counterpaneref5_Ref.l0] at H
        by_cases c5 : x5_1 < (x0_1.size : Int)
        · rw [if_pos c5] at H
          have c5b0 : decide (x5_1 < (x0_1.size : Int)) = true := decide_eq_true c5
          clear c5
          (first | rw [c5b0] | (simp only [i64_w, i32_w]; rw [c5b0]) | skip)
          by_cases c6 : 0 ≤ x5_1
          · rw [if_pos c6] at H
            have c6b0 : decide (0 ≤ x5_1) = true := decide_eq_true c6
            clear c6
            by_cases c8 : (bt x0_1 x5_1) = 33
            · rw [if_pos c8] at H
              have c8b0 : ((bt x0_1 x5_1) == 33) = true := beq_iff_eq.mpr c8
              have c8b1 : ((bt x0_1 x5_1) != 33) = false := bne_eq_false_iff_eq.mpr c8
              clear c8
              have c9b0 := eq_true (of_decide_eq_true (by first | (with_reducible assumption) | assumption) : 0 ≤ x5_1)
              by_cases c10 : x5_1 ≤ (x0_1.size : Int)
              · rw [if_pos c10] at H
                have c10b0 := eq_true c10
                have c10b1 : decide (x5_1 ≤ (x0_1.size : Int)) = true := decide_eq_true c10
                clear c10
                obtain ⟨ji11, hji11⟩ : ∃ j_ : Int, (wrap64 (x5_1 + 1)) = j_ := ⟨_, rfl⟩
                replace H : (if 0 ≤ (ji11) then (if (ji11) ≤ (x0_1.size : Int) then ((counterpaneref5_Id.f k1 (x0_1.extract 0 (x5_1 : Int).toNat)).bind fun t156 => (if t156 = true then (counterpaneref5_Ref.j1 k1 (x0_1.extract ((ji11) : Int).toNat x0_1.size) (x0_1.extract 0 (x5_1 : Int).toNat) 0 0 false false) else (some ((⟨#[]⟩ : ByteArray), 0, 0, false, false, false)))) else (none)) else (none)) = some (r1, r2, r3, r4, r5, r6) := by first | (rw [hji11] at H; exact H) | (simp only [hji11] at H ⊢; exact H)
                have hji11w : (IntKind.i64.wrap (x5_1 + 1)) = ji11 := (i64_w _).trans hji11
                by_cases c12 : 0 ≤ (ji11)
                · rw [if_pos c12] at H
                  have c12b0 := eq_true c12
                  have c12b1 : decide (0 ≤ (ji11)) = true := decide_eq_true c12
                  clear c12
                  by_cases c13 : (ji11) ≤ (x0_1.size : Int)
                  · rw [if_pos c13] at H
                    have c13b0 := eq_true c13
                    have c13b1 : decide ((ji11) ≤ (x0_1.size : Int)) = true := decide_eq_true c13
                    clear c13
                    replace H := Option.bind_eq_some_iff.mp H
                    obtain ⟨t156, A140, H⟩ := H
                    replace H : (if t156 = true then (counterpaneref5_Ref.j1 k1 (x0_1.extract ((ji11) : Int).toNat x0_1.size) (x0_1.extract 0 (x5_1 : Int).toNat) 0 0 false false) else (some ((⟨#[]⟩ : ByteArray), 0, 0, false, false, false))) = some (r1, r2, r3, r4, r5, r6) := H
                    have A14 := Aside0.mk A140
                    clear A140
                    by_cases c15 : t156 = true
                    · subst c15
                      have H1 : (counterpaneref5_Ref.j1 k1 (x0_1.extract ((ji11) : Int).toNat x0_1.size) (x0_1.extract 0 (x5_1 : Int).toNat) 0 0 false false) = some (r1, r2, r3, r4, r5, r6) := by rw [if_pos rfl] at H; exact H
                      clear H
                      have H := H1
                      clear H1
                      have H' := Aside0.mk H
                      clear H
                      have p7 : 0 ≤ (x5_1 : Int) := of_decide_eq_true (by first | (with_reducible assumption) | assumption)
                      have q7 : x5_1 < (x0_1.size : Int) := of_decide_eq_true (by first | (with_reducible assumption) | assumption)
                      have hx7 := bt_at x0_1 x5_1
                      replace p7 := eq_true p7
                      replace q7 := eq_true q7
                      try (have q7z := q7; simp only [ByteArray.size_extract, Nat.min_self] at q7z)
                      have hnb16 := NB155_154.out
                      have hnc16 := NB154_155.out
                      have hcz17_0 : wr.cell? ⟨gb155, 0, none⟩ = some (.string x156000_1) := (blk_cell BK155.out 0).trans rfl
                      have hcz17_1 : wr.cell? ⟨gb155, 1, none⟩ = some (.int .i64 0) := (blk_cell BK155.out 1).trans rfl
                      have hcz17_2 : wr.cell? ⟨gb155, 2, none⟩ = some (.int .i64 0) := (blk_cell BK155.out 2).trans rfl
                      have hcz17_3 : wr.cell? ⟨gb155, 3, none⟩ = some (.bool false) := (blk_cell BK155.out 3).trans rfl
                      have hcz17_4 : wr.cell? ⟨gb155, 4, none⟩ = some (.bool false) := (blk_cell BK155.out 4).trans rfl
                      have hfz17_0 := blk_frozen BK155.out 0
                      have hfz17_1 := blk_frozen BK155.out 1
                      have hfz17_2 := blk_frozen BK155.out 2
                      have hfz17_3 := blk_frozen BK155.out 3
                      have hfz17_4 := blk_frozen BK155.out 4
                      go_wp2_with (first | ((with_reducible refine gate_callee (f := 15) rfl ?_); refine goesL_ (some 30) rfl rfl Tryd.func15 (by kernel_rfl) rfl #[.string (x0_1.extract 0 (x5_1 : Int).toNat)] rfl (by (try simp only [List.map_toArray, List.map_cons, List.map_nil]); first | done | rfl | (simp only [List.length_drop, List.length_take]; rfl)) ?_; (with_reducible refine (counterpaneref5_Id.calls k1 (x0_1.extract 0 (x5_1 : Int).toNat) true _ A14.out).mono ?_); rintro e w' ⟨rfl, ⟨nd, rfl⟩⟩; refine ⟨_, rfl, ?_⟩))
                      go_meet
                      case rel => exact ⟨_, (x0_1.extract ((ji11) : Int).toNat x0_1.size), (x155000_1), (x155001_1), (x155002_1), (x155003_1), (x155004_1), (x0_1.extract 0 (x5_1 : Int).toNat), (by first | rfl | (simp; done) | (simp only [← hji11] <;> (first | rfl | simp)) | (simp [*]; done)), H', ⟨by have := HK1.out; first | omega | exact Nat.le_refl _⟩, ⟨by (with_reducible repeat (first | refine blk_drewN ?_ _ | refine blk_drew ?_ | refine blk_alloc ?_ _)); refine blk_far ?_ NB154_155.out _; (with_reducible repeat (first | refine blk_drewN ?_ _ | refine blk_drew ?_ | refine blk_alloc ?_ _)); exact BK154.out⟩, ⟨by (with_reducible repeat (first | refine blk_drewN ?_ _ | refine blk_drew ?_ | refine blk_alloc ?_ _)); refine blk_put (cs := #[.string x156000_1, .int .i64 0, .int .i64 0, .bool false, .bool false]) ?_ 0 _ rfl; (with_reducible repeat (first | refine blk_drewN ?_ _ | refine blk_drew ?_ | refine blk_alloc ?_ _)); exact BK155.out⟩, ⟨by repeat (first | (with_reducible first | exact HB.out | apply below_alloc | apply pw_below_drewN | apply below_drew1 | refine below_set ?_ GE154.out | refine below_set ?_ GE155.out) | exact HB.out)⟩⟩
                    · replace c15 := Bool.eq_false_iff.mpr c15
                      subst c15
                      have H1 : (some ((⟨#[]⟩ : ByteArray), 0, 0, false, false, false)) = some (r1, r2, r3, r4, r5, r6) := by rw [if_neg (show ¬ (false = true) by decide)] at H; exact H
                      clear H
                      have H := H1
                      clear H1
                      simp only [Option.some.injEq, Prod.mk.injEq] at H
                      obtain ⟨rfl, rfl, rfl, rfl, rfl, rfl⟩ := H
                      have p7 : 0 ≤ (x5_1 : Int) := of_decide_eq_true (by first | (with_reducible assumption) | assumption)
                      have q7 : x5_1 < (x0_1.size : Int) := of_decide_eq_true (by first | (with_reducible assumption) | assumption)
                      have hx7 := bt_at x0_1 x5_1
                      replace p7 := eq_true p7
                      replace q7 := eq_true q7
                      try (have q7z := q7; simp only [ByteArray.size_extract, Nat.min_self] at q7z)
                      have hnb18 := NB155_154.out
                      have hnc18 := NB154_155.out
                      have hcz19_0 : wr.cell? ⟨gb155, 0, none⟩ = some (.string x156000_1) := (blk_cell BK155.out 0).trans rfl
                      have hcz19_1 : wr.cell? ⟨gb155, 1, none⟩ = some (.int .i64 0) := (blk_cell BK155.out 1).trans rfl
                      have hcz19_2 : wr.cell? ⟨gb155, 2, none⟩ = some (.int .i64 0) := (blk_cell BK155.out 2).trans rfl
                      have hcz19_3 : wr.cell? ⟨gb155, 3, none⟩ = some (.bool false) := (blk_cell BK155.out 3).trans rfl
                      have hcz19_4 : wr.cell? ⟨gb155, 4, none⟩ = some (.bool false) := (blk_cell BK155.out 4).trans rfl
                      have hfz19_0 := blk_frozen BK155.out 0
                      have hfz19_1 := blk_frozen BK155.out 1
                      have hfz19_2 := blk_frozen BK155.out 2
                      have hfz19_3 := blk_frozen BK155.out 3
                      have hfz19_4 := blk_frozen BK155.out 4
                      go_wp2_with (first | ((with_reducible refine gate_callee (f := 15) rfl ?_); refine goesL_ (some 30) rfl rfl Tryd.func15 (by kernel_rfl) rfl #[.string (x0_1.extract 0 (x5_1 : Int).toNat)] rfl (by (try simp only [List.map_toArray, List.map_cons, List.map_nil]); first | done | rfl | (simp only [List.length_drop, List.length_take]; rfl)) ?_; (with_reducible refine (counterpaneref5_Id.calls k1 (x0_1.extract 0 (x5_1 : Int).toNat) false _ A14.out).mono ?_); rintro e w' ⟨rfl, ⟨nd, rfl⟩⟩; refine ⟨_, rfl, ?_⟩; have hcz20_0 : wr.cell? ⟨gb154, 0, none⟩ = some (.string x155000_1) := (blk_cell BK154.out 0).trans rfl; have hcz20_1 : wr.cell? ⟨gb154, 1, none⟩ = some (.int .i64 x155001_1) := (blk_cell BK154.out 1).trans rfl; have hcz20_2 : wr.cell? ⟨gb154, 2, none⟩ = some (.int .i64 x155002_1) := (blk_cell BK154.out 2).trans rfl; have hcz20_3 : wr.cell? ⟨gb154, 3, none⟩ = some (.bool x155003_1) := (blk_cell BK154.out 3).trans rfl; have hcz20_4 : wr.cell? ⟨gb154, 4, none⟩ = some (.bool x155004_1) := (blk_cell BK154.out 4).trans rfl; have hfz20_0 := blk_frozen BK154.out 0; have hfz20_1 := blk_frozen BK154.out 1; have hfz20_2 := blk_frozen BK154.out 2; have hfz20_3 := blk_frozen BK154.out 3; have hfz20_4 := blk_frozen BK154.out 4))
                      refine bodyPost_ret (results_ct rfl _ _ gb154 25 #[.string (⟨#[]⟩ : ByteArray), .int .i64 0, .int .i64 0, .bool false, .bool false] (0, 0) _ rfl (by (with_reducible repeat (first | refine blk_drewN ?_ _ | refine blk_drew ?_ | refine blk_alloc ?_ _)); refine blk_put (cs := #[.string (⟨#[]⟩ : ByteArray), .int .i64 0, .int .i64 0, .bool false, .bool x155004_1]) ?_ 4 _ rfl; (with_reducible repeat (first | refine blk_drewN ?_ _ | refine blk_drew ?_ | refine blk_alloc ?_ _)); refine blk_put (cs := #[.string (⟨#[]⟩ : ByteArray), .int .i64 0, .int .i64 0, .bool x155003_1, .bool x155004_1]) ?_ 3 _ rfl; (with_reducible repeat (first | refine blk_drewN ?_ _ | refine blk_drew ?_ | refine blk_alloc ?_ _)); refine blk_put (cs := #[.string (⟨#[]⟩ : ByteArray), .int .i64 0, .int .i64 x155002_1, .bool x155003_1, .bool x155004_1]) ?_ 2 _ rfl; (with_reducible repeat (first | refine blk_drewN ?_ _ | refine blk_drew ?_ | refine blk_alloc ?_ _)); refine blk_put (cs := #[.string (⟨#[]⟩ : ByteArray), .int .i64 x155001_1, .int .i64 x155002_1, .bool x155003_1, .bool x155004_1]) ?_ 1 _ rfl; (with_reducible repeat (first | refine blk_drewN ?_ _ | refine blk_drew ?_ | refine blk_alloc ?_ _)); refine blk_put (cs := #[.string x155000_1, .int .i64 x155001_1, .int .i64 x155002_1, .bool x155003_1, .bool x155004_1]) ?_ 0 _ rfl; (with_reducible repeat (first | refine blk_drewN ?_ _ | refine blk_drew ?_ | refine blk_alloc ?_ _)); refine blk_far ?_ NB154_155.out _; (with_reducible repeat (first | refine blk_drewN ?_ _ | refine blk_drew ?_ | refine blk_alloc ?_ _)); exact BK154.out) Tryd.underlying25 rfl (by kernel_rfl)) rfl ?_
                      exact ⟨by first | rfl | (simp [errW_none, errW_some] <;> rfl) | (simp only [← hji11]; first | rfl | (simp [errW_none, errW_some] <;> rfl)) | (simp [*, errW_none, errW_some] <;> rfl), by repeat (first | (with_reducible first | exact HB.out | apply below_alloc | apply pw_below_drewN | apply below_drew1 | refine below_set ?_ GE154.out | refine below_set ?_ GE155.out) | exact HB.out)⟩
                  · rw [if_neg c13] at H
                    exact absurd H (by simp)
                · rw [if_neg c12] at H
                  exact absurd H (by simp)
              · rw [if_neg c10] at H
                exact absurd H (by simp)
            · rw [if_neg c8] at H
              have c8b0 : ((bt x0_1 x5_1) == 33) = false := beq_eq_false_iff_ne.mpr c8
              have c8b1 : ((bt x0_1 x5_1) != 33) = true := bne_iff_ne.mpr c8
              have H' := Aside0.mk H
              clear H
              have p7 : 0 ≤ (x5_1 : Int) := of_decide_eq_true (by first | (with_reducible assumption) | assumption)
              have q7 : x5_1 < (x0_1.size : Int) := of_decide_eq_true (by first | (with_reducible assumption) | assumption)
              have hx7 := bt_at x0_1 x5_1
              replace p7 := eq_true p7
              replace q7 := eq_true q7
              try (have q7z := q7; simp only [ByteArray.size_extract, Nat.min_self] at q7z)
              go_wp2
              go_roundg k1
              case measure => have := HK1.out; omega
              case rel => exact ⟨(x0_1), (wrap64 (x5_1 + 1)), (x155000_1), (x155001_1), (x155002_1), (x155003_1), (x155004_1), (x156000_1), (by first | rfl | (simp; done) | (simp [*]; done)), (by first | rfl | (simp; done) | (simp [*]; done)), H', ⟨by have := HK1.out; omega⟩, ⟨by (with_reducible repeat (first | refine blk_drewN ?_ _ | refine blk_drew ?_ | refine blk_alloc ?_ _)); exact BK154.out⟩, ⟨by (with_reducible repeat (first | refine blk_drewN ?_ _ | refine blk_drew ?_ | refine blk_alloc ?_ _)); exact BK155.out⟩, ⟨by repeat (first | (with_reducible first | exact HB.out | apply below_alloc | apply pw_below_drewN | apply below_drew1 | refine below_set ?_ GE154.out | refine below_set ?_ GE155.out) | exact HB.out)⟩⟩
          · rw [if_neg c6] at H
            exact absurd H (by simp)
        · rw [if_neg c5] at H
          have c5b0 : decide (x5_1 < (x0_1.size : Int)) = false := decide_eq_false c5
          clear c5
          (first | rw [c5b0] | (simp only [i64_w, i32_w]; rw [c5b0]) | skip)
          have H' := Aside0.mk H
          clear H
          go_wp2
          go_meet
          case rel => exact ⟨_, (x0_1), (x155000_1), (x155001_1), (x155002_1), (x155003_1), (x155004_1), (x156000_1), (by first | rfl | (simp; done) | (simp [*]; done)), H', ⟨by have := HK1.out; first | omega | exact Nat.le_refl _⟩, ⟨by (with_reducible repeat (first | refine blk_drewN ?_ _ | refine blk_drew ?_ | refine blk_alloc ?_ _)); exact BK154.out⟩, ⟨by (with_reducible repeat (first | refine blk_drewN ?_ _ | refine blk_drew ?_ | refine blk_alloc ?_ _)); exact BK155.out⟩, ⟨by repeat (first | (with_reducible first | exact HB.out | apply below_alloc | apply pw_below_drewN | apply below_drew1 | refine below_set ?_ GE154.out | refine below_set ?_ GE155.out) | exact HB.out)⟩⟩
  case rest =>
    clear HC2
    try clear c1
    try clear p2
    try clear c5
    try clear c5b0
    try clear c6
    try clear c6b0
    try clear p6
    try clear p7
    try clear q7
    try clear hx7
    try clear c8
    try clear c8b0
    try clear c8b1
    try clear c9
    try clear c9b0
    try clear c10
    try clear c10b0
    try clear c10b1
    try clear c12
    try clear c12b0
    try clear c12b1
    try clear c13
    try clear c13b0
    try clear c13b1
    try clear c15
    try clear c16
    try clear c18
    try clear hcz17_0
    try clear hcz17_1
    try clear hcz17_2
    try clear hcz17_3
    try clear hcz17_4
    try clear hcz19_0
    try clear hcz19_1
    try clear hcz19_2
    try clear hcz19_3
    try clear hcz19_4
    try clear hcz20_0
    try clear hcz20_1
    try clear hcz20_2
    try clear hcz20_3
    try clear hcz20_4
    try clear hfz17_0
    try clear hfz17_1
    try clear hfz17_2
    try clear hfz17_3
    try clear hfz17_4
    try clear hfz19_0
    try clear hfz19_1
    try clear hfz19_2
    try clear hfz19_3
    try clear hfz19_4
    try clear hfz20_0
    try clear hfz20_1
    try clear hfz20_2
    try clear hfz20_3
    try clear hfz20_4
    try clear p2
    try clear p7
    try clear q7
    obtain ⟨kq, x0_1, x155000_1, x155001_1, x155002_1, x155003_1, x155004_1, x156000_1, rfl, HA, HJ1, BK154, BK155, HB⟩ := hcut
    cases kq with
    | zero => exact absurd HA.out (by simp [counterpaneref5_Ref.j1])
    | succ kj1 =>
      have H := HA.out
      clear HA
      simp only [counterpaneref5_Ref.j1] at H
      have HC21 := Aside0.mk H
      clear H
      go_upto_region 10 with (fail)
      go_cut [40] (fun v40 wc => ∃ (kq : Nat) (x40_20 : Bool), v40 = .bool x40_20 ∧ Aside0 (counterpaneref5_Ref.j2 kq x0_1 x40_20 x156000_1 0 0 false false = some (r1, r2, r3, r4, r5, r6)) ∧ Aside0 (kq ≤ kj1) ∧ Aside0 (wc.heap[gb154]? = some (.cells #[.string x155000_1, .int .i64 x155001_1, .int .i64 x155002_1, .bool x155003_1, .bool x155004_1] 25 (0, 0))) ∧ Aside0 (wc.heap[gb155]? = some (.cells #[.string x156000_1, .int .i64 0, .int .i64 0, .bool false, .bool false] 25 (0, 0))) ∧ Aside0 (Below w.heap.size w wc))
      case first =>
        have H := HC21.out
        clear HC21
        by_cases c22 : (x0_1.size : Int) > 0
        · rw [if_pos c22] at H
          have c22b0 : decide (0 < (x0_1.size : Int)) = true := decide_eq_true c22
          have c22b1 : decide (0 < x0_1.size) = true := decide_eq_true (by omega)
          clear c22
          (first | rw [c22b0] | (simp only [i64_w, i32_w]; rw [c22b0]) | skip)
          by_cases c23 : 0 < (x0_1.size : Int)
          · rw [if_pos c23] at H
            have c23b0 : decide (0 < (x0_1.size : Int)) = true := decide_eq_true c23
            have c23b1 : decide (0 < x0_1.size) = true := decide_eq_true (by omega)
            clear c23
            have H' := Aside0.mk H
            clear H
            have p24 : 0 ≤ (0 : Int) := (by omega)
            have q24 : 0 < x0_1.size := (by have : (0 : Int) < (x0_1.size : Int) := of_decide_eq_true (by first | (with_reducible assumption) | assumption); omega)
            have hx24 : ∀ h : 0 < x0_1.size, ((x0_1[0]'h).toNat : Int) = bt x0_1 0 := bt_at x0_1 0
            clear p24
            have qi24 : (0 < (x0_1.size : Int)) = True := eq_true (of_decide_eq_true (by first | (with_reducible assumption) | assumption))
            replace q24 := eq_true q24
            try (have q24z := q24; simp only [ByteArray.size_extract, Nat.min_self] at q24z)
            go_wp2
            go_meet
            case rel => exact ⟨_, (((bt x0_1 0) == 36)), (by first | rfl | (simp; done) | (simp [*]; done)), H', ⟨by have := HJ1.out; first | omega | exact Nat.le_refl _⟩, ⟨by (with_reducible repeat (first | refine blk_drewN ?_ _ | refine blk_drew ?_ | refine blk_alloc ?_ _)); exact BK154.out⟩, ⟨by (with_reducible repeat (first | refine blk_drewN ?_ _ | refine blk_drew ?_ | refine blk_alloc ?_ _)); exact BK155.out⟩, ⟨by repeat (first | (with_reducible first | exact HB.out | apply below_alloc | apply pw_below_drewN | apply below_drew1 | refine below_set ?_ GE154.out | refine below_set ?_ GE155.out) | exact HB.out)⟩⟩
          · rw [if_neg c23] at H
            exact absurd H (by simp)
        · rw [if_neg c22] at H
          have c22b0 : decide (0 < (x0_1.size : Int)) = false := decide_eq_false c22
          have c22b1 : decide (0 < x0_1.size) = false := decide_eq_false (by omega)
          clear c22
          (first | rw [c22b0] | (simp only [i64_w, i32_w]; rw [c22b0]) | skip)
          have H' := Aside0.mk H
          clear H
          go_wp2
          go_meet
          case rel => exact ⟨_, (false), (by first | rfl | (simp; done) | (simp [*]; done)), H', ⟨by have := HJ1.out; first | omega | exact Nat.le_refl _⟩, ⟨by (with_reducible repeat (first | refine blk_drewN ?_ _ | refine blk_drew ?_ | refine blk_alloc ?_ _)); exact BK154.out⟩, ⟨by (with_reducible repeat (first | refine blk_drewN ?_ _ | refine blk_drew ?_ | refine blk_alloc ?_ _)); exact BK155.out⟩, ⟨by repeat (first | (with_reducible first | exact HB.out | apply below_alloc | apply pw_below_drewN | apply below_drew1 | refine below_set ?_ GE154.out | refine below_set ?_ GE155.out) | exact HB.out)⟩⟩
      case rest =>
        clear HC21
        try clear c1
        try clear c2
        try clear p2
        try clear q2
        try clear hx2
        try clear qi2
        try clear c5
        try clear c5b0
        try clear c6
        try clear c6b0
        try clear p6
        try clear p7
        try clear q7
        try clear hx7
        try clear c8
        try clear c8b0
        try clear c8b1
        try clear c9
        try clear c9b0
        try clear c10
        try clear c10b0
        try clear c10b1
        try clear c12
        try clear c12b0
        try clear c12b1
        try clear c13
        try clear c13b0
        try clear c13b1
        try clear c15
        try clear c16
        try clear c18
        try clear c22
        try clear c22b0
        try clear c22b1
        try clear c23
        try clear c23b0
        try clear c23b1
        try clear p24
        try clear q24
        try clear hx24
        try clear qi24
        try clear hcz17_0
        try clear hcz17_1
        try clear hcz17_2
        try clear hcz17_3
        try clear hcz17_4
        try clear hcz19_0
        try clear hcz19_1
        try clear hcz19_2
        try clear hcz19_3
        try clear hcz19_4
        try clear hcz20_0
        try clear hcz20_1
        try clear hcz20_2
        try clear hcz20_3
        try clear hcz20_4
        try clear hfz17_0
        try clear hfz17_1
        try clear hfz17_2
        try clear hfz17_3
        try clear hfz17_4
        try clear hfz19_0
        try clear hfz19_1
        try clear hfz19_2
        try clear hfz19_3
        try clear hfz19_4
        try clear hfz20_0
        try clear hfz20_1
        try clear hfz20_2
        try clear hfz20_3
        try clear hfz20_4
        try clear p2
        try clear p24
        try clear p6
        try clear p7
        try clear q24
        try clear q7
        obtain ⟨kq, x40_20, rfl, HA, HJ20, BK154, BK155, HB⟩ := hcut
        cases kq with
        | zero => exact absurd HA.out (by simp [counterpaneref5_Ref.j2])
        | succ kj20 =>
          have H := HA.out
          clear HA
          simp only [counterpaneref5_Ref.j2] at H
          have HC25 := Aside0.mk H
          clear H
          go_upto_if 40 with (fail)
          go_cut [0] (fun v0 wc => ∃ (kq : Nat) (x0_24 : ByteArray) (x156004_24 : Bool), v0 = .string x0_24 ∧ Aside0 (counterpaneref5_Ref.j3 kq x0_24 x156000_1 0 0 false x156004_24 = some (r1, r2, r3, r4, r5, r6)) ∧ Aside0 (kq ≤ kj20) ∧ Aside0 (wc.heap[gb154]? = some (.cells #[.string x155000_1, .int .i64 x155001_1, .int .i64 x155002_1, .bool x155003_1, .bool x155004_1] 25 (0, 0))) ∧ Aside0 (wc.heap[gb155]? = some (.cells #[.string x156000_1, .int .i64 0, .int .i64 0, .bool false, .bool x156004_24] 25 (0, 0))) ∧ Aside0 (Below w.heap.size w wc))
          case first =>
            have H := HC25.out
            clear HC25
            by_cases c26 : x40_20 = true
            · subst c26
              have H1 : (if 1 ≤ (x0_1.size : Int) then (counterpaneref5_Ref.j3 kj20 (x0_1.extract 1 x0_1.size) x156000_1 0 0 false true) else (none)) = some (r1, r2, r3, r4, r5, r6) := by rw [if_pos rfl] at H; exact H
              clear H
              have H := H1
              clear H1
              by_cases c27 : 1 ≤ (x0_1.size : Int)
              · rw [if_pos c27] at H
                have c27b0 := eq_true c27
                have c27b1 : decide (1 ≤ (x0_1.size : Int)) = true := decide_eq_true c27
                clear c27
                have H' := Aside0.mk H
                clear H
                have hnb28 := NB155_154.out
                have hnc28 := NB154_155.out
                have hcz29_0 : wc.cell? ⟨gb155, 0, none⟩ = some (.string x156000_1) := (blk_cell BK155.out 0).trans rfl
                have hcz29_1 : wc.cell? ⟨gb155, 1, none⟩ = some (.int .i64 0) := (blk_cell BK155.out 1).trans rfl
                have hcz29_2 : wc.cell? ⟨gb155, 2, none⟩ = some (.int .i64 0) := (blk_cell BK155.out 2).trans rfl
                have hcz29_3 : wc.cell? ⟨gb155, 3, none⟩ = some (.bool false) := (blk_cell BK155.out 3).trans rfl
                have hcz29_4 : wc.cell? ⟨gb155, 4, none⟩ = some (.bool false) := (blk_cell BK155.out 4).trans rfl
                have hfz29_0 := blk_frozen BK155.out 0
                have hfz29_1 := blk_frozen BK155.out 1
                have hfz29_2 := blk_frozen BK155.out 2
                have hfz29_3 := blk_frozen BK155.out 3
                have hfz29_4 := blk_frozen BK155.out 4
                go_wp2
                go_meet
                case rel => exact ⟨_, (x0_1.extract 1 x0_1.size), (true), (by first | rfl | (simp; done) | (simp [*]; done)), H', ⟨by have := HJ1.out; have := HJ20.out; first | omega | exact Nat.le_refl _⟩, ⟨by (with_reducible repeat (first | refine blk_drewN ?_ _ | refine blk_drew ?_ | refine blk_alloc ?_ _)); refine blk_far ?_ NB154_155.out _; (with_reducible repeat (first | refine blk_drewN ?_ _ | refine blk_drew ?_ | refine blk_alloc ?_ _)); exact BK154.out⟩, ⟨by (with_reducible repeat (first | refine blk_drewN ?_ _ | refine blk_drew ?_ | refine blk_alloc ?_ _)); refine blk_put (cs := #[.string x156000_1, .int .i64 0, .int .i64 0, .bool false, .bool false]) ?_ 4 _ rfl; (with_reducible repeat (first | refine blk_drewN ?_ _ | refine blk_drew ?_ | refine blk_alloc ?_ _)); exact BK155.out⟩, ⟨by repeat (first | (with_reducible first | exact HB.out | apply below_alloc | apply pw_below_drewN | apply below_drew1 | refine below_set ?_ GE154.out | refine below_set ?_ GE155.out) | exact HB.out)⟩⟩
              · rw [if_neg c27] at H
                exact absurd H (by simp)
            · replace c26 := Bool.eq_false_iff.mpr c26
              subst c26
              have H1 : (counterpaneref5_Ref.j3 kj20 x0_1 x156000_1 0 0 false false) = some (r1, r2, r3, r4, r5, r6) := by rw [if_neg (show ¬ (false = true) by decide)] at H; exact H
              clear H
              have H := H1
              clear H1
              have H' := Aside0.mk H
              clear H
              go_wp2
              go_meet
              case rel => exact ⟨_, (x0_1), (false), (by first | rfl | (simp; done) | (simp [*]; done)), H', ⟨by have := HJ1.out; have := HJ20.out; first | omega | exact Nat.le_refl _⟩, ⟨by (with_reducible repeat (first | refine blk_drewN ?_ _ | refine blk_drew ?_ | refine blk_alloc ?_ _)); exact BK154.out⟩, ⟨by (with_reducible repeat (first | refine blk_drewN ?_ _ | refine blk_drew ?_ | refine blk_alloc ?_ _)); exact BK155.out⟩, ⟨by repeat (first | (with_reducible first | exact HB.out | apply below_alloc | apply pw_below_drewN | apply below_drew1 | refine below_set ?_ GE154.out | refine below_set ?_ GE155.out) | exact HB.out)⟩⟩
          case rest =>
            clear HC25
            try clear c1
            try clear c2
            try clear p2
            try clear q2
            try clear hx2
            try clear qi2
            try clear c5
            try clear c5b0
            try clear c6
            try clear c6b0
            try clear p6
            try clear p7
            try clear q7
            try clear hx7
            try clear c8
            try clear c8b0
            try clear c8b1
            try clear c9
            try clear c9b0
            try clear c10
            try clear c10b0
            try clear c10b1
            try clear c12
            try clear c12b0
            try clear c12b1
            try clear c13
            try clear c13b0
            try clear c13b1
            try clear c15
            try clear c16
            try clear c18
            try clear c22
            try clear c22b0
            try clear c22b1
            try clear c23
            try clear c23b0
            try clear c23b1
            try clear p24
            try clear q24
            try clear hx24
            try clear qi24
            try clear c26
            try clear c27
            try clear c27b0
            try clear c27b1
            try clear c28
            try clear hcz17_0
            try clear hcz17_1
            try clear hcz17_2
            try clear hcz17_3
            try clear hcz17_4
            try clear hcz19_0
            try clear hcz19_1
            try clear hcz19_2
            try clear hcz19_3
            try clear hcz19_4
            try clear hcz20_0
            try clear hcz20_1
            try clear hcz20_2
            try clear hcz20_3
            try clear hcz20_4
            try clear hcz29_0
            try clear hcz29_1
            try clear hcz29_2
            try clear hcz29_3
            try clear hcz29_4
            try clear hfz17_0
            try clear hfz17_1
            try clear hfz17_2
            try clear hfz17_3
            try clear hfz17_4
            try clear hfz19_0
            try clear hfz19_1
            try clear hfz19_2
            try clear hfz19_3
            try clear hfz19_4
            try clear hfz20_0
            try clear hfz20_1
            try clear hfz20_2
            try clear hfz20_3
            try clear hfz20_4
            try clear hfz29_0
            try clear hfz29_1
            try clear hfz29_2
            try clear hfz29_3
            try clear hfz29_4
            try clear p2
            try clear p24
            try clear p6
            try clear p7
            try clear q2
            try clear q24
            try clear q7
            obtain ⟨kq, x0_24, x156004_24, rfl, HA, HJ24, BK154, BK155, HB⟩ := hcut
            cases kq with
            | zero => exact absurd HA.out (by simp [counterpaneref5_Ref.j3])
            | succ kj24 =>
              have H := HA.out
              clear HA
              simp only [counterpaneref5_Ref.j3] at H
              have HC30 := Aside0.mk H
              clear H
              go_upto_block 2 with (fail)
              go_cut [6] (fun v6 wc => ∃ (kq : Nat) (x6_29 : Int), v6 = .int .i64 x6_29 ∧ Aside0 (counterpaneref5_Ref.j5 kq x0_24 x6_29 x156000_1 0 0 false x156004_24 = some (r1, r2, r3, r4, r5, r6)) ∧ Aside0 (kq ≤ kj24) ∧ Aside0 (wc.heap[gb154]? = some (.cells #[.string x155000_1, .int .i64 x155001_1, .int .i64 x155002_1, .bool x155003_1, .bool x155004_1] 25 (0, 0))) ∧ Aside0 (wc.heap[gb155]? = some (.cells #[.string x156000_1, .int .i64 0, .int .i64 0, .bool false, .bool x156004_24] 25 (0, 0))) ∧ Aside0 (Below w.heap.size w wc))
              case first =>
                have H := HC30.out
                clear HC30
                have H' := Aside0.mk H
                clear H
                go_wp2
                go_loopg [6] kj24 (fun kq v6 w' => ∃ (x6_4 : Int), v6 = .int .i64 x6_4 ∧ Aside0 (counterpaneref5_Ref.l1 kq x0_24 x6_4 x156000_1 0 0 false x156004_24 = some (r1, r2, r3, r4, r5, r6)) ∧ Aside0 (kq ≤ kj24) ∧ Aside0 (w'.heap[gb154]? = some (.cells #[.string x155000_1, .int .i64 x155001_1, .int .i64 x155002_1, .bool x155003_1, .bool x155004_1] 25 (0, 0))) ∧ Aside0 (w'.heap[gb155]? = some (.cells #[.string x156000_1, .int .i64 0, .int .i64 0, .bool false, .bool x156004_24] 25 (0, 0))) ∧ Aside0 (Below w.heap.size w w'))
                case atStart => exact ⟨(0), (by first | rfl | (simp; done) | (simp [*]; done)), H', ⟨Nat.le_refl _⟩, ⟨by (with_reducible repeat (first | refine blk_drewN ?_ _ | refine blk_drew ?_ | refine blk_alloc ?_ _)); exact BK154.out⟩, ⟨by (with_reducible repeat (first | refine blk_drewN ?_ _ | refine blk_drew ?_ | refine blk_alloc ?_ _)); exact BK155.out⟩, ⟨by repeat (first | (with_reducible first | exact HB.out | apply below_alloc | apply pw_below_drewN | apply below_drew1 | refine below_set ?_ GE154.out | refine below_set ?_ GE155.out) | exact HB.out)⟩⟩
                case round =>
                  clear H'
                  try clear c1
                  try clear c2
                  try clear p2
                  try clear q2
                  try clear hx2
                  try clear qi2
                  try clear c5
                  try clear c5b0
                  try clear c6
                  try clear c6b0
                  try clear p6
                  try clear p7
                  try clear q7
                  try clear hx7
                  try clear c8
                  try clear c8b0
                  try clear c8b1
                  try clear c9
                  try clear c9b0
                  try clear c10
                  try clear c10b0
                  try clear c10b1
                  try clear c12
                  try clear c12b0
                  try clear c12b1
                  try clear c13
                  try clear c13b0
                  try clear c13b1
                  try clear c15
                  try clear c16
                  try clear c18
                  try clear c22
                  try clear c22b0
                  try clear c22b1
                  try clear c23
                  try clear c23b0
                  try clear c23b1
                  try clear p24
                  try clear q24
                  try clear hx24
                  try clear qi24
                  try clear c26
                  try clear c27
                  try clear c27b0
                  try clear c27b1
                  try clear c28
                  try clear hcz17_0
                  try clear hcz17_1
                  try clear hcz17_2
                  try clear hcz17_3
                  try clear hcz17_4
                  try clear hcz19_0
                  try clear hcz19_1
                  try clear hcz19_2
                  try clear hcz19_3
                  try clear hcz19_4
                  try clear hcz20_0
                  try clear hcz20_1
                  try clear hcz20_2
                  try clear hcz20_3
                  try clear hcz20_4
                  try clear hcz29_0
                  try clear hcz29_1
                  try clear hcz29_2
                  try clear hcz29_3
                  try clear hcz29_4
                  try clear hfz17_0
                  try clear hfz17_1
                  try clear hfz17_2
                  try clear hfz17_3
                  try clear hfz17_4
                  try clear hfz19_0
                  try clear hfz19_1
                  try clear hfz19_2
                  try clear hfz19_3
                  try clear hfz19_4
                  try clear hfz20_0
                  try clear hfz20_1
                  try clear hfz20_2
                  try clear hfz20_3
                  try clear hfz20_4
                  try clear hfz29_0
                  try clear hfz29_1
                  try clear hfz29_2
                  try clear hfz29_3
                  try clear hfz29_4
                  try clear p2
                  try clear p24
                  try clear p6
                  try clear p7
                  try clear q2
                  try clear q24
                  try clear q7
                  obtain ⟨x6_4, rfl, HA, HK4, BK154, BK155, HB⟩ := hrel
                  cases gk with
                  | zero => exact absurd HA.out (by simp [counterpaneref5_Ref.l1])
                  | succ k4 =>
                    have H := HA.out
                    clear HA
                    simp only [counterpaneref5_Ref.l1] at H
                    by_cases c31 : x6_4 < (x0_24.size : Int)
                    · rw [if_pos c31] at H
                      have c31b0 : decide (x6_4 < (x0_24.size : Int)) = true := decide_eq_true c31
                      clear c31
                      (first | rw [c31b0] | (simp only [i64_w, i32_w]; rw [c31b0]) | skip)
                      by_cases c32 : 0 ≤ x6_4
                      · rw [if_pos c32] at H
                        have c32b0 : decide (0 ≤ x6_4) = true := decide_eq_true c32
                        clear c32
                        by_cases c34 : (bt x0_24 x6_4) ≥ 65
                        · rw [if_pos c34] at H
                          have c34b0 : decide (65 ≤ (bt x0_24 x6_4)) = true := decide_eq_true c34
                          clear c34
                          by_cases c36 : (bt x0_24 x6_4) ≤ 90
                          · rw [if_pos c36] at H
                            have c36b0 : decide ((bt x0_24 x6_4) ≤ 90) = true := decide_eq_true c36
                            clear c36
                            have H' := Aside0.mk H
                            clear H
                            have p33 : 0 ≤ (x6_4 : Int) := of_decide_eq_true (by first | (with_reducible assumption) | assumption)
                            have q33 : x6_4 < (x0_24.size : Int) := of_decide_eq_true (by first | (with_reducible assumption) | assumption)
                            have hx33 := bt_at x0_24 x6_4
                            replace p33 := eq_true p33
                            replace q33 := eq_true q33
                            try (have q33z := q33; simp only [ByteArray.size_extract, Nat.min_self] at q33z)
                            have p35 : 0 ≤ (x6_4 : Int) := of_decide_eq_true (by first | (with_reducible assumption) | assumption)
                            have q35 : x6_4 < (x0_24.size : Int) := of_decide_eq_true (by first | (with_reducible assumption) | assumption)
                            have hx35 := bt_at x0_24 x6_4
                            replace p35 := eq_true p35
                            replace q35 := eq_true q35
                            try (have q35z := q35; simp only [ByteArray.size_extract, Nat.min_self] at q35z)
                            go_wp2
                            go_roundg k4
                            case measure => have := HJ1.out; have := HJ20.out; have := HJ24.out; have := HK4.out; omega
                            case rel => exact ⟨(wrap64 (x6_4 + 1)), (by first | rfl | (simp; done) | (simp [*]; done)), H', ⟨by have := HJ1.out; have := HJ20.out; have := HJ24.out; have := HK4.out; omega⟩, ⟨by (with_reducible repeat (first | refine blk_drewN ?_ _ | refine blk_drew ?_ | refine blk_alloc ?_ _)); exact BK154.out⟩, ⟨by (with_reducible repeat (first | refine blk_drewN ?_ _ | refine blk_drew ?_ | refine blk_alloc ?_ _)); exact BK155.out⟩, ⟨by repeat (first | (with_reducible first | exact HB.out | apply below_alloc | apply pw_below_drewN | apply below_drew1 | refine below_set ?_ GE154.out | refine below_set ?_ GE155.out) | exact HB.out)⟩⟩
                          · rw [if_neg c36] at H
                            have c36b0 : decide ((bt x0_24 x6_4) ≤ 90) = false := decide_eq_false c36
                            clear c36
                            have H' := Aside0.mk H
                            clear H
                            have p33 : 0 ≤ (x6_4 : Int) := of_decide_eq_true (by first | (with_reducible assumption) | assumption)
                            have q33 : x6_4 < (x0_24.size : Int) := of_decide_eq_true (by first | (with_reducible assumption) | assumption)
                            have hx33 := bt_at x0_24 x6_4
                            replace p33 := eq_true p33
                            replace q33 := eq_true q33
                            try (have q33z := q33; simp only [ByteArray.size_extract, Nat.min_self] at q33z)
                            have p35 : 0 ≤ (x6_4 : Int) := of_decide_eq_true (by first | (with_reducible assumption) | assumption)
                            have q35 : x6_4 < (x0_24.size : Int) := of_decide_eq_true (by first | (with_reducible assumption) | assumption)
                            have hx35 := bt_at x0_24 x6_4
                            replace p35 := eq_true p35
                            replace q35 := eq_true q35
                            try (have q35z := q35; simp only [ByteArray.size_extract, Nat.min_self] at q35z)
                            go_wp2
                            go_meet
                            case rel => exact ⟨_, (x6_4), (by first | rfl | (simp; done) | (simp [*]; done)), H', ⟨by have := HJ1.out; have := HJ20.out; have := HJ24.out; have := HK4.out; first | omega | exact Nat.le_refl _⟩, ⟨by (with_reducible repeat (first | refine blk_drewN ?_ _ | refine blk_drew ?_ | refine blk_alloc ?_ _)); exact BK154.out⟩, ⟨by (with_reducible repeat (first | refine blk_drewN ?_ _ | refine blk_drew ?_ | refine blk_alloc ?_ _)); exact BK155.out⟩, ⟨by repeat (first | (with_reducible first | exact HB.out | apply below_alloc | apply pw_below_drewN | apply below_drew1 | refine below_set ?_ GE154.out | refine below_set ?_ GE155.out) | exact HB.out)⟩⟩
                        · rw [if_neg c34] at H
                          have c34b0 : decide (65 ≤ (bt x0_24 x6_4)) = false := decide_eq_false c34
                          clear c34
                          have H' := Aside0.mk H
                          clear H
                          have p33 : 0 ≤ (x6_4 : Int) := of_decide_eq_true (by first | (with_reducible assumption) | assumption)
                          have q33 : x6_4 < (x0_24.size : Int) := of_decide_eq_true (by first | (with_reducible assumption) | assumption)
                          have hx33 := bt_at x0_24 x6_4
                          replace p33 := eq_true p33
                          replace q33 := eq_true q33
                          try (have q33z := q33; simp only [ByteArray.size_extract, Nat.min_self] at q33z)
                          go_wp2
                          go_meet
                          case rel => exact ⟨_, (x6_4), (by first | rfl | (simp; done) | (simp [*]; done)), H', ⟨by have := HJ1.out; have := HJ20.out; have := HJ24.out; have := HK4.out; first | omega | exact Nat.le_refl _⟩, ⟨by (with_reducible repeat (first | refine blk_drewN ?_ _ | refine blk_drew ?_ | refine blk_alloc ?_ _)); exact BK154.out⟩, ⟨by (with_reducible repeat (first | refine blk_drewN ?_ _ | refine blk_drew ?_ | refine blk_alloc ?_ _)); exact BK155.out⟩, ⟨by repeat (first | (with_reducible first | exact HB.out | apply below_alloc | apply pw_below_drewN | apply below_drew1 | refine below_set ?_ GE154.out | refine below_set ?_ GE155.out) | exact HB.out)⟩⟩
                      · rw [if_neg c32] at H
                        exact absurd H (by simp)
                    · rw [if_neg c31] at H
                      have c31b0 : decide (x6_4 < (x0_24.size : Int)) = false := decide_eq_false c31
                      clear c31
                      (first | rw [c31b0] | (simp only [i64_w, i32_w]; rw [c31b0]) | skip)
                      have H' := Aside0.mk H
                      clear H
                      go_wp2
                      go_meet
                      case rel => exact ⟨_, (x6_4), (by first | rfl | (simp; done) | (simp [*]; done)), H', ⟨by have := HJ1.out; have := HJ20.out; have := HJ24.out; have := HK4.out; first | omega | exact Nat.le_refl _⟩, ⟨by (with_reducible repeat (first | refine blk_drewN ?_ _ | refine blk_drew ?_ | refine blk_alloc ?_ _)); exact BK154.out⟩, ⟨by (with_reducible repeat (first | refine blk_drewN ?_ _ | refine blk_drew ?_ | refine blk_alloc ?_ _)); exact BK155.out⟩, ⟨by repeat (first | (with_reducible first | exact HB.out | apply below_alloc | apply pw_below_drewN | apply below_drew1 | refine below_set ?_ GE154.out | refine below_set ?_ GE155.out) | exact HB.out)⟩⟩
              case rest =>
                clear HC30
                try clear c1
                try clear c2
                try clear p2
                try clear q2
                try clear hx2
                try clear qi2
                try clear c3
                try clear p3
                try clear q3
                try clear hx3
                try clear c5
                try clear c5b0
                try clear c6
                try clear c6b0
                try clear p6
                try clear p7
                try clear q7
                try clear hx7
                try clear c8
                try clear c8b0
                try clear c8b1
                try clear c9
                try clear c9b0
                try clear c10
                try clear c10b0
                try clear c10b1
                try clear c12
                try clear c12b0
                try clear c12b1
                try clear c13
                try clear c13b0
                try clear c13b1
                try clear c15
                try clear c16
                try clear c18
                try clear c22
                try clear c22b0
                try clear c22b1
                try clear c23
                try clear c23b0
                try clear c23b1
                try clear p24
                try clear q24
                try clear hx24
                try clear qi24
                try clear c26
                try clear c27
                try clear c27b0
                try clear c27b1
                try clear c28
                try clear c31
                try clear c31b0
                try clear c32
                try clear c32b0
                try clear p33
                try clear q33
                try clear hx33
                try clear c34
                try clear c34b0
                try clear p35
                try clear q35
                try clear hx35
                try clear c36
                try clear c36b0
                try clear hcz17_0
                try clear hcz17_1
                try clear hcz17_2
                try clear hcz17_3
                try clear hcz17_4
                try clear hcz19_0
                try clear hcz19_1
                try clear hcz19_2
                try clear hcz19_3
                try clear hcz19_4
                try clear hcz20_0
                try clear hcz20_1
                try clear hcz20_2
                try clear hcz20_3
                try clear hcz20_4
                try clear hcz29_0
                try clear hcz29_1
                try clear hcz29_2
                try clear hcz29_3
                try clear hcz29_4
                try clear hfz17_0
                try clear hfz17_1
                try clear hfz17_2
                try clear hfz17_3
                try clear hfz17_4
                try clear hfz19_0
                try clear hfz19_1
                try clear hfz19_2
                try clear hfz19_3
                try clear hfz19_4
                try clear hfz20_0
                try clear hfz20_1
                try clear hfz20_2
                try clear hfz20_3
                try clear hfz20_4
                try clear hfz29_0
                try clear hfz29_1
                try clear hfz29_2
                try clear hfz29_3
                try clear hfz29_4
                try clear p2
                try clear p24
                try clear p33
                try clear p35
                try clear p6
                try clear p7
                try clear q2
                try clear q24
                try clear q33
                try clear q35
                try clear q7
                obtain ⟨kq, x6_29, rfl, HA, HJ29, BK154, BK155, HB⟩ := hcut
                cases kq with
                | zero => exact absurd HA.out (by simp [counterpaneref5_Ref.j5])
                | succ kj29 =>
                  have H := HA.out
                  clear HA
                  simp only [counterpaneref5_Ref.j5] at H
                  by_cases c37 : 0 ≤ x6_29
                  · rw [if_pos c37] at H
                    have c37b0 := eq_true c37
                    have c37b1 : decide (0 ≤ x6_29) = true := decide_eq_true c37
                    clear c37
                    by_cases c38 : x6_29 ≤ (x0_24.size : Int)
                    · rw [if_pos c38] at H
                      have c38b0 := eq_true c38
                      have c38b1 : decide (x6_29 ≤ (x0_24.size : Int)) = true := decide_eq_true c38
                      clear c38
                      replace H := Option.bind_eq_some_iff.mp H
                      obtain ⟨⟨t157, t158⟩, A390, H⟩ := H
                      replace H : (if ((x0_24.extract (x6_29 : Int).toNat x0_24.size).size : Int) > 0 then (if 0 < ((x0_24.extract (x6_29 : Int).toNat x0_24.size).size : Int) then (counterpaneref5_Ref.j6 kj29 (x0_24.extract (x6_29 : Int).toNat x0_24.size) t157 t158 ((bt (x0_24.extract (x6_29 : Int).toNat x0_24.size) 0) == 36) x156000_1 0 0 false x156004_24) else (none)) else (counterpaneref5_Ref.j6 kj29 (x0_24.extract (x6_29 : Int).toNat x0_24.size) t157 t158 false x156000_1 0 0 false x156004_24)) = some (r1, r2, r3, r4, r5, r6) := H
                      have A39 := Aside0.mk A390
                      clear A390
                      have c40b0 := eq_true (of_decide_eq_true (by first | (with_reducible assumption) | assumption) : 0 ≤ x6_29)
                      have c41b0 := eq_true (of_decide_eq_true (by first | (with_reducible assumption) | assumption) : x6_29 ≤ (x0_24.size : Int))
                      have HC42 := Aside0.mk H
                      clear H
                      go_upto_region 18 with (first | ((with_reducible refine gate_callee (f := 12) rfl ?_); refine goesL_ (some 66) rfl rfl Tryd.func12 (by kernel_rfl) rfl #[.string (x0_24.extract 0 (x6_29 : Int).toNat)] rfl (by (try simp only [List.map_toArray, List.map_cons, List.map_nil]); first | done | rfl | (simp only [List.length_drop, List.length_take]; rfl)) ?_; (with_reducible refine (counterpaneref5_Col.calls kj29 (x0_24.extract 0 (x6_29 : Int).toNat) t157 t158 _ A39.out).mono ?_); rintro e w' ⟨rfl, ⟨nd, rfl⟩⟩; refine ⟨_, rfl, ?_⟩))
                      (try simp only [Act.put, List.setIfInBounds_toArray, List.set_cons_zero, List.set_cons_succ])
                      obtain ⟨xx, hxx⟩ : ∃ x_, x0_24.extract (x6_29 : Int).toNat x0_24.size = x_ := ⟨_, rfl⟩
                      have HCx := Aside0.mk HC42.out
                      clear HC42
                      rw [hxx] at HCx
                      have HC42 := HCx
                      clear HCx
                      try rw [hxx]
                      try simp only [hxx]
                      clear hxx
                      go_cut [79] (fun v79 wc => ∃ (kq : Nat) (x79_41 : Bool), v79 = .bool x79_41 ∧ Aside0 (counterpaneref5_Ref.j6 kq xx t157 t158 x79_41 x156000_1 0 0 false x156004_24 = some (r1, r2, r3, r4, r5, r6)) ∧ Aside0 (kq ≤ kj29) ∧ Aside0 (wc.heap[gb154]? = some (.cells #[.string x155000_1, .int .i64 x155001_1, .int .i64 x155002_1, .bool x155003_1, .bool x155004_1] 25 (0, 0))) ∧ Aside0 (wc.heap[gb155]? = some (.cells #[.string x156000_1, .int .i64 0, .int .i64 0, .bool false, .bool x156004_24] 25 (0, 0))) ∧ Aside0 (Below w.heap.size w wc))
                      case first =>
                        have H := HC42.out
                        clear HC42
                        by_cases c43 : (xx.size : Int) > 0
                        · rw [if_pos c43] at H
                          have c43b0 : decide (0 < (xx.size : Int)) = true := decide_eq_true c43
                          try (have c43b0z := c43b0; simp only [ByteArray.size_extract, Nat.min_self] at c43b0z)
                          try (have c43b0y := eq_true (of_decide_eq_true c43b0); simp only [ByteArray.size_extract, Nat.min_self] at c43b0y)
                          have c43b1 : decide (0 < xx.size) = true := decide_eq_true (by omega)
                          try (have c43b1z := c43b1; simp only [ByteArray.size_extract, Nat.min_self] at c43b1z)
                          try (have c43b1y := eq_true (of_decide_eq_true c43b1); simp only [ByteArray.size_extract, Nat.min_self] at c43b1y)
                          clear c43
                          (first | rw [c43b0] | (simp only [i64_w, i32_w]; rw [c43b0]) | skip)
                          by_cases c44 : 0 < (xx.size : Int)
                          · rw [if_pos c44] at H
                            have c44b0 : decide (0 < (xx.size : Int)) = true := decide_eq_true c44
                            try (have c44b0z := c44b0; simp only [ByteArray.size_extract, Nat.min_self] at c44b0z)
                            try (have c44b0y := eq_true (of_decide_eq_true c44b0); simp only [ByteArray.size_extract, Nat.min_self] at c44b0y)
                            have c44b1 : decide (0 < xx.size) = true := decide_eq_true (by omega)
                            try (have c44b1z := c44b1; simp only [ByteArray.size_extract, Nat.min_self] at c44b1z)
                            try (have c44b1y := eq_true (of_decide_eq_true c44b1); simp only [ByteArray.size_extract, Nat.min_self] at c44b1y)
                            clear c44
                            have H' := Aside0.mk H
                            clear H
                            have p45 : 0 ≤ (0 : Int) := (by omega)
                            have q45 : 0 < xx.size := (by have : (0 : Int) < (xx.size : Int) := of_decide_eq_true (by first | (with_reducible assumption) | assumption); omega)
                            have hx45 : ∀ h : 0 < xx.size, ((xx[0]'h).toNat : Int) = bt xx 0 := bt_at xx 0
                            clear p45
                            have qi45 : (0 < (xx.size : Int)) = True := eq_true (of_decide_eq_true (by first | (with_reducible assumption) | assumption))
                            try (have qi45z := qi45; simp only [ByteArray.size_extract, Nat.min_self] at qi45z)
                            replace q45 := eq_true q45
                            try (have q45z := q45; simp only [ByteArray.size_extract, Nat.min_self] at q45z)
                            go_wp2
                            go_meet
                            case rel => exact ⟨_, (((bt xx 0) == 36)), (by first | rfl | (simp; done) | (simp [*]; done)), H', ⟨by have := HJ1.out; have := HJ20.out; have := HJ24.out; have := HJ29.out; first | omega | exact Nat.le_refl _⟩, ⟨by (with_reducible repeat (first | refine blk_drewN ?_ _ | refine blk_drew ?_ | refine blk_alloc ?_ _)); exact BK154.out⟩, ⟨by (with_reducible repeat (first | refine blk_drewN ?_ _ | refine blk_drew ?_ | refine blk_alloc ?_ _)); exact BK155.out⟩, ⟨by repeat (first | (with_reducible first | exact HB.out | apply below_alloc | apply pw_below_drewN | apply below_drew1 | refine below_set ?_ GE154.out | refine below_set ?_ GE155.out) | exact HB.out)⟩⟩
                          · rw [if_neg c44] at H
                            exact absurd H (by simp)
                        · rw [if_neg c43] at H
                          have c43b0 : decide (0 < (xx.size : Int)) = false := decide_eq_false c43
                          try (have c43b0z := c43b0; simp only [ByteArray.size_extract, Nat.min_self] at c43b0z)
                          try (have c43b0y := eq_false (of_decide_eq_false c43b0); simp only [ByteArray.size_extract, Nat.min_self] at c43b0y)
                          have c43b1 : decide (0 < xx.size) = false := decide_eq_false (by omega)
                          try (have c43b1z := c43b1; simp only [ByteArray.size_extract, Nat.min_self] at c43b1z)
                          try (have c43b1y := eq_false (of_decide_eq_false c43b1); simp only [ByteArray.size_extract, Nat.min_self] at c43b1y)
                          clear c43
                          (first | rw [c43b0] | (simp only [i64_w, i32_w]; rw [c43b0]) | skip)
                          have H' := Aside0.mk H
                          clear H
                          go_wp2
                          go_meet
                          case rel => exact ⟨_, (false), (by first | rfl | (simp; done) | (simp [*]; done)), H', ⟨by have := HJ1.out; have := HJ20.out; have := HJ24.out; have := HJ29.out; first | omega | exact Nat.le_refl _⟩, ⟨by (with_reducible repeat (first | refine blk_drewN ?_ _ | refine blk_drew ?_ | refine blk_alloc ?_ _)); exact BK154.out⟩, ⟨by (with_reducible repeat (first | refine blk_drewN ?_ _ | refine blk_drew ?_ | refine blk_alloc ?_ _)); exact BK155.out⟩, ⟨by repeat (first | (with_reducible first | exact HB.out | apply below_alloc | apply pw_below_drewN | apply below_drew1 | refine below_set ?_ GE154.out | refine below_set ?_ GE155.out) | exact HB.out)⟩⟩
                      case rest =>
                        clear HC42
                        try clear c1
                        try clear c2
                        try clear p2
                        try clear q2
                        try clear hx2
                        try clear qi2
                        try clear c3
                        try clear p3
                        try clear q3
                        try clear hx3
                        try clear c4
                        try clear p4
                        try clear q4
                        try clear hx4
                        try clear qi4
                        try clear c5
                        try clear c5b0
                        try clear c6
                        try clear c6b0
                        try clear p6
                        try clear p7
                        try clear q7
                        try clear hx7
                        try clear c8
                        try clear c8b0
                        try clear c8b1
                        try clear c9
                        try clear c9b0
                        try clear c10
                        try clear c10b0
                        try clear c10b1
                        try clear c12
                        try clear c12b0
                        try clear c12b1
                        try clear c13
                        try clear c13b0
                        try clear c13b1
                        try clear c15
                        try clear c16
                        try clear c18
                        try clear c22
                        try clear c22b0
                        try clear c22b1
                        try clear c23
                        try clear c23b0
                        try clear c23b1
                        try clear p24
                        try clear q24
                        try clear hx24
                        try clear qi24
                        try clear c26
                        try clear c27
                        try clear c27b0
                        try clear c27b1
                        try clear c28
                        try clear c31
                        try clear c31b0
                        try clear c32
                        try clear c32b0
                        try clear p33
                        try clear q33
                        try clear hx33
                        try clear c34
                        try clear c34b0
                        try clear p35
                        try clear q35
                        try clear hx35
                        try clear c36
                        try clear c36b0
                        try clear c37
                        try clear c37b0
                        try clear c37b1
                        try clear c38
                        try clear c38b0
                        try clear c38b1
                        try clear c40
                        try clear c40b0
                        try clear c41
                        try clear c41b0
                        try clear c43
                        try clear c43b0
                        try clear c43b1
                        try clear c44
                        try clear c44b0
                        try clear c44b1
                        try clear p45
                        try clear q45
                        try clear hx45
                        try clear qi45
                        try clear hcz17_0
                        try clear hcz17_1
                        try clear hcz17_2
                        try clear hcz17_3
                        try clear hcz17_4
                        try clear hcz19_0
                        try clear hcz19_1
                        try clear hcz19_2
                        try clear hcz19_3
                        try clear hcz19_4
                        try clear hcz20_0
                        try clear hcz20_1
                        try clear hcz20_2
                        try clear hcz20_3
                        try clear hcz20_4
                        try clear hcz29_0
                        try clear hcz29_1
                        try clear hcz29_2
                        try clear hcz29_3
                        try clear hcz29_4
                        try clear hfz17_0
                        try clear hfz17_1
                        try clear hfz17_2
                        try clear hfz17_3
                        try clear hfz17_4
                        try clear hfz19_0
                        try clear hfz19_1
                        try clear hfz19_2
                        try clear hfz19_3
                        try clear hfz19_4
                        try clear hfz20_0
                        try clear hfz20_1
                        try clear hfz20_2
                        try clear hfz20_3
                        try clear hfz20_4
                        try clear hfz29_0
                        try clear hfz29_1
                        try clear hfz29_2
                        try clear hfz29_3
                        try clear hfz29_4
                        try clear p2
                        try clear p24
                        try clear p3
                        try clear p33
                        try clear p35
                        try clear p45
                        try clear p6
                        try clear p7
                        try clear q2
                        try clear q24
                        try clear q3
                        try clear q33
                        try clear q35
                        try clear q45
                        try clear q7
                        obtain ⟨kq, x79_41, rfl, HA, HJ41, BK154, BK155, HB⟩ := hcut
                        cases kq with
                        | zero => exact absurd HA.out (by simp [counterpaneref5_Ref.j6])
                        | succ kj41 =>
                          have H := HA.out
                          clear HA
                          simp only [counterpaneref5_Ref.j6] at H
                          by_cases c46 : x79_41 = true
                          · subst c46
                            have H1 : (if 1 ≤ (xx.size : Int) then ((counterpaneref5_num.f kj41 (xx.extract 1 xx.size) 2199023255552).bind fun t159 => (if t158 = true then (if t159 < 1 then (some ((⟨#[]⟩ : ByteArray), 0, 0, false, false, false)) else (some (x156000_1, wrap64 (t159 - 1), t157, true, x156004_24, true))) else (some ((⟨#[]⟩ : ByteArray), 0, 0, false, false, false)))) else (none)) = some (r1, r2, r3, r4, r5, r6) := by rw [if_pos rfl] at H; exact H
                            clear H
                            have H := H1
                            clear H1
                            by_cases c47 : 1 ≤ (xx.size : Int)
                            · rw [if_pos c47] at H
                              have c47b0 := eq_true c47
                              have c47b1 : decide (1 ≤ (xx.size : Int)) = true := decide_eq_true c47
                              try (have c47b1z := c47b1; simp only [ByteArray.size_extract, Nat.min_self] at c47b1z)
                              try (have c47b1y := eq_true (of_decide_eq_true c47b1); simp only [ByteArray.size_extract, Nat.min_self] at c47b1y)
                              clear c47
                              replace H := Option.bind_eq_some_iff.mp H
                              obtain ⟨t159, A480, H⟩ := H
                              replace H : (if t158 = true then (if t159 < 1 then (some ((⟨#[]⟩ : ByteArray), 0, 0, false, false, false)) else (some (x156000_1, wrap64 (t159 - 1), t157, true, x156004_24, true))) else (some ((⟨#[]⟩ : ByteArray), 0, 0, false, false, false))) = some (r1, r2, r3, r4, r5, r6) := H
                              have A48 := Aside0.mk A480
                              clear A480
                              by_cases c49 : t158 = true
                              · subst c49
                                have H1 : (if t159 < 1 then (some ((⟨#[]⟩ : ByteArray), 0, 0, false, false, false)) else (some (x156000_1, wrap64 (t159 - 1), t157, true, x156004_24, true))) = some (r1, r2, r3, r4, r5, r6) := by rw [if_pos rfl] at H; exact H
                                clear H
                                have H := H1
                                clear H1
                                by_cases c50 : t159 < 1
                                · rw [if_pos c50] at H
                                  have c50b0 : decide (t159 < 1) = true := decide_eq_true c50
                                  clear c50
                                  simp only [Option.some.injEq, Prod.mk.injEq] at H
                                  obtain ⟨rfl, rfl, rfl, rfl, rfl, rfl⟩ := H
                                  have hnb51 := NB155_154.out
                                  have hnc51 := NB154_155.out
                                  have hcz52_0 : wc.cell? ⟨gb155, 0, none⟩ = some (.string x156000_1) := (blk_cell BK155.out 0).trans rfl
                                  have hcz52_1 : wc.cell? ⟨gb155, 1, none⟩ = some (.int .i64 0) := (blk_cell BK155.out 1).trans rfl
                                  have hcz52_2 : wc.cell? ⟨gb155, 2, none⟩ = some (.int .i64 0) := (blk_cell BK155.out 2).trans rfl
                                  have hcz52_3 : wc.cell? ⟨gb155, 3, none⟩ = some (.bool false) := (blk_cell BK155.out 3).trans rfl
                                  have hcz52_4 : wc.cell? ⟨gb155, 4, none⟩ = some (.bool x156004_24) := (blk_cell BK155.out 4).trans rfl
                                  have hfz52_0 := blk_frozen BK155.out 0
                                  have hfz52_1 := blk_frozen BK155.out 1
                                  have hfz52_2 := blk_frozen BK155.out 2
                                  have hfz52_3 := blk_frozen BK155.out 3
                                  have hfz52_4 := blk_frozen BK155.out 4
                                  go_wp2_with (first | ((with_reducible refine gate_callee (f := 28) rfl ?_); refine goesL_ (some 84) rfl rfl Tryd.func28 (by kernel_rfl) rfl #[.string (xx.extract 1 xx.size), .int .i64 2199023255552] rfl (by (try simp only [List.map_toArray, List.map_cons, List.map_nil]); first | done | rfl | (simp only [List.length_drop, List.length_take]; rfl)) ?_; (with_reducible refine (counterpaneref5_num.calls kj41 (xx.extract 1 xx.size) 2199023255552 t159 _ A48.out).mono ?_); rintro e w' ⟨rfl, ⟨nd, rfl⟩⟩; refine ⟨_, rfl, ?_⟩; have hcz53_0 : wc.cell? ⟨gb154, 0, none⟩ = some (.string x155000_1) := (blk_cell BK154.out 0).trans rfl; have hcz53_1 : wc.cell? ⟨gb154, 1, none⟩ = some (.int .i64 x155001_1) := (blk_cell BK154.out 1).trans rfl; have hcz53_2 : wc.cell? ⟨gb154, 2, none⟩ = some (.int .i64 x155002_1) := (blk_cell BK154.out 2).trans rfl; have hcz53_3 : wc.cell? ⟨gb154, 3, none⟩ = some (.bool x155003_1) := (blk_cell BK154.out 3).trans rfl; have hcz53_4 : wc.cell? ⟨gb154, 4, none⟩ = some (.bool x155004_1) := (blk_cell BK154.out 4).trans rfl; have hfz53_0 := blk_frozen BK154.out 0; have hfz53_1 := blk_frozen BK154.out 1; have hfz53_2 := blk_frozen BK154.out 2; have hfz53_3 := blk_frozen BK154.out 3; have hfz53_4 := blk_frozen BK154.out 4))
                                  refine bodyPost_ret (results_ct rfl _ _ gb154 25 #[.string (⟨#[]⟩ : ByteArray), .int .i64 0, .int .i64 0, .bool false, .bool false] (0, 0) _ rfl (by (with_reducible repeat (first | refine blk_drewN ?_ _ | refine blk_drew ?_ | refine blk_alloc ?_ _)); refine blk_put (cs := #[.string (⟨#[]⟩ : ByteArray), .int .i64 0, .int .i64 0, .bool false, .bool x155004_1]) ?_ 4 _ rfl; (with_reducible repeat (first | refine blk_drewN ?_ _ | refine blk_drew ?_ | refine blk_alloc ?_ _)); refine blk_put (cs := #[.string (⟨#[]⟩ : ByteArray), .int .i64 0, .int .i64 0, .bool x155003_1, .bool x155004_1]) ?_ 3 _ rfl; (with_reducible repeat (first | refine blk_drewN ?_ _ | refine blk_drew ?_ | refine blk_alloc ?_ _)); refine blk_put (cs := #[.string (⟨#[]⟩ : ByteArray), .int .i64 0, .int .i64 x155002_1, .bool x155003_1, .bool x155004_1]) ?_ 2 _ rfl; (with_reducible repeat (first | refine blk_drewN ?_ _ | refine blk_drew ?_ | refine blk_alloc ?_ _)); refine blk_put (cs := #[.string (⟨#[]⟩ : ByteArray), .int .i64 x155001_1, .int .i64 x155002_1, .bool x155003_1, .bool x155004_1]) ?_ 1 _ rfl; (with_reducible repeat (first | refine blk_drewN ?_ _ | refine blk_drew ?_ | refine blk_alloc ?_ _)); refine blk_put (cs := #[.string x155000_1, .int .i64 x155001_1, .int .i64 x155002_1, .bool x155003_1, .bool x155004_1]) ?_ 0 _ rfl; (with_reducible repeat (first | refine blk_drewN ?_ _ | refine blk_drew ?_ | refine blk_alloc ?_ _)); refine blk_far ?_ NB154_155.out _; (with_reducible repeat (first | refine blk_drewN ?_ _ | refine blk_drew ?_ | refine blk_alloc ?_ _)); exact BK154.out) Tryd.underlying25 rfl (by kernel_rfl)) rfl ?_
                                  exact ⟨by first | rfl | (simp [errW_none, errW_some] <;> rfl) | (simp [*, errW_none, errW_some] <;> rfl), by repeat (first | (with_reducible first | exact HB.out | apply below_alloc | apply pw_below_drewN | apply below_drew1 | refine below_set ?_ GE154.out | refine below_set ?_ GE155.out) | exact HB.out)⟩
                                · rw [if_neg c50] at H
                                  have c50b0 : decide (t159 < 1) = false := decide_eq_false c50
                                  clear c50
                                  simp only [Option.some.injEq, Prod.mk.injEq] at H
                                  obtain ⟨rfl, rfl, rfl, rfl, rfl, rfl⟩ := H
                                  have hnb54 := NB155_154.out
                                  have hnc54 := NB154_155.out
                                  have hcz55_0 : wc.cell? ⟨gb155, 0, none⟩ = some (.string x156000_1) := (blk_cell BK155.out 0).trans rfl
                                  have hcz55_1 : wc.cell? ⟨gb155, 1, none⟩ = some (.int .i64 0) := (blk_cell BK155.out 1).trans rfl
                                  have hcz55_2 : wc.cell? ⟨gb155, 2, none⟩ = some (.int .i64 0) := (blk_cell BK155.out 2).trans rfl
                                  have hcz55_3 : wc.cell? ⟨gb155, 3, none⟩ = some (.bool false) := (blk_cell BK155.out 3).trans rfl
                                  have hcz55_4 : wc.cell? ⟨gb155, 4, none⟩ = some (.bool x156004_24) := (blk_cell BK155.out 4).trans rfl
                                  have hfz55_0 := blk_frozen BK155.out 0
                                  have hfz55_1 := blk_frozen BK155.out 1
                                  have hfz55_2 := blk_frozen BK155.out 2
                                  have hfz55_3 := blk_frozen BK155.out 3
                                  have hfz55_4 := blk_frozen BK155.out 4
                                  go_wp2_with (first | ((with_reducible refine gate_callee (f := 28) rfl ?_); refine goesL_ (some 84) rfl rfl Tryd.func28 (by kernel_rfl) rfl #[.string (xx.extract 1 xx.size), .int .i64 2199023255552] rfl (by (try simp only [List.map_toArray, List.map_cons, List.map_nil]); first | done | rfl | (simp only [List.length_drop, List.length_take]; rfl)) ?_; (with_reducible refine (counterpaneref5_num.calls kj41 (xx.extract 1 xx.size) 2199023255552 t159 _ A48.out).mono ?_); rintro e w' ⟨rfl, ⟨nd, rfl⟩⟩; refine ⟨_, rfl, ?_⟩; have hcz56_0 : wc.cell? ⟨gb154, 0, none⟩ = some (.string x155000_1) := (blk_cell BK154.out 0).trans rfl; have hcz56_1 : wc.cell? ⟨gb154, 1, none⟩ = some (.int .i64 x155001_1) := (blk_cell BK154.out 1).trans rfl; have hcz56_2 : wc.cell? ⟨gb154, 2, none⟩ = some (.int .i64 x155002_1) := (blk_cell BK154.out 2).trans rfl; have hcz56_3 : wc.cell? ⟨gb154, 3, none⟩ = some (.bool x155003_1) := (blk_cell BK154.out 3).trans rfl; have hcz56_4 : wc.cell? ⟨gb154, 4, none⟩ = some (.bool x155004_1) := (blk_cell BK154.out 4).trans rfl; have hfz56_0 := blk_frozen BK154.out 0; have hfz56_1 := blk_frozen BK154.out 1; have hfz56_2 := blk_frozen BK154.out 2; have hfz56_3 := blk_frozen BK154.out 3; have hfz56_4 := blk_frozen BK154.out 4))
                                  refine bodyPost_ret (results_ct rfl _ _ gb154 25 #[.string x156000_1, .int .i64 (wrap64 (t159 - 1)), .int .i64 t157, .bool true, .bool x156004_24] (0, 0) _ rfl (by (with_reducible repeat (first | refine blk_drewN ?_ _ | refine blk_drew ?_ | refine blk_alloc ?_ _)); refine blk_put (cs := #[.string x156000_1, .int .i64 (wrap64 (t159 - 1)), .int .i64 t157, .bool true, .bool x155004_1]) ?_ 4 _ rfl; (with_reducible repeat (first | refine blk_drewN ?_ _ | refine blk_drew ?_ | refine blk_alloc ?_ _)); refine blk_put (cs := #[.string x156000_1, .int .i64 (wrap64 (t159 - 1)), .int .i64 t157, .bool x155003_1, .bool x155004_1]) ?_ 3 _ rfl; (with_reducible repeat (first | refine blk_drewN ?_ _ | refine blk_drew ?_ | refine blk_alloc ?_ _)); refine blk_put (cs := #[.string x156000_1, .int .i64 (wrap64 (t159 - 1)), .int .i64 x155002_1, .bool x155003_1, .bool x155004_1]) ?_ 2 _ rfl; (with_reducible repeat (first | refine blk_drewN ?_ _ | refine blk_drew ?_ | refine blk_alloc ?_ _)); refine blk_put (cs := #[.string x156000_1, .int .i64 x155001_1, .int .i64 x155002_1, .bool x155003_1, .bool x155004_1]) ?_ 1 _ rfl; (with_reducible repeat (first | refine blk_drewN ?_ _ | refine blk_drew ?_ | refine blk_alloc ?_ _)); refine blk_put (cs := #[.string x155000_1, .int .i64 x155001_1, .int .i64 x155002_1, .bool x155003_1, .bool x155004_1]) ?_ 0 _ rfl; (with_reducible repeat (first | refine blk_drewN ?_ _ | refine blk_drew ?_ | refine blk_alloc ?_ _)); refine blk_far ?_ NB154_155.out _; (with_reducible repeat (first | refine blk_drewN ?_ _ | refine blk_drew ?_ | refine blk_alloc ?_ _)); refine blk_far ?_ NB154_155.out _; (with_reducible repeat (first | refine blk_drewN ?_ _ | refine blk_drew ?_ | refine blk_alloc ?_ _)); refine blk_far ?_ NB154_155.out _; (with_reducible repeat (first | refine blk_drewN ?_ _ | refine blk_drew ?_ | refine blk_alloc ?_ _)); exact BK154.out) Tryd.underlying25 rfl (by kernel_rfl)) rfl ?_
                                  exact ⟨by first | rfl | (simp [errW_none, errW_some] <;> rfl) | (simp [*, errW_none, errW_some] <;> rfl), by repeat (first | (with_reducible first | exact HB.out | apply below_alloc | apply pw_below_drewN | apply below_drew1 | refine below_set ?_ GE154.out | refine below_set ?_ GE155.out) | exact HB.out)⟩
                              · replace c49 := Bool.eq_false_iff.mpr c49
                                subst c49
                                have H1 : (some ((⟨#[]⟩ : ByteArray), 0, 0, false, false, false)) = some (r1, r2, r3, r4, r5, r6) := by rw [if_neg (show ¬ (false = true) by decide)] at H; exact H
                                clear H
                                have H := H1
                                clear H1
                                simp only [Option.some.injEq, Prod.mk.injEq] at H
                                obtain ⟨rfl, rfl, rfl, rfl, rfl, rfl⟩ := H
                                have hnb57 := NB155_154.out
                                have hnc57 := NB154_155.out
                                have hcz58_0 : wc.cell? ⟨gb155, 0, none⟩ = some (.string x156000_1) := (blk_cell BK155.out 0).trans rfl
                                have hcz58_1 : wc.cell? ⟨gb155, 1, none⟩ = some (.int .i64 0) := (blk_cell BK155.out 1).trans rfl
                                have hcz58_2 : wc.cell? ⟨gb155, 2, none⟩ = some (.int .i64 0) := (blk_cell BK155.out 2).trans rfl
                                have hcz58_3 : wc.cell? ⟨gb155, 3, none⟩ = some (.bool false) := (blk_cell BK155.out 3).trans rfl
                                have hcz58_4 : wc.cell? ⟨gb155, 4, none⟩ = some (.bool x156004_24) := (blk_cell BK155.out 4).trans rfl
                                have hfz58_0 := blk_frozen BK155.out 0
                                have hfz58_1 := blk_frozen BK155.out 1
                                have hfz58_2 := blk_frozen BK155.out 2
                                have hfz58_3 := blk_frozen BK155.out 3
                                have hfz58_4 := blk_frozen BK155.out 4
                                go_wp2_with (first | ((with_reducible refine gate_callee (f := 28) rfl ?_); refine goesL_ (some 84) rfl rfl Tryd.func28 (by kernel_rfl) rfl #[.string (xx.extract 1 xx.size), .int .i64 2199023255552] rfl (by (try simp only [List.map_toArray, List.map_cons, List.map_nil]); first | done | rfl | (simp only [List.length_drop, List.length_take]; rfl)) ?_; (with_reducible refine (counterpaneref5_num.calls kj41 (xx.extract 1 xx.size) 2199023255552 t159 _ A48.out).mono ?_); rintro e w' ⟨rfl, ⟨nd, rfl⟩⟩; refine ⟨_, rfl, ?_⟩; have hcz59_0 : wc.cell? ⟨gb154, 0, none⟩ = some (.string x155000_1) := (blk_cell BK154.out 0).trans rfl; have hcz59_1 : wc.cell? ⟨gb154, 1, none⟩ = some (.int .i64 x155001_1) := (blk_cell BK154.out 1).trans rfl; have hcz59_2 : wc.cell? ⟨gb154, 2, none⟩ = some (.int .i64 x155002_1) := (blk_cell BK154.out 2).trans rfl; have hcz59_3 : wc.cell? ⟨gb154, 3, none⟩ = some (.bool x155003_1) := (blk_cell BK154.out 3).trans rfl; have hcz59_4 : wc.cell? ⟨gb154, 4, none⟩ = some (.bool x155004_1) := (blk_cell BK154.out 4).trans rfl; have hfz59_0 := blk_frozen BK154.out 0; have hfz59_1 := blk_frozen BK154.out 1; have hfz59_2 := blk_frozen BK154.out 2; have hfz59_3 := blk_frozen BK154.out 3; have hfz59_4 := blk_frozen BK154.out 4))
                                refine bodyPost_ret (results_ct rfl _ _ gb154 25 #[.string (⟨#[]⟩ : ByteArray), .int .i64 0, .int .i64 0, .bool false, .bool false] (0, 0) _ rfl (by (with_reducible repeat (first | refine blk_drewN ?_ _ | refine blk_drew ?_ | refine blk_alloc ?_ _)); refine blk_put (cs := #[.string (⟨#[]⟩ : ByteArray), .int .i64 0, .int .i64 0, .bool false, .bool x155004_1]) ?_ 4 _ rfl; (with_reducible repeat (first | refine blk_drewN ?_ _ | refine blk_drew ?_ | refine blk_alloc ?_ _)); refine blk_put (cs := #[.string (⟨#[]⟩ : ByteArray), .int .i64 0, .int .i64 0, .bool x155003_1, .bool x155004_1]) ?_ 3 _ rfl; (with_reducible repeat (first | refine blk_drewN ?_ _ | refine blk_drew ?_ | refine blk_alloc ?_ _)); refine blk_put (cs := #[.string (⟨#[]⟩ : ByteArray), .int .i64 0, .int .i64 x155002_1, .bool x155003_1, .bool x155004_1]) ?_ 2 _ rfl; (with_reducible repeat (first | refine blk_drewN ?_ _ | refine blk_drew ?_ | refine blk_alloc ?_ _)); refine blk_put (cs := #[.string (⟨#[]⟩ : ByteArray), .int .i64 x155001_1, .int .i64 x155002_1, .bool x155003_1, .bool x155004_1]) ?_ 1 _ rfl; (with_reducible repeat (first | refine blk_drewN ?_ _ | refine blk_drew ?_ | refine blk_alloc ?_ _)); refine blk_put (cs := #[.string x155000_1, .int .i64 x155001_1, .int .i64 x155002_1, .bool x155003_1, .bool x155004_1]) ?_ 0 _ rfl; (with_reducible repeat (first | refine blk_drewN ?_ _ | refine blk_drew ?_ | refine blk_alloc ?_ _)); refine blk_far ?_ NB154_155.out _; (with_reducible repeat (first | refine blk_drewN ?_ _ | refine blk_drew ?_ | refine blk_alloc ?_ _)); exact BK154.out) Tryd.underlying25 rfl (by kernel_rfl)) rfl ?_
                                exact ⟨by first | rfl | (simp [errW_none, errW_some] <;> rfl) | (simp [*, errW_none, errW_some] <;> rfl), by repeat (first | (with_reducible first | exact HB.out | apply below_alloc | apply pw_below_drewN | apply below_drew1 | refine below_set ?_ GE154.out | refine below_set ?_ GE155.out) | exact HB.out)⟩
                            · rw [if_neg c47] at H
                              exact absurd H (by simp)
                          · replace c46 := Bool.eq_false_iff.mpr c46
                            subst c46
                            have H1 : ((counterpaneref5_num.f kj41 xx 2199023255552).bind fun t160 => (if t158 = true then (if t160 < 1 then (some ((⟨#[]⟩ : ByteArray), 0, 0, false, false, false)) else (some (x156000_1, wrap64 (t160 - 1), t157, false, x156004_24, true))) else (some ((⟨#[]⟩ : ByteArray), 0, 0, false, false, false)))) = some (r1, r2, r3, r4, r5, r6) := by rw [if_neg (show ¬ (false = true) by decide)] at H; exact H
                            clear H
                            have H := H1
                            clear H1
                            replace H := Option.bind_eq_some_iff.mp H
                            obtain ⟨t160, A600, H⟩ := H
                            replace H : (if t158 = true then (if t160 < 1 then (some ((⟨#[]⟩ : ByteArray), 0, 0, false, false, false)) else (some (x156000_1, wrap64 (t160 - 1), t157, false, x156004_24, true))) else (some ((⟨#[]⟩ : ByteArray), 0, 0, false, false, false))) = some (r1, r2, r3, r4, r5, r6) := H
                            have A60 := Aside0.mk A600
                            clear A600
                            by_cases c61 : t158 = true
                            · subst c61
                              have H1 : (if t160 < 1 then (some ((⟨#[]⟩ : ByteArray), 0, 0, false, false, false)) else (some (x156000_1, wrap64 (t160 - 1), t157, false, x156004_24, true))) = some (r1, r2, r3, r4, r5, r6) := by rw [if_pos rfl] at H; exact H
                              clear H
                              have H := H1
                              clear H1
                              by_cases c62 : t160 < 1
                              · rw [if_pos c62] at H
                                have c62b0 : decide (t160 < 1) = true := decide_eq_true c62
                                clear c62
                                simp only [Option.some.injEq, Prod.mk.injEq] at H
                                obtain ⟨rfl, rfl, rfl, rfl, rfl, rfl⟩ := H
                                go_wp2_with (first | ((with_reducible refine gate_callee (f := 28) rfl ?_); refine goesL_ (some 84) rfl rfl Tryd.func28 (by kernel_rfl) rfl #[.string xx, .int .i64 2199023255552] rfl (by (try simp only [List.map_toArray, List.map_cons, List.map_nil]); first | done | rfl | (simp only [List.length_drop, List.length_take]; rfl)) ?_; (with_reducible refine (counterpaneref5_num.calls kj41 xx 2199023255552 t160 _ A60.out).mono ?_); rintro e w' ⟨rfl, ⟨nd, rfl⟩⟩; refine ⟨_, rfl, ?_⟩; (try (rw [drewN_self wc]; generalize hq_ : World.drewN wc _ = wc; have n0_ : Aside0 (wc.heap[gb154]? = some (.cells #[.string x155000_1, .int .i64 x155001_1, .int .i64 x155002_1, .bool x155003_1, .bool x155004_1] 25 (0, 0))) := ⟨by rw [← hq_]; exact (by (with_reducible repeat (first | refine blk_drewN ?_ _ | refine blk_drew ?_ | refine blk_alloc ?_ _)); exact BK154.out)⟩; have n1_ : Aside0 (wc.heap[gb155]? = some (.cells #[.string x156000_1, .int .i64 0, .int .i64 0, .bool false, .bool x156004_24] 25 (0, 0))) := ⟨by rw [← hq_]; exact (by (with_reducible repeat (first | refine blk_drewN ?_ _ | refine blk_drew ?_ | refine blk_alloc ?_ _)); exact BK155.out)⟩; have n2_ : Aside0 (Below w.heap.size w wc) := ⟨by rw [← hq_]; exact (by repeat (first | (with_reducible first | exact HB.out | apply below_alloc | apply pw_below_drewN | apply below_drew1 | refine below_set ?_ GE154.out | refine below_set ?_ GE155.out) | exact HB.out))⟩; clear BK154 BK155 HB hq_; have BK154 := n0_; have BK155 := n1_; have HB := n2_; clear n0_ n1_ n2_)); have hnb63 := NB154_155.out; have hnc63 := NB155_154.out; have hcz64_0 : wc.cell? ⟨gb154, 0, none⟩ = some (.string x155000_1) := (blk_cell BK154.out 0).trans rfl; have hcz64_1 : wc.cell? ⟨gb154, 1, none⟩ = some (.int .i64 x155001_1) := (blk_cell BK154.out 1).trans rfl; have hcz64_2 : wc.cell? ⟨gb154, 2, none⟩ = some (.int .i64 x155002_1) := (blk_cell BK154.out 2).trans rfl; have hcz64_3 : wc.cell? ⟨gb154, 3, none⟩ = some (.bool x155003_1) := (blk_cell BK154.out 3).trans rfl; have hcz64_4 : wc.cell? ⟨gb154, 4, none⟩ = some (.bool x155004_1) := (blk_cell BK154.out 4).trans rfl; have hfz64_0 := blk_frozen BK154.out 0; have hfz64_1 := blk_frozen BK154.out 1; have hfz64_2 := blk_frozen BK154.out 2; have hfz64_3 := blk_frozen BK154.out 3; have hfz64_4 := blk_frozen BK154.out 4))
                                refine bodyPost_ret (results_ct rfl _ _ gb154 25 #[.string (⟨#[]⟩ : ByteArray), .int .i64 0, .int .i64 0, .bool false, .bool false] (0, 0) _ rfl (by (with_reducible repeat (first | refine blk_drewN ?_ _ | refine blk_drew ?_ | refine blk_alloc ?_ _)); refine blk_put (cs := #[.string (⟨#[]⟩ : ByteArray), .int .i64 0, .int .i64 0, .bool false, .bool x155004_1]) ?_ 4 _ rfl; (with_reducible repeat (first | refine blk_drewN ?_ _ | refine blk_drew ?_ | refine blk_alloc ?_ _)); refine blk_put (cs := #[.string (⟨#[]⟩ : ByteArray), .int .i64 0, .int .i64 0, .bool x155003_1, .bool x155004_1]) ?_ 3 _ rfl; (with_reducible repeat (first | refine blk_drewN ?_ _ | refine blk_drew ?_ | refine blk_alloc ?_ _)); refine blk_put (cs := #[.string (⟨#[]⟩ : ByteArray), .int .i64 0, .int .i64 x155002_1, .bool x155003_1, .bool x155004_1]) ?_ 2 _ rfl; (with_reducible repeat (first | refine blk_drewN ?_ _ | refine blk_drew ?_ | refine blk_alloc ?_ _)); refine blk_put (cs := #[.string (⟨#[]⟩ : ByteArray), .int .i64 x155001_1, .int .i64 x155002_1, .bool x155003_1, .bool x155004_1]) ?_ 1 _ rfl; (with_reducible repeat (first | refine blk_drewN ?_ _ | refine blk_drew ?_ | refine blk_alloc ?_ _)); refine blk_put (cs := #[.string x155000_1, .int .i64 x155001_1, .int .i64 x155002_1, .bool x155003_1, .bool x155004_1]) ?_ 0 _ rfl; (with_reducible repeat (first | refine blk_drewN ?_ _ | refine blk_drew ?_ | refine blk_alloc ?_ _)); exact BK154.out) Tryd.underlying25 rfl (by kernel_rfl)) rfl ?_
                                exact ⟨by first | rfl | (simp [errW_none, errW_some] <;> rfl) | (simp [*, errW_none, errW_some] <;> rfl), by repeat (first | (with_reducible first | exact HB.out | apply below_alloc | apply pw_below_drewN | apply below_drew1 | refine below_set ?_ GE154.out | refine below_set ?_ GE155.out) | exact HB.out)⟩
                              · rw [if_neg c62] at H
                                have c62b0 : decide (t160 < 1) = false := decide_eq_false c62
                                clear c62
                                simp only [Option.some.injEq, Prod.mk.injEq] at H
                                obtain ⟨rfl, rfl, rfl, rfl, rfl, rfl⟩ := H
                                go_wp2_with (first | ((with_reducible refine gate_callee (f := 28) rfl ?_); refine goesL_ (some 84) rfl rfl Tryd.func28 (by kernel_rfl) rfl #[.string xx, .int .i64 2199023255552] rfl (by (try simp only [List.map_toArray, List.map_cons, List.map_nil]); first | done | rfl | (simp only [List.length_drop, List.length_take]; rfl)) ?_; (with_reducible refine (counterpaneref5_num.calls kj41 xx 2199023255552 t160 _ A60.out).mono ?_); rintro e w' ⟨rfl, ⟨nd, rfl⟩⟩; refine ⟨_, rfl, ?_⟩; (try (rw [drewN_self wc]; generalize hq_ : World.drewN wc _ = wc; have n0_ : Aside0 (wc.heap[gb154]? = some (.cells #[.string x155000_1, .int .i64 x155001_1, .int .i64 x155002_1, .bool x155003_1, .bool x155004_1] 25 (0, 0))) := ⟨by rw [← hq_]; exact (by (with_reducible repeat (first | refine blk_drewN ?_ _ | refine blk_drew ?_ | refine blk_alloc ?_ _)); exact BK154.out)⟩; have n1_ : Aside0 (wc.heap[gb155]? = some (.cells #[.string x156000_1, .int .i64 0, .int .i64 0, .bool false, .bool x156004_24] 25 (0, 0))) := ⟨by rw [← hq_]; exact (by (with_reducible repeat (first | refine blk_drewN ?_ _ | refine blk_drew ?_ | refine blk_alloc ?_ _)); exact BK155.out)⟩; have n2_ : Aside0 (Below w.heap.size w wc) := ⟨by rw [← hq_]; exact (by repeat (first | (with_reducible first | exact HB.out | apply below_alloc | apply pw_below_drewN | apply below_drew1 | refine below_set ?_ GE154.out | refine below_set ?_ GE155.out) | exact HB.out))⟩; clear BK154 BK155 HB hq_; have BK154 := n0_; have BK155 := n1_; have HB := n2_; clear n0_ n1_ n2_)); have hnb65 := NB155_154.out; have hnc65 := NB154_155.out; have hcz66_0 : wc.cell? ⟨gb155, 0, none⟩ = some (.string x156000_1) := (blk_cell BK155.out 0).trans rfl; have hcz66_1 : wc.cell? ⟨gb155, 1, none⟩ = some (.int .i64 0) := (blk_cell BK155.out 1).trans rfl; have hcz66_2 : wc.cell? ⟨gb155, 2, none⟩ = some (.int .i64 0) := (blk_cell BK155.out 2).trans rfl; have hcz66_3 : wc.cell? ⟨gb155, 3, none⟩ = some (.bool false) := (blk_cell BK155.out 3).trans rfl; have hcz66_4 : wc.cell? ⟨gb155, 4, none⟩ = some (.bool x156004_24) := (blk_cell BK155.out 4).trans rfl; have hfz66_0 := blk_frozen BK155.out 0; have hfz66_1 := blk_frozen BK155.out 1; have hfz66_2 := blk_frozen BK155.out 2; have hfz66_3 := blk_frozen BK155.out 3; have hfz66_4 := blk_frozen BK155.out 4; have hcz67_0 : wc.cell? ⟨gb154, 0, none⟩ = some (.string x155000_1) := (blk_cell BK154.out 0).trans rfl; have hcz67_1 : wc.cell? ⟨gb154, 1, none⟩ = some (.int .i64 x155001_1) := (blk_cell BK154.out 1).trans rfl; have hcz67_2 : wc.cell? ⟨gb154, 2, none⟩ = some (.int .i64 x155002_1) := (blk_cell BK154.out 2).trans rfl; have hcz67_3 : wc.cell? ⟨gb154, 3, none⟩ = some (.bool x155003_1) := (blk_cell BK154.out 3).trans rfl; have hcz67_4 : wc.cell? ⟨gb154, 4, none⟩ = some (.bool x155004_1) := (blk_cell BK154.out 4).trans rfl; have hfz67_0 := blk_frozen BK154.out 0; have hfz67_1 := blk_frozen BK154.out 1; have hfz67_2 := blk_frozen BK154.out 2; have hfz67_3 := blk_frozen BK154.out 3; have hfz67_4 := blk_frozen BK154.out 4))
                                refine bodyPost_ret (results_ct rfl _ _ gb154 25 #[.string x156000_1, .int .i64 (wrap64 (t160 - 1)), .int .i64 t157, .bool false, .bool x156004_24] (0, 0) _ rfl (by (with_reducible repeat (first | refine blk_drewN ?_ _ | refine blk_drew ?_ | refine blk_alloc ?_ _)); refine blk_put (cs := #[.string x156000_1, .int .i64 (wrap64 (t160 - 1)), .int .i64 t157, .bool false, .bool x155004_1]) ?_ 4 _ rfl; (with_reducible repeat (first | refine blk_drewN ?_ _ | refine blk_drew ?_ | refine blk_alloc ?_ _)); refine blk_put (cs := #[.string x156000_1, .int .i64 (wrap64 (t160 - 1)), .int .i64 t157, .bool x155003_1, .bool x155004_1]) ?_ 3 _ rfl; (with_reducible repeat (first | refine blk_drewN ?_ _ | refine blk_drew ?_ | refine blk_alloc ?_ _)); refine blk_put (cs := #[.string x156000_1, .int .i64 (wrap64 (t160 - 1)), .int .i64 x155002_1, .bool x155003_1, .bool x155004_1]) ?_ 2 _ rfl; (with_reducible repeat (first | refine blk_drewN ?_ _ | refine blk_drew ?_ | refine blk_alloc ?_ _)); refine blk_put (cs := #[.string x156000_1, .int .i64 x155001_1, .int .i64 x155002_1, .bool x155003_1, .bool x155004_1]) ?_ 1 _ rfl; (with_reducible repeat (first | refine blk_drewN ?_ _ | refine blk_drew ?_ | refine blk_alloc ?_ _)); refine blk_put (cs := #[.string x155000_1, .int .i64 x155001_1, .int .i64 x155002_1, .bool x155003_1, .bool x155004_1]) ?_ 0 _ rfl; (with_reducible repeat (first | refine blk_drewN ?_ _ | refine blk_drew ?_ | refine blk_alloc ?_ _)); refine blk_far ?_ NB154_155.out _; (with_reducible repeat (first | refine blk_drewN ?_ _ | refine blk_drew ?_ | refine blk_alloc ?_ _)); refine blk_far ?_ NB154_155.out _; (with_reducible repeat (first | refine blk_drewN ?_ _ | refine blk_drew ?_ | refine blk_alloc ?_ _)); exact BK154.out) Tryd.underlying25 rfl (by kernel_rfl)) rfl ?_
                                exact ⟨by first | rfl | (simp [errW_none, errW_some] <;> rfl) | (simp [*, errW_none, errW_some] <;> rfl), by repeat (first | (with_reducible first | exact HB.out | apply below_alloc | apply pw_below_drewN | apply below_drew1 | refine below_set ?_ GE154.out | refine below_set ?_ GE155.out) | exact HB.out)⟩
                            · replace c61 := Bool.eq_false_iff.mpr c61
                              subst c61
                              have H1 : (some ((⟨#[]⟩ : ByteArray), 0, 0, false, false, false)) = some (r1, r2, r3, r4, r5, r6) := by rw [if_neg (show ¬ (false = true) by decide)] at H; exact H
                              clear H
                              have H := H1
                              clear H1
                              simp only [Option.some.injEq, Prod.mk.injEq] at H
                              obtain ⟨rfl, rfl, rfl, rfl, rfl, rfl⟩ := H
                              go_wp2_with (first | ((with_reducible refine gate_callee (f := 28) rfl ?_); refine goesL_ (some 84) rfl rfl Tryd.func28 (by kernel_rfl) rfl #[.string xx, .int .i64 2199023255552] rfl (by (try simp only [List.map_toArray, List.map_cons, List.map_nil]); first | done | rfl | (simp only [List.length_drop, List.length_take]; rfl)) ?_; (with_reducible refine (counterpaneref5_num.calls kj41 xx 2199023255552 t160 _ A60.out).mono ?_); rintro e w' ⟨rfl, ⟨nd, rfl⟩⟩; refine ⟨_, rfl, ?_⟩; (try (rw [drewN_self wc]; generalize hq_ : World.drewN wc _ = wc; have n0_ : Aside0 (wc.heap[gb154]? = some (.cells #[.string x155000_1, .int .i64 x155001_1, .int .i64 x155002_1, .bool x155003_1, .bool x155004_1] 25 (0, 0))) := ⟨by rw [← hq_]; exact (by (with_reducible repeat (first | refine blk_drewN ?_ _ | refine blk_drew ?_ | refine blk_alloc ?_ _)); exact BK154.out)⟩; have n1_ : Aside0 (wc.heap[gb155]? = some (.cells #[.string x156000_1, .int .i64 0, .int .i64 0, .bool false, .bool x156004_24] 25 (0, 0))) := ⟨by rw [← hq_]; exact (by (with_reducible repeat (first | refine blk_drewN ?_ _ | refine blk_drew ?_ | refine blk_alloc ?_ _)); exact BK155.out)⟩; have n2_ : Aside0 (Below w.heap.size w wc) := ⟨by rw [← hq_]; exact (by repeat (first | (with_reducible first | exact HB.out | apply below_alloc | apply pw_below_drewN | apply below_drew1 | refine below_set ?_ GE154.out | refine below_set ?_ GE155.out) | exact HB.out))⟩; clear BK154 BK155 HB hq_; have BK154 := n0_; have BK155 := n1_; have HB := n2_; clear n0_ n1_ n2_)); have hnb68 := NB154_155.out; have hnc68 := NB155_154.out; have hcz69_0 : wc.cell? ⟨gb154, 0, none⟩ = some (.string x155000_1) := (blk_cell BK154.out 0).trans rfl; have hcz69_1 : wc.cell? ⟨gb154, 1, none⟩ = some (.int .i64 x155001_1) := (blk_cell BK154.out 1).trans rfl; have hcz69_2 : wc.cell? ⟨gb154, 2, none⟩ = some (.int .i64 x155002_1) := (blk_cell BK154.out 2).trans rfl; have hcz69_3 : wc.cell? ⟨gb154, 3, none⟩ = some (.bool x155003_1) := (blk_cell BK154.out 3).trans rfl; have hcz69_4 : wc.cell? ⟨gb154, 4, none⟩ = some (.bool x155004_1) := (blk_cell BK154.out 4).trans rfl; have hfz69_0 := blk_frozen BK154.out 0; have hfz69_1 := blk_frozen BK154.out 1; have hfz69_2 := blk_frozen BK154.out 2; have hfz69_3 := blk_frozen BK154.out 3; have hfz69_4 := blk_frozen BK154.out 4))
                              refine bodyPost_ret (results_ct rfl _ _ gb154 25 #[.string (⟨#[]⟩ : ByteArray), .int .i64 0, .int .i64 0, .bool false, .bool false] (0, 0) _ rfl (by (with_reducible repeat (first | refine blk_drewN ?_ _ | refine blk_drew ?_ | refine blk_alloc ?_ _)); refine blk_put (cs := #[.string (⟨#[]⟩ : ByteArray), .int .i64 0, .int .i64 0, .bool false, .bool x155004_1]) ?_ 4 _ rfl; (with_reducible repeat (first | refine blk_drewN ?_ _ | refine blk_drew ?_ | refine blk_alloc ?_ _)); refine blk_put (cs := #[.string (⟨#[]⟩ : ByteArray), .int .i64 0, .int .i64 0, .bool x155003_1, .bool x155004_1]) ?_ 3 _ rfl; (with_reducible repeat (first | refine blk_drewN ?_ _ | refine blk_drew ?_ | refine blk_alloc ?_ _)); refine blk_put (cs := #[.string (⟨#[]⟩ : ByteArray), .int .i64 0, .int .i64 x155002_1, .bool x155003_1, .bool x155004_1]) ?_ 2 _ rfl; (with_reducible repeat (first | refine blk_drewN ?_ _ | refine blk_drew ?_ | refine blk_alloc ?_ _)); refine blk_put (cs := #[.string (⟨#[]⟩ : ByteArray), .int .i64 x155001_1, .int .i64 x155002_1, .bool x155003_1, .bool x155004_1]) ?_ 1 _ rfl; (with_reducible repeat (first | refine blk_drewN ?_ _ | refine blk_drew ?_ | refine blk_alloc ?_ _)); refine blk_put (cs := #[.string x155000_1, .int .i64 x155001_1, .int .i64 x155002_1, .bool x155003_1, .bool x155004_1]) ?_ 0 _ rfl; (with_reducible repeat (first | refine blk_drewN ?_ _ | refine blk_drew ?_ | refine blk_alloc ?_ _)); exact BK154.out) Tryd.underlying25 rfl (by kernel_rfl)) rfl ?_
                              exact ⟨by first | rfl | (simp [errW_none, errW_some] <;> rfl) | (simp [*, errW_none, errW_some] <;> rfl), by repeat (first | (with_reducible first | exact HB.out | apply below_alloc | apply pw_below_drewN | apply below_drew1 | refine below_set ?_ GE154.out | refine below_set ?_ GE155.out) | exact HB.out)⟩
                    · rw [if_neg c38] at H
                      exact absurd H (by simp)
                  · rw [if_neg c37] at H
                    exact absurd H (by simp)

end Go.Proofs.YtpabggjnkoehfaaDoor.ERef
