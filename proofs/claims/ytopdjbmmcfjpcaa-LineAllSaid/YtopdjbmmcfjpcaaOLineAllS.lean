import Derived.Test.YtopdjbmmcfjpcaaPLineAllx0
import Derived.Test.YtopdjbmmcfjpcaaPLineAllx3
import Derived.Test.YtopdjbmmcfjpcaaPLineAllx4
namespace Go.Proofs.Ytopdjbmmcfjpcaa.PLineAll
open Go.RowKit Go.Proofs.YtopdjbmmcfjpcaaW.PrintWords Go.Proofs.YtopdjbmmcfjpcaaW.PrintLast Go.Proofs.YtopdjbmmcfjpcaaW.PrintMore
attribute [local go_sem] max2_int min2_int max_two min_two max_three min_three max_four min_four   -- for this text's walks alone
set_option linter.unusedVariables false
set_option linter.unusedSimpArgs false

/-! ### counterpanelaw3_LineSides: function 5 -/
mutual
def counterpanelaw3_LineSides.j0 : Nat → Int → Bool → Bool → Int → Int → Int → Int → Int → Int → Option (Bool)
  | 0, _, _, _, _, _, _, _, _, _ => none
  | k + 1, x2, x7, x52, x156000, x156001, x156002, x157000, x157001, x157002 => if x52 = true then (some x7) else ((axis_Transform.f k x156000 x156001 x156002 x157000 x157001 x157002 true).bind fun bt160 => ((axis_Transform.f k x157000 x157001 x157002 x156000 x156001 x156002 false).bind fun bt165 => (counterpanelaw3_LineSides.l0 k x7 bt160.2.2.2 bt165.2.2.2 (([x2, x156001, x157001, x156002, x157002, wrap64 (x156001 + 1), wrap64 (x157001 + 1), wrap64 (x156002 - 1), wrap64 (x157002 - 1), Int.tmod x2 8, 0] : List Int)) 0 x156000 x156001 x156002 x157000 x157001 x157002 bt160.1 bt160.2.1 bt160.2.2.1 bt165.1 bt165.2.1 bt165.2.2.1)))
def counterpanelaw3_LineSides.l0 : Nat → Bool → Bool → Bool → List Int → Int → Int → Int → Int → Int → Int → Int → Int → Int → Int → Int → Int → Int → Option (Bool)
  | 0, _, _, _, _, _, _, _, _, _, _, _, _, _, _, _, _, _ => none
  | k + 1, x7, x9, x11, x12, x13, x156000, x156001, x156002, x157000, x157001, x157002, x165000, x165001, x165002, x170000, x170001, x170002 => if x13 < (x12.length : Int) then (if 0 ≤ x13 then (if (rd x12 x13) ≥ 0 then ((counterpanelaw3_end.f k x156000 x156001 x156002 x170000 x170001 x170002 x11 (rd x12 x13)).bind fun t175 => ((counterpanelaw3_end.f k x157000 x157001 x157002 x165000 x165001 x165002 x9 (rd x12 x13)).bind fun t177 => (if t175 = t177 then (counterpanelaw3_LineSides.l0 k x7 x9 x11 x12 (wrap64 (x13 + 1)) x156000 x156001 x156002 x157000 x157001 x157002 x165000 x165001 x165002 x170000 x170001 x170002) else (some false)))) else (counterpanelaw3_LineSides.l0 k x7 x9 x11 x12 (wrap64 (x13 + 1)) x156000 x156001 x156002 x157000 x157001 x157002 x165000 x165001 x165002 x170000 x170001 x170002)) else (none)) else (if x156000 = 1 then (if x9 = true then ((counterpanelaw3_made.f k x156000 x156001 x156002 x170000 x170001 x170002 x11).bind fun t178 => (if t178 = x165001 then (if x7 = true then (if x157000 = 1 then (if x11 = true then ((counterpanelaw3_made.f k x157000 x157001 x157002 x165000 x165001 x165002 x9).bind fun t179 => (some (t179 == x170001))) else (some false)) else (some true)) else (some false)) else (some false))) else (some false)) else (if x7 = true then (if x157000 = 1 then (if x11 = true then ((counterpanelaw3_made.f k x157000 x157001 x157002 x165000 x165001 x165002 x9).bind fun t180 => (some (t180 == x170001))) else (some false)) else (some true)) else (some false)))
end
def counterpanelaw3_LineSides.f (k : Nat) (a0_0 : Int) (a0_1 : Int) (a0_2 : Int) (a1_0 : Int) (a1_1 : Int) (a1_2 : Int) (a2 : Int) : Option (Bool) := (counterpanelaw3_begun.f k).bind fun t157 => (if t157 = true then ((counterpaneref3_May.f k a0_0 a0_1 a0_2).bind fun t158 => (if t158 = true then ((counterpaneref3_May.f k a1_0 a1_1 a1_2).bind fun t159 => (if t159 = true then (if a0_1 > 1099511627776 then (counterpanelaw3_LineSides.j0 k a2 t157 true a0_0 a0_1 a0_2 a1_0 a1_1 a1_2) else (if a0_2 > 1099511627776 then (counterpanelaw3_LineSides.j0 k a2 t157 true a0_0 a0_1 a0_2 a1_0 a1_1 a1_2) else (if a1_1 > 1099511627776 then (counterpanelaw3_LineSides.j0 k a2 t157 true a0_0 a0_1 a0_2 a1_0 a1_1 a1_2) else (if a1_2 > 1099511627776 then (counterpanelaw3_LineSides.j0 k a2 t157 true a0_0 a0_1 a0_2 a1_0 a1_1 a1_2) else (if a2 < 0 then (counterpanelaw3_LineSides.j0 k a2 t157 true a0_0 a0_1 a0_2 a1_0 a1_1 a1_2) else (counterpanelaw3_LineSides.j0 k a2 t157 (decide (a2 > 1125899906842624)) a0_0 a0_1 a0_2 a1_0 a1_1 a1_2)))))) else (counterpanelaw3_LineSides.j0 k a2 t157 true a0_0 a0_1 a0_2 a1_0 a1_1 a1_2))) else (counterpanelaw3_LineSides.j0 k a2 t157 true a0_0 a0_1 a0_2 a1_0 a1_1 a1_2))) else (some false))
theorem counterpanelaw3_LineSides.mono_l : ∀ k, (∀ y0 y1 y2 y3 y4 y5 y6 y7 y8, LeO (counterpanelaw3_LineSides.j0 k y0 y1 y2 y3 y4 y5 y6 y7 y8) (counterpanelaw3_LineSides.j0 (k + 1) y0 y1 y2 y3 y4 y5 y6 y7 y8)) ∧ (∀ y0 y1 y2 y3 y4 y5 y6 y7 y8 y9 y10 y11 y12 y13 y14 y15 y16, LeO (counterpanelaw3_LineSides.l0 k y0 y1 y2 y3 y4 y5 y6 y7 y8 y9 y10 y11 y12 y13 y14 y15 y16) (counterpanelaw3_LineSides.l0 (k + 1) y0 y1 y2 y3 y4 y5 y6 y7 y8 y9 y10 y11 y12 y13 y14 y15 y16))
  | 0 => ⟨fun _ _ _ _ _ _ _ _ _ r h => by simp [counterpanelaw3_LineSides.j0] at h, fun _ _ _ _ _ _ _ _ _ _ _ _ _ _ _ _ _ r h => by simp [counterpanelaw3_LineSides.l0] at h⟩
  | k + 1 => by
    obtain ⟨ih0, ih1⟩ := counterpanelaw3_LineSides.mono_l k
    refine ⟨?_, ?_⟩
    · intro y0 y1 y2 y3 y4 y5 y6 y7 y8
      unfold counterpanelaw3_LineSides.j0
      repeat' first
      | (with_reducible exact ih0 _ _ _ _ _ _ _ _ _)
      | (with_reducible exact ih1 _ _ _ _ _ _ _ _ _ _ _ _ _ _ _ _ _)
      | (with_reducible exact axis_Transform.mono _ _ _ _ _ _ _ _)
      | (with_reducible exact counterpanelaw3_begun.mono _)
      | (with_reducible exact counterpanelaw3_end.mono _ _ _ _ _ _ _ _ _)
      | (with_reducible exact counterpanelaw3_made.mono _ _ _ _ _ _ _ _)
      | (with_reducible exact counterpaneref3_May.mono _ _ _ _)
      | (with_reducible exact LeO.refl _)
      | (with_reducible exact LeO.none _)
      | (with_reducible refine LeO.ite ?_ ?_)
      | (with_reducible refine LeO.bind ?_ (fun _ => ?_))
      | exact ih0 _ _ _ _ _ _ _ _ _
      | exact ih1 _ _ _ _ _ _ _ _ _ _ _ _ _ _ _ _ _
      | exact axis_Transform.mono _ _ _ _ _ _ _ _
      | exact counterpanelaw3_begun.mono _
      | exact counterpanelaw3_end.mono _ _ _ _ _ _ _ _ _
      | exact counterpanelaw3_made.mono _ _ _ _ _ _ _ _
      | exact counterpaneref3_May.mono _ _ _ _
      | exact LeO.none _
      | refine LeO.ite ?_ ?_
      | refine LeO.bind ?_ (fun _ => ?_)
    · intro y0 y1 y2 y3 y4 y5 y6 y7 y8 y9 y10 y11 y12 y13 y14 y15 y16
      unfold counterpanelaw3_LineSides.l0
      repeat' first
      | (with_reducible exact ih0 _ _ _ _ _ _ _ _ _)
      | (with_reducible exact ih1 _ _ _ _ _ _ _ _ _ _ _ _ _ _ _ _ _)
      | (with_reducible exact axis_Transform.mono _ _ _ _ _ _ _ _)
      | (with_reducible exact counterpanelaw3_begun.mono _)
      | (with_reducible exact counterpanelaw3_end.mono _ _ _ _ _ _ _ _ _)
      | (with_reducible exact counterpanelaw3_made.mono _ _ _ _ _ _ _ _)
      | (with_reducible exact counterpaneref3_May.mono _ _ _ _)
      | (with_reducible exact LeO.refl _)
      | (with_reducible exact LeO.none _)
      | (with_reducible refine LeO.ite ?_ ?_)
      | (with_reducible refine LeO.bind ?_ (fun _ => ?_))
      | exact ih0 _ _ _ _ _ _ _ _ _
      | exact ih1 _ _ _ _ _ _ _ _ _ _ _ _ _ _ _ _ _
      | exact axis_Transform.mono _ _ _ _ _ _ _ _
      | exact counterpanelaw3_begun.mono _
      | exact counterpanelaw3_end.mono _ _ _ _ _ _ _ _ _
      | exact counterpanelaw3_made.mono _ _ _ _ _ _ _ _
      | exact counterpaneref3_May.mono _ _ _ _
      | exact LeO.none _
      | refine LeO.ite ?_ ?_
      | refine LeO.bind ?_ (fun _ => ?_)
theorem counterpanelaw3_LineSides.mono : ∀ a0 a1 a2 a3 a4 a5 a6 k, LeO (counterpanelaw3_LineSides.f k a0 a1 a2 a3 a4 a5 a6) (counterpanelaw3_LineSides.f (k + 1) a0 a1 a2 a3 a4 a5 a6) := by
  intro a0 a1 a2 a3 a4 a5 a6 k
  obtain ⟨ih0, ih1⟩ := counterpanelaw3_LineSides.mono_l k
  unfold counterpanelaw3_LineSides.f
  repeat' first
      | (with_reducible exact ih0 _ _ _ _ _ _ _ _ _)
      | (with_reducible exact ih1 _ _ _ _ _ _ _ _ _ _ _ _ _ _ _ _ _)
      | (with_reducible exact axis_Transform.mono _ _ _ _ _ _ _ _)
      | (with_reducible exact counterpanelaw3_begun.mono _)
      | (with_reducible exact counterpanelaw3_end.mono _ _ _ _ _ _ _ _ _)
      | (with_reducible exact counterpanelaw3_made.mono _ _ _ _ _ _ _ _)
      | (with_reducible exact counterpaneref3_May.mono _ _ _ _)
      | (with_reducible exact LeO.refl _)
      | (with_reducible exact LeO.none _)
      | (with_reducible refine LeO.ite ?_ ?_)
      | (with_reducible refine LeO.bind ?_ (fun _ => ?_))
      | exact ih0 _ _ _ _ _ _ _ _ _
      | exact ih1 _ _ _ _ _ _ _ _ _ _ _ _ _ _ _ _ _
      | exact axis_Transform.mono _ _ _ _ _ _ _ _
      | exact counterpanelaw3_begun.mono _
      | exact counterpanelaw3_end.mono _ _ _ _ _ _ _ _ _
      | exact counterpanelaw3_made.mono _ _ _ _ _ _ _ _
      | exact counterpaneref3_May.mono _ _ _ _
      | exact LeO.none _
      | refine LeO.ite ?_ ?_
      | refine LeO.bind ?_ (fun _ => ?_)
def counterpanelaw3_LineSides.T12 : Bool × List (List Nat × List Nat) := (true, [([], []), ([], []), ([0, 1], [0, 1]), ([2], [2]), ([3], [3]), ([4], [4]), ([5], [5]), ([5], [5]), ([5], [5]), ([5], [5]), ([5], [5]), ([9, 10, 5], [5, 9, 10]), ([11, 5], [5, 11]), ([6, 7, 8, 12, 5, 5], [5, 6, 7, 8, 12]), ([5], [5]), ([5], [5]), ([5], [5]), ([5], [5]), ([5], [5]), ([17, 18, 5], [5, 17, 18]), ([19, 5], [5, 19]), ([14, 15, 16, 20, 13, 5], [5, 14, 15, 16, 20]), ([13, 21, 5], [5, 13, 21]), ([5, 22], [5, 22])])
def counterpanelaw3_LineSides.B12 : List Nat := [0, 0, 3, 7, 15, 31, 63, 63, 63, 63, 63, 1599, 3647, 8191, 63, 63, 63, 63, 63, 393279, 917567, 2097151, 4194303, 8388607]
theorem counterpanelaw3_LineSides.tab12 : rtab .any (opsOf Try.f5 12) = counterpanelaw3_LineSides.T12 := by kernel_rfl
theorem counterpanelaw3_LineSides.bits12 : waitsOk counterpanelaw3_LineSides.T12.2 counterpanelaw3_LineSides.B12 = true := by kernel_rfl
def counterpanelaw3_LineSides.T14 : Bool × List (List Nat × List Nat) := (true, [([], []), ([0], [0]), ([1], [1]), ([2], [2]), ([3], [3]), ([4, 3], [3, 4]), ([5, 3, 3], [3, 5]), ([6], [6]), ([6], [6]), ([6], [6]), ([7, 8, 9, 6, 6], [6, 7, 8, 9]), ([6], [6]), ([11, 6], [6, 11]), ([10, 12, 6], [6, 10, 12]), ([6, 13, 3], [3, 6, 13]), ([3, 14], [3, 14])])
def counterpanelaw3_LineSides.B14 : List Nat := [0, 1, 3, 7, 15, 31, 63, 127, 127, 127, 1023, 127, 2175, 8191, 16383, 32767]
theorem counterpanelaw3_LineSides.tab14 : rtab .any (opsOf Try.f5 14) = counterpanelaw3_LineSides.T14 := by kernel_rfl
theorem counterpanelaw3_LineSides.bits14 : waitsOk counterpanelaw3_LineSides.T14.2 counterpanelaw3_LineSides.B14 = true := by kernel_rfl
def counterpanelaw3_LineSides.T16 : Bool × List (List Nat × List Nat) := (true, [([], []), ([0], [0]), ([1], [1]), ([2, 1], [1, 2]), ([3, 1], [1, 3]), ([4, 1, 1], [1, 4]), ([5], [5]), ([6, 5, 5], [5, 6]), ([7], [7]), ([7], [7]), ([7], [7]), ([8, 9, 10, 7, 7], [7, 8, 9, 10]), ([7], [7]), ([12, 7], [7, 12]), ([11, 13, 7], [7, 11, 13]), ([7, 14, 5], [5, 7, 14]), ([5, 15, 1], [1, 5, 15]), ([1, 16], [1, 16]), ([17, 11, 0, 1, 2, 3, 4, 5, 6, 7, 8, 9, 10, 11, 12, 13, 14, 15, 16, 17], [17])])
def counterpanelaw3_LineSides.B16 : List Nat := [0, 1, 3, 7, 15, 31, 63, 127, 255, 255, 255, 2047, 255, 4351, 16383, 32767, 65535, 131071, 262143]
theorem counterpanelaw3_LineSides.tab16 : rtab .any (opsOf Try.f5 16) = counterpanelaw3_LineSides.T16 := by kernel_rfl
theorem counterpanelaw3_LineSides.bits16 : waitsOk counterpanelaw3_LineSides.T16.2 counterpanelaw3_LineSides.B16 = true := by kernel_rfl
end Go.Proofs.Ytopdjbmmcfjpcaa.PLineAll
