/- The walk of the reference's Sum. Conditions: elements that are int64s; at most a million of them. -/
import Derived.Test.YtfnbflhoaemmeaaGreatDoorWa
import Derived.Deep.RegionWith
import Derived.Deep.QuietTactic
import Derived.WalkKit
namespace Go.Proofs.YtfnbflhoaemmeaaGreatDoor.Ext
open Go.RowKit Go.Proofs.YtfnbflhoaemmeaaGreatDoorW.PrintWords Go.Proofs.YtfnbflhoaemmeaaGreatDoorW.PrintLast Go.Proofs.YtfnbflhoaemmeaaGreatDoorW.PrintMore
attribute [local go_sem] max2_int min2_int max_two min_two max_three min_three max_four min_four cs6
set_option linter.unusedVariables false
set_option linter.unusedSimpArgs false
theorem put6 {w : World} {g : Nat} {D : List Int} (h : w.heap[g]? = some (.cells (cs6 D) 91 (0, 0))) (P : List Int) :
    ((((((w.setCell ⟨g, 0, none⟩ (.int .u64 (P.getD 0 0))).setCell ⟨g, 1, none⟩ (.int .u64 (P.getD 1 0))).setCell ⟨g, 2, none⟩ (.int .u64 (P.getD 2 0))).setCell ⟨g, 3, none⟩ (.int .u64 (P.getD 3 0))).setCell ⟨g, 4, none⟩ (.int .u64 (P.getD 4 0))).setCell ⟨g, 5, none⟩ (.int .u64 (P.getD 5 0))).heap[g]? = some (.cells (cs6 P) 91 (0, 0)) :=
  blk_put (blk_put (blk_put (blk_put (blk_put (blk_put h 0 _ rfl) 1 _ rfl) 2 _ rfl) 3 _ rfl) 4 _ rfl) 5 _ rfl
theorem far6 {w : World} {g b : Nat} {cs : Array Value} (h : w.heap[b]? = some (.cells cs 91 (0, 0))) (ne : b ≠ g) (v0 v1 v2 v3 v4 v5 : Value) :
    ((((((w.setCell ⟨g, 0, none⟩ v0).setCell ⟨g, 1, none⟩ v1).setCell ⟨g, 2, none⟩ v2).setCell ⟨g, 3, none⟩ v3).setCell ⟨g, 4, none⟩ v4).setCell ⟨g, 5, none⟩ v5).heap[b]? = some (.cells cs 91 (0, 0)) :=
  blk_far (blk_far (blk_far (blk_far (blk_far (blk_far h ne _) ne _) ne _) ne _) ne _) ne _
theorem bel6 {w W : World} {g : Nat} (h : Below w.heap.size w W) (ge : w.heap.size ≤ g) (v0 v1 v2 v3 v4 v5 : Value) :
    Below w.heap.size w ((((((W.setCell ⟨g, 0, none⟩ v0).setCell ⟨g, 1, none⟩ v1).setCell ⟨g, 2, none⟩ v2).setCell ⟨g, 3, none⟩ v3).setCell ⟨g, 4, none⟩ v4).setCell ⟨g, 5, none⟩ v5) :=
  below_set (below_set (below_set (below_set (below_set (below_set h ge) ge) ge) ge) ge) ge
def oneL (n : Nat) : List Int := [((n : Nat) : Int) % 4294967296, ((n : Nat) : Int) / 4294967296, 0, 0, 0, 0]
theorem one_dig (n : Nat) (h : n < 18446744073709551616) : dig6 (oneL n) := by
  intro m
  unfold oneL
  match m with
  | 0 => exact ⟨by simp only [List.getD_cons_zero]; omega, by simp only [List.getD_cons_zero]; omega⟩
  | 1 => exact ⟨by simp only [List.getD_cons_succ, List.getD_cons_zero]; omega, by simp only [List.getD_cons_succ, List.getD_cons_zero]; omega⟩
  | 2 => exact ⟨Int.le_refl 0, show (0 : Int) < 4294967296 by decide⟩
  | 3 => exact ⟨Int.le_refl 0, show (0 : Int) < 4294967296 by decide⟩
  | 4 => exact ⟨Int.le_refl 0, show (0 : Int) < 4294967296 by decide⟩
  | 5 => exact ⟨Int.le_refl 0, show (0 : Int) < 4294967296 by decide⟩
  | m + 6 => exact ⟨Int.le_refl 0, show (0 : Int) < 4294967296 by decide⟩
theorem z_dig : dig6 z6 := by
  intro m
  match m with
  | 0 => exact ⟨Int.le_refl 0, show (0 : Int) < 4294967296 by decide⟩
  | 1 => exact ⟨Int.le_refl 0, show (0 : Int) < 4294967296 by decide⟩
  | 2 => exact ⟨Int.le_refl 0, show (0 : Int) < 4294967296 by decide⟩
  | 3 => exact ⟨Int.le_refl 0, show (0 : Int) < 4294967296 by decide⟩
  | 4 => exact ⟨Int.le_refl 0, show (0 : Int) < 4294967296 by decide⟩
  | 5 => exact ⟨Int.le_refl 0, show (0 : Int) < 4294967296 by decide⟩
  | m + 6 => exact ⟨Int.le_refl 0, show (0 : Int) < 4294967296 by decide⟩
theorem set_dig (l : List Int) (m : Nat) (x : Int) (h : dig6 l) (hx : 0 ≤ x ∧ x < 4294967296) : dig6 (l.set m x) := by
  intro i
  have hi := h i
  rw [List.getD_eq_getElem?_getD, List.getElem?_set]
  by_cases e : m = i
  · rw [if_pos e]
    by_cases g : m < l.length
    · rw [if_pos g]; exact hx
    · rw [if_neg g]; exact ⟨Int.le_refl 0, show (0 : Int) < 4294967296 by decide⟩
  · rw [if_neg e, ← List.getD_eq_getElem?_getD]; exact hi
theorem plus_dig (a b : List Int) : ∀ m, dig6 (plusR a b m)
  | 0 => z_dig
  | m + 1 => set_dig _ _ _ (plus_dig a b m) (by omega)
theorem minus_dig (a b : List Int) : ∀ m, dig6 (minusR a b m)
  | 0 => z_dig
  | m + 1 => set_dig _ _ _ (minus_dig a b m) (by omega)
set_option maxHeartbeats 1600000 in
theorem abs_calls (x : Int) (h0 : -9223372036854775808 ≤ x) (h1 : x ≤ 9223372036854775807) (w : World) :
    Calls Tryz.prog 79 #[.int .i64 x] w fun e w' => e = .returned (.int .u64 ((x.natAbs : Nat) : Int)) ∧ w' = w := by
  by_cases c : x < 0
  · have k0 : decide (x < 0) = true := decide_eq_true c
    have k1 : wrap64 (x + 1) = x + 1 := by rw [wrap64]; omega
    have k2 : wrap64 (-(x + 1)) = -(x + 1) := by rw [wrap64]; omega
    have k3 : IntKind.u64.wrap (-(x + 1)) = -(x + 1) := wraps_u64 _ (by omega) (by omega)
    have k4 : IntKind.u64.wrap (-(x + 1) + 1) = ((x.natAbs : Nat) : Int) := by rw [wraps_u64 _ (by omega) (by omega)]; omega
    go_enter Tryz.func79, Tryz.ntmps79
    go_wp2
    go_ret
    exact ⟨by first | rfl | (simp; done) | (simp [*]; done), by first | rfl | trivial⟩
  · have k0 : decide (x < 0) = false := decide_eq_false c
    have k3 : IntKind.u64.wrap x = ((x.natAbs : Nat) : Int) := by rw [wraps_u64 _ (by omega) (by omega)]; omega
    go_enter Tryz.func79, Tryz.ntmps79
    go_wp2
    go_ret
    exact ⟨by first | rfl | (simp; done) | (simp [*]; done), by first | rfl | trivial⟩
/-- one more into the sums -/
def stepW (s : List Int × List Int) (x : Int) : List Int × List Int := if x < 0 then (s.1, plusR s.2 (oneL x.natAbs) 6) else (plusR s.1 (oneL x.natAbs) 6, s.2)
def endW (s : List Int × List Int) : Int × Bool := if lessL s.1 s.2 6 = true then fixL (minusR s.2 s.1 6) true else fixL (minusR s.1 s.2 6) false
def counterpaneref1_Sum.f (l : List Int) : Option (Int × Bool) :=
  if l.length ≤ 1000000 ∧ ∀ x, x ∈ l → -9223372036854775808 ≤ x ∧ x ≤ 9223372036854775807 then some (endW (l.foldl stepW (z6, z6))) else none
end Go.Proofs.YtfnbflhoaemmeaaGreatDoor.Ext
