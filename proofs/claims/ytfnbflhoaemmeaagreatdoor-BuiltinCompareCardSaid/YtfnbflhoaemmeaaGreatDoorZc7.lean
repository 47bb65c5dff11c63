/- Part 7 of what the claim's proof stands on: contracts of the program's functions, by walks, and plain laws. -/
import Derived.Test.YtfnbflhoaemmeaaGreatDoorZc6
import Derived.WalkKit
section
namespace Go.Proofs.YtfnbflhoaemmeaaGreatDoor.EBui
open Go.RowKit Go.Lib Go.Proofs.YtfnbflhoaemmeaaGreatDoorW.PrintWords Go.Proofs.YtfnbflhoaemmeaaGreatDoorW.PrintLast Go.Proofs.YtfnbflhoaemmeaaGreatDoorW.PrintMore Go.Proofs.YtfnbflhoaemmeaaGreatDoor.Ext Go.Proofs.YtfnbflhoaemmeaaGreatDoor.EFxA Go.Proofs.YtfnbflhoaemmeaaGreatDoor.EFix Go.Proofs.YtfnbflhoaemmeaaGreatDoor.EVal
attribute [local go_sem] max2_int min2_int max_two min_two max_three min_three max_four min_four
set_option linter.unusedVariables false
set_option linter.unusedSimpArgs false
def c4_T : Bool × List (List Nat × List Nat) := (true, [([], []), ([0], [0]), ([], []), ([2, 1], [2]), ([1, 3, 0, 1], [1]), ([3, 4, 0, 1, 2, 3, 4], [3])])
def c4_B : List Nat := [0, 1, 0, 7, 15, 31]
theorem c4_tab : rtab .any (opsOf Tryz.f7 4) = c4_T := by kernel_rfl
theorem c4_bits : waitsOk c4_T.2 c4_B = true := by kernel_rfl
def c12_T : Bool × List (List Nat × List Nat) := (true, [([], []), ([], []), ([0, 1], [0, 1]), ([2], [2]), ([], []), ([], []), ([3, 4, 5], [3, 4, 5]), ([], []), ([7, 6, 6, 0, 1, 2, 3, 4, 5, 6, 7], [6, 7])])
def c12_B : List Nat := [0, 0, 3, 7, 0, 0, 63, 0, 255]
theorem c12_tab : rtab .any (opsOf Tryz.f7 12) = c12_T := by kernel_rfl
theorem c12_bits : waitsOk c12_T.2 c12_B = true := by kernel_rfl
theorem cell_far1 {w : World} {a p : Addr} {v : Value} (h : w.cell? a = some v) (ne : a.block ≠ p.block) (u : Value) : (w.setCell p u).cell? a = some v := by
  have e := Below.heap_setCell w p u a.block ne
  unfold World.cell? at h ⊢
  rw [e]
  exact h
theorem cell_far5 {w : World} {a : Addr} {g : Nat} {v : Value} (h : w.cell? a = some v) (ne : a.block ≠ g) (v0 v1 v2 v3 v4 : Value) : (((((w.setCell ⟨g, 0, none⟩ v0).setCell ⟨g, 1, none⟩ v1).setCell ⟨g, 2, none⟩ v2).setCell ⟨g, 3, none⟩ v3).setCell ⟨g, 4, none⟩ v4).cell? a = some v :=
  cell_far1 (cell_far1 (cell_far1 (cell_far1 (cell_far1 h ne _) ne _) ne _) ne _) ne _
theorem C_far1 {w : World} {ad p : Addr} {n : Nat} {xs : List ByteArray} (h : Kd.string.C w (some ad) n xs) (ne : ad.block ≠ p.block) (u : Value) : Kd.string.C (w.setCell p u) (some ad) n xs := by
  obtain ⟨h1, h2, h3⟩ := h
  refine ⟨h1, h2, fun hn => ?_⟩
  obtain ⟨ad', e, h4⟩ := h3 hn
  cases e
  refine ⟨ad, rfl, fun j x hj => ?_⟩
  obtain ⟨c, hc, hk, hcell⟩ := h4 j x hj
  exact ⟨c, hc, hk, fun i v hv => cell_far1 (p := p) (hcell i v hv) (by rw [add_block]; exact ne) u⟩
theorem C_far5 {w : World} {ad : Addr} {n : Nat} {xs : List ByteArray} (h : Kd.string.C w (some ad) n xs) {g : Nat} (ne : ad.block ≠ g) (v0 v1 v2 v3 v4 : Value) : Kd.string.C (((((w.setCell ⟨g, 0, none⟩ v0).setCell ⟨g, 1, none⟩ v1).setCell ⟨g, 2, none⟩ v2).setCell ⟨g, 3, none⟩ v3).setCell ⟨g, 4, none⟩ v4) (some ad) n xs :=
  C_far1 (C_far1 (C_far1 (C_far1 (C_far1 h ne _) ne _) ne _) ne _) ne _
theorem C_lt {w : World} {ad : Addr} {n : Nat} {xs : List ByteArray} (h : Kd.string.C w (some ad) n xs) (hn : 0 < n) : ad.block < w.heap.size := by
  obtain ⟨ad', e, hc⟩ := Kd.at_string h 0 (by decide) (by omega)
  cases e
  exact World.block_lt_of_cell? _ _ hc
def opsC : List ByteArray := [(⟨#[60]⟩ : ByteArray), (⟨#[61]⟩ : ByteArray), (⟨#[62]⟩ : ByteArray), (⟨#[60, 61]⟩ : ByteArray), (⟨#[60, 62]⟩ : ByteArray), (⟨#[62, 61]⟩ : ByteArray)]
def qC (c : Int) : Nat → Bool
  | 0 => decide (c < 0)
  | 1 => c == 0
  | 2 => decide (c > 0)
  | 3 => decide (c ≤ 0)
  | 4 => c != 0
  | _ => decide (c ≥ 0)
def gI (q : Nat → Bool) (i j : Nat) : Bool := decide (j < i) && q j
def cb6 (q : Nat → Bool) (i : Nat) : Array Value := #[.bool (gI q i 0), .bool (gI q i 1), .bool (gI q i 2), .bool (gI q i 3), .bool (gI q i 4), .bool (gI q i 5)]
theorem cb6_set (q : Nat → Bool) (i : Nat) (h : i < 6) : (cb6 q i).setIfInBounds i (.bool (q i)) = cb6 q (i + 1) := by
  match i, h with
  | 0, _ => rfl
  | 1, _ => rfl
  | 2, _ => rfl
  | 3, _ => rfl
  | 4, _ => rfl
  | 5, _ => rfl
theorem cb6_cell (q : Nat → Bool) (i j : Nat) (h : j < 6) : (cb6 q i)[j]? = some (.bool (gI q i j)) := by
  match j, h with
  | 0, _ => rfl
  | 1, _ => rfl
  | 2, _ => rfl
  | 3, _ => rfl
  | 4, _ => rfl
  | 5, _ => rfl
theorem cb6_at (q : Nat → Bool) (i : Nat) (h : i < 6) : (cb6 q 6)[i]? = some (.bool (q i)) := by
  match i, h with
  | 0, _ => rfl
  | 1, _ => rfl
  | 2, _ => rfl
  | 3, _ => rfl
  | 4, _ => rfl
  | 5, _ => rfl
def nS (q : Nat → Bool) : Nat → Int
  | 0 => 0
  | i + 1 => nS q i + (if q i = true then 1 else 0)
theorem nS_rng (q : Nat → Bool) : ∀ i, 0 ≤ nS q i ∧ nS q i ≤ i
  | 0 => ⟨Int.le_refl _, Int.le_refl _⟩
  | i + 1 => by
    have := nS_rng q i
    unfold nS
    split <;> omega
theorem nS_three (c : Int) : nS (qC c) 3 = 1 := by
  show (0 + (if decide (c < 0) = true then 1 else 0) + (if (c == 0) = true then 1 else 0) + (if decide (c > 0) = true then 1 else 0) : Int) = 1
  simp only [decide_eq_true_eq, beq_iff_eq]
  split <;> split <;> split <;> omega
theorem q_not (c : Int) : qC c 3 = !qC c 2 ∧ qC c 4 = !qC c 1 ∧ qC c 5 = !qC c 0 := by
  refine ⟨?_, ?_, ?_⟩
  · show decide (c ≤ 0) = !decide (c > 0)
    by_cases h : c ≤ 0 <;> simp [h] <;> omega
  · show (c != 0) = !(c == 0)
    rfl
  · show decide (c ≥ 0) = !decide (c < 0)
    by_cases h : c ≥ 0 <;> simp [h] <;> omega
theorem compared_f (c : Int) (i : Nat) (h : i < 6) : builtin_compared.f (rdOf ByteArray.empty opsC (i : Int)) c = some (qC c i, true) := by
  unfold builtin_compared.f
  match i, h with
  | 0, _ => rw [show rdOf ByteArray.empty opsC ((0 : Nat) : Int) = (⟨#[60]⟩ : ByteArray) from rfl]; simp only [to_by]; rw [if_neg (by decide)]; rw [if_neg (by decide)]; rw [if_pos (by decide)]; rfl
  | 1, _ => rw [show rdOf ByteArray.empty opsC ((1 : Nat) : Int) = (⟨#[61]⟩ : ByteArray) from rfl]; simp only [to_by]; rw [if_pos (by decide)]; rfl
  | 2, _ => rw [show rdOf ByteArray.empty opsC ((2 : Nat) : Int) = (⟨#[62]⟩ : ByteArray) from rfl]; simp only [to_by]; rw [if_neg (by decide)]; rw [if_neg (by decide)]; rw [if_neg (by decide)]; rw [if_neg (by decide)]; rw [if_pos (by decide)]; rfl
  | 3, _ => rw [show rdOf ByteArray.empty opsC ((3 : Nat) : Int) = (⟨#[60, 61]⟩ : ByteArray) from rfl]; simp only [to_by]; rw [if_neg (by decide)]; rw [if_neg (by decide)]; rw [if_neg (by decide)]; rw [if_pos (by decide)]; rfl
  | 4, _ => rw [show rdOf ByteArray.empty opsC ((4 : Nat) : Int) = (⟨#[60, 62]⟩ : ByteArray) from rfl]; simp only [to_by]; rw [if_neg (by decide)]; rw [if_pos (by decide)]; rfl
  | 5, _ => rw [show rdOf ByteArray.empty opsC ((5 : Nat) : Int) = (⟨#[62, 61]⟩ : ByteArray) from rfl]; simp only [to_by]; rw [if_neg (by decide)]; rw [if_neg (by decide)]; rw [if_neg (by decide)]; rw [if_neg (by decide)]; rw [if_neg (by decide)]; rw [if_pos (by decide)]; rfl
  | i + 6, h => omega
theorem opsC_ne (i : Nat) (h : i < 6) : (rdOf ByteArray.empty opsC (i : Int)).toList ≠ ([43] : List UInt8) ∧ (rdOf ByteArray.empty opsC (i : Int)).toList ≠ ([45] : List UInt8) ∧ (rdOf ByteArray.empty opsC (i : Int)).toList ≠ ([42] : List UInt8) ∧ (rdOf ByteArray.empty opsC (i : Int)).toList ≠ ([47] : List UInt8) ∧ (rdOf ByteArray.empty opsC (i : Int)).toList ≠ ([38] : List UInt8) := by
  match i, h with
  | 0, _ => rw [show rdOf ByteArray.empty opsC ((0 : Nat) : Int) = (⟨#[60]⟩ : ByteArray) from rfl]; simp only [to_by]; decide
  | 1, _ => rw [show rdOf ByteArray.empty opsC ((1 : Nat) : Int) = (⟨#[61]⟩ : ByteArray) from rfl]; simp only [to_by]; decide
  | 2, _ => rw [show rdOf ByteArray.empty opsC ((2 : Nat) : Int) = (⟨#[62]⟩ : ByteArray) from rfl]; simp only [to_by]; decide
  | 3, _ => rw [show rdOf ByteArray.empty opsC ((3 : Nat) : Int) = (⟨#[60, 61]⟩ : ByteArray) from rfl]; simp only [to_by]; decide
  | 4, _ => rw [show rdOf ByteArray.empty opsC ((4 : Nat) : Int) = (⟨#[60, 62]⟩ : ByteArray) from rfl]; simp only [to_by]; decide
  | 5, _ => rw [show rdOf ByteArray.empty opsC ((5 : Nat) : Int) = (⟨#[62, 61]⟩ : ByteArray) from rfl]; simp only [to_by]; decide
  | i + 6, h => omega
def filV (a b : V5) : V5 := if a.1 = 0 then (b.1, 0, (⟨#[]⟩ : ByteArray), false, 0) else a
theorem filled_f (a b : V5) : builtin_filled.f a.1 a.2.1 a.2.2.1 a.2.2.2.1 a.2.2.2.2 b.1 b.2.1 b.2.2.1 b.2.2.2.1 b.2.2.2.2 = some (filV a b) := by
  unfold builtin_filled.f filV
  split <;> rfl
theorem filV_size (a b : V5) (h : a.2.2.1.size ≤ 1000) : (filV a b).2.2.1.size ≤ 9223372036854775807 := by
  unfold filV
  split
  · exact (Nat.zero_le _ : (0 : Nat) ≤ _)
  · omega
theorem txt_ok (k n : Int) (t : ByteArray) (b : Bool) (e : Int) (h : mayS (k, n, t, b, e) = true) (hk : k ≠ 4) (hn : int64 n) (ht : t.size ≤ 250) : ∃ X, value_Text.f k n t b e = some (X, 0) := by
  obtain ⟨p, hp, _⟩ := print_f n hn.1 hn.2
  rw [text_f k n t b e p hp (by omega)]
  unfold txtS
  rw [if_pos h]
  simp only
  split
  · exact ⟨_, rfl⟩
  · split
    · split <;> exact ⟨_, rfl⟩
    · split
      · exact ⟨_, rfl⟩
      · first
          | exact ⟨_, rfl⟩
          | (split
             · rename_i h4
               exact absurd h4 hk
             · exact ⟨_, rfl⟩)
set_option maxHeartbeats 8000000 in
set_option maxRecDepth 100000 in
theorem builtinCompare_in (a0 a1 : Int) (sa : ByteArray) (a3 : Bool) (a4 b0 b1 : Int) (sb : ByteArray) (b3 : Bool) (b4 : Int) (ha : int64 a1) (hb0 : int64 b1) (w : World) (hL : Aside0 (Lq w)) :
    Calls Tryz.prog 7 #[.agg #[.int .i64 a0, .int .i64 a1, .string sa, .bool a3, .int .i64 a4], .agg #[.int .i64 b0, .int .i64 b1, .string sb, .bool b3, .int .i64 b4]] w fun e w' => e = .returned (.bool true) ∧ Below w.heap.size w w' := by
  have hu24 := Tryz.underlying24
  have HB := Aside0.mk (Below.refl w.heap.size w)
  obtain ⟨ta, hca, za⟩ := cut_f a0 a1 sa a3 a4
  obtain ⟨tb, hcb, zb⟩ := cut_f b0 b1 sb b3 b4
  have HCA := Aside0.mk hca
  have HCB := Aside0.mk hcb
  have hma := refMay_f 20000 a0 a1 ta a3 a4 (by omega) (by omega)
  have hmb := refMay_f 20000 b0 b1 tb b3 b4 (by omega) (by omega)
  obtain ⟨mA, qa⟩ : ∃ m, mayS (a0, a1, ta, a3, a4) = m := ⟨_, rfl⟩
  obtain ⟨mB, qb⟩ : ∃ m, mayS (b0, b1, tb, b3, b4) = m := ⟨_, rfl⟩
  rw [qa] at hma
  rw [qb] at hmb
  have HMA := Aside0.mk hma
  have HMB := Aside0.mk hmb
  have HZ := Aside0.mk (And.intro qa (And.intro qb (And.intro za (And.intro zb (And.intro ha hb0)))))
  clear hca hcb hma hmb qa qb za zb ha hb0
  go_enter Tryz.func7, Tryz.ntmps7
  go_upto_region 4 with (first
    | ((with_reducible refine gate_dst (N := 2) rfl ?_); (try (refine gate_guard (by rfl) ?_; dsimp only)); refine box_event ?hg (N := 2) ?hd (cs := cs5 a0 a1 sa a3 a4) (t := 24) ?hr ?_; (case hd => rfl); (case hg => rfl); (case hr => first | (go_simp; done) | (go_simp; rfl)); intro gA hg wA hbox hb; have GEA := Aside0.mk ((by rw [hg]; exact (below_size (by repeat (first | (with_reducible first | exact HB.out | apply bA | apply below_drew | apply bN | apply bD) | exact HB.out))) : w.heap.size ≤ gA)); have nX_ := Aside0.mk hbox; have n0_ := Aside0.mk (below_step (by repeat (first | (with_reducible first | exact HB.out | apply bA | apply below_drew | apply bN | apply bD) | exact HB.out)) hb); clear HB ; have HB := n0_; clear n0_ hb; have BKA := nX_; clear nX_ hbox hg; obtain ⟨zA0, zA1, zA2, zA3, zA4, zAf0, zAf1, zAf2, zAf3, zAf4⟩ := five BKA.out)
    | ((with_reducible refine gate_dst (N := 3) rfl ?_); (try (refine gate_guard (by rfl) ?_; dsimp only)); refine box_event ?hg (N := 3) ?hd (cs := cs5 b0 b1 sb b3 b4) (t := 24) ?hr ?_; (case hd => rfl); (case hg => rfl); (case hr => first | (go_simp; done) | (go_simp; rfl)); intro gB hg wB hbox hb; have GEB := Aside0.mk ((by rw [hg]; exact (below_size (by repeat (first | (with_reducible first | exact HB.out | apply bA | apply below_drew | apply bN | apply bD | refine below_set ?_ GEA.out) | exact HB.out))) : w.heap.size ≤ gB)); have NEAB : gA ≠ gB := (by rw [hg]; exact Nat.ne_of_lt (blk_lt (by (with_reducible repeat (first | refine blk_drewN ?_ _ | refine blk_drew ?_ | refine blk_alloc ?_ _)); exact BKA.out))); have NEBA : gB ≠ gA := Ne.symm NEAB; have nX_ := Aside0.mk hbox; have mA_ := Aside0.mk (blk_below (by (with_reducible repeat (first | refine blk_drewN ?_ _ | refine blk_drew ?_ | refine blk_alloc ?_ _)); exact BKA.out) hb); have n0_ := Aside0.mk (below_step (by repeat (first | (with_reducible first | exact HB.out | apply bA | apply below_drew | apply bN | apply bD | refine below_set ?_ GEA.out) | exact HB.out)) hb); clear HB BKA; have HB := n0_; have BKA := mA_; clear n0_ mA_ hb; have BKB := nX_; clear nX_ hbox hg; clear zA0 zAf0 zA1 zAf1 zA2 zAf2 zA3 zAf3 zA4 zAf4; obtain ⟨zA0, zA1, zA2, zA3, zA4, zAf0, zAf1, zAf2, zAf3, zAf4⟩ := five BKA.out; obtain ⟨zB0, zB1, zB2, zB3, zB4, zBf0, zBf1, zBf2, zBf3, zBf4⟩ := five BKB.out)
    | ((with_reducible refine gate_callee (f := 25) rfl ?_); (try (refine gate_guard (by rfl) ?_; dsimp only)); refine goesL_ (some 12) rfl rfl Tryz.func25 (by kernel_rfl) rfl #[] rfl (by (try simp only [List.map_toArray, List.map_cons, List.map_nil]); first | done | rfl) ?_; (refine (begun12 (w := _) (hL := ⟨hL.out.below (by repeat (first | (with_reducible first | exact HB.out | apply bA | apply below_drew | apply bN | apply bD | refine below_set ?_ GEA.out | refine below_set ?_ GEB.out) | exact HB.out))⟩)).mono ?_); rintro e_ v1 ⟨rfl, hb⟩; refine ⟨_, rfl, ?_⟩; have mA_ := Aside0.mk (blk_below (by (with_reducible repeat (first | refine blk_drewN ?_ _ | refine blk_drew ?_ | refine blk_alloc ?_ _)); exact BKA.out) hb); have mB_ := Aside0.mk (blk_below (by (with_reducible repeat (first | refine blk_drewN ?_ _ | refine blk_drew ?_ | refine blk_alloc ?_ _)); exact BKB.out) hb); have n0_ := Aside0.mk (below_step (by repeat (first | (with_reducible first | exact HB.out | apply bA | apply below_drew | apply bN | apply bD | refine below_set ?_ GEA.out | refine below_set ?_ GEB.out) | exact HB.out)) hb); clear HB BKA BKB; have HB := n0_; have BKA := mA_; have BKB := mB_; clear n0_ mA_ mB_ hb; clear zA0 zAf0 zA1 zAf1 zA2 zAf2 zA3 zAf3 zA4 zAf4; clear zB0 zBf0 zB1 zBf1 zB2 zBf2 zB3 zBf3 zB4 zBf4))
  (try simp only [Act.put, List.setIfInBounds_toArray, List.set_cons_zero, List.set_cons_succ])
  refine start_ (n := 6) (S := fun w' => w'.heap[gA]? = some (.cells (cs5 a0 a1 sa a3 a4) 24 (0, 0)) ∧ w'.heap[gB]? = some (.cells (cs5 b0 b1 sb b3 b4) 24 (0, 0))) (ds := [4, 5]) #[false, false, false, false, false, false] (by kernel_rfl) rfl rfl ⟨BKA.out, BKB.out⟩ (fun hHeld => ?_)
  refine with_tabW c4_tab c4_bits (fun HT_ HW_ => ?_)
  have mA_ := Aside0.mk (blk_drew BKA.out)
  have mB_ := Aside0.mk (blk_drew BKB.out)
  have n0_ := Aside0.mk (below_drew1 HB.out)
  clear HB BKA BKB
  have BKA := mA_
  have BKB := mB_
  have HB := n0_
  clear n0_ mA_ mB_
  generalize World.drew _ = wD at BKA BKB HB hHeld ⊢
  refine take_ (i := 0) (N := some 15) (v := ?_) (a' := ?_) #[true, false, false, false, false, false] rfl rfl (take_ofW HT_.out HW_.out (by kernel_rfl)) (fun _ _ _ h => h) (Or.inl ⟨by rfl, ?_⟩) hHeld ?_ ?_
  rotate_left
  · intro w' sA
    obtain ⟨sA1_, sB1_⟩ := sA
    have sA0 : w'.cell? ⟨gA, 0, none⟩ = some (.int .i64 a0) := (blk_cell sA1_ 0).trans rfl
    have sA1 : w'.cell? ⟨gA, 1, none⟩ = some (.int .i64 a1) := (blk_cell sA1_ 1).trans rfl
    have sA2 : w'.cell? ⟨gA, 2, none⟩ = some (.string sa) := (blk_cell sA1_ 2).trans rfl
    have sA3 : w'.cell? ⟨gA, 3, none⟩ = some (.bool a3) := (blk_cell sA1_ 3).trans rfl
    have sA4 : w'.cell? ⟨gA, 4, none⟩ = some (.int .i64 a4) := (blk_cell sA1_ 4).trans rfl
    have sB0 : w'.cell? ⟨gB, 0, none⟩ = some (.int .i64 b0) := (blk_cell sB1_ 0).trans rfl
    have sB1 : w'.cell? ⟨gB, 1, none⟩ = some (.int .i64 b1) := (blk_cell sB1_ 1).trans rfl
    have sB2 : w'.cell? ⟨gB, 2, none⟩ = some (.string sb) := (blk_cell sB1_ 2).trans rfl
    have sB3 : w'.cell? ⟨gB, 3, none⟩ = some (.bool b3) := (blk_cell sB1_ 3).trans rfl
    have sB4 : w'.cell? ⟨gB, 4, none⟩ = some (.int .i64 b4) := (blk_cell sB1_ 4).trans rfl
    clear sA1_ sB1_
    go_simp
    with_reducible rfl
  rotate_left
  · simp only [Act.put, List.setIfInBounds_toArray, List.set_cons_zero, List.set_cons_succ, i64_w, i32_w]
    rfl
  refine take_ (i := 2) (N := some 17) (v := ?_) (a' := ?_) #[true, false, true, false, false, false] rfl rfl (take_ofW HT_.out HW_.out (by kernel_rfl)) (fun _ _ _ h => h) (Or.inl ⟨by rfl, ?_⟩) hHeld ?_ ?_
  rotate_left
  · intro w' sA
    obtain ⟨sA1_, sB1_⟩ := sA
    have sA0 : w'.cell? ⟨gA, 0, none⟩ = some (.int .i64 a0) := (blk_cell sA1_ 0).trans rfl
    have sA1 : w'.cell? ⟨gA, 1, none⟩ = some (.int .i64 a1) := (blk_cell sA1_ 1).trans rfl
    have sA2 : w'.cell? ⟨gA, 2, none⟩ = some (.string sa) := (blk_cell sA1_ 2).trans rfl
    have sA3 : w'.cell? ⟨gA, 3, none⟩ = some (.bool a3) := (blk_cell sA1_ 3).trans rfl
    have sA4 : w'.cell? ⟨gA, 4, none⟩ = some (.int .i64 a4) := (blk_cell sA1_ 4).trans rfl
    have sB0 : w'.cell? ⟨gB, 0, none⟩ = some (.int .i64 b0) := (blk_cell sB1_ 0).trans rfl
    have sB1 : w'.cell? ⟨gB, 1, none⟩ = some (.int .i64 b1) := (blk_cell sB1_ 1).trans rfl
    have sB2 : w'.cell? ⟨gB, 2, none⟩ = some (.string sb) := (blk_cell sB1_ 2).trans rfl
    have sB3 : w'.cell? ⟨gB, 3, none⟩ = some (.bool b3) := (blk_cell sB1_ 3).trans rfl
    have sB4 : w'.cell? ⟨gB, 4, none⟩ = some (.int .i64 b4) := (blk_cell sB1_ 4).trans rfl
    clear sA1_ sB1_
    go_simp
    with_reducible rfl
  rotate_left
  · simp only [Act.put, List.setIfInBounds_toArray, List.set_cons_zero, List.set_cons_succ, i64_w, i32_w]
    rfl
  refine one_ (i := 1) (N := some 16) #[true, true, true, false, false, false] rfl rfl (one_of HT_.out (by kernel_rfl)) (by decide) (fun K hK => ?_)
  refine goes_ Tryz.func10 (by kernel_rfl) rfl #[.agg #[.int .i64 a0, .int .i64 a1, .string sa, .bool a3, .int .i64 a4]] (by rfl) rfl rfl (by (try simp only [List.map_toArray, List.map_cons, List.map_nil]); first | done | rfl) ?_
  refine (counterpanelaw2_Cut.calls a0 a1 sa a3 a4 a0 a1 ta a3 a4 _ HCA.out).mono ?_
  rintro e_ w1 ⟨rfl, hb⟩
  refine ⟨_, rfl, ?_⟩
  have mA_ := Aside0.mk (blk_below (by (with_reducible repeat (first | refine blk_drewN ?_ _ | refine blk_drew ?_ | refine blk_alloc ?_ _)); exact BKA.out) hb); have mB_ := Aside0.mk (blk_below (by (with_reducible repeat (first | refine blk_drewN ?_ _ | refine blk_drew ?_ | refine blk_alloc ?_ _)); exact BKB.out) hb); have n0_ := Aside0.mk (below_step (by repeat (first | (with_reducible first | exact HB.out | apply bA | apply below_drew | apply bN | apply bD | refine below_set ?_ GEA.out | refine below_set ?_ GEB.out) | exact HB.out)) hb); clear HB BKA BKB; have HB := n0_; have BKA := mA_; have BKB := mB_; clear n0_ mA_ mB_ hb
  refine hK.out _ _ (⟨BKA.out, BKB.out⟩) (fun hHeld => ?_)
  clear hK K
  refine norm_ (a' := ?_) ?_ ?_
  rotate_left
  · show Act.put _ (some 16) _ = _
    simp only [Act.put, List.setIfInBounds_toArray, List.set_cons_zero, List.set_cons_succ, i64_w, i32_w]
    rfl
  refine one_ (i := 3) (N := some 18) #[true, true, true, true, false, false] rfl rfl (one_of HT_.out (by kernel_rfl)) (by decide) (fun K hK => ?_)
  refine goes_ Tryz.func10 (by kernel_rfl) rfl #[.agg #[.int .i64 b0, .int .i64 b1, .string sb, .bool b3, .int .i64 b4]] (by rfl) rfl rfl (by (try simp only [List.map_toArray, List.map_cons, List.map_nil]); first | done | rfl) ?_
  refine (counterpanelaw2_Cut.calls b0 b1 sb b3 b4 b0 b1 tb b3 b4 _ HCB.out).mono ?_
  rintro e_ w1 ⟨rfl, hb⟩
  refine ⟨_, rfl, ?_⟩
  have mA_ := Aside0.mk (blk_below (by (with_reducible repeat (first | refine blk_drewN ?_ _ | refine blk_drew ?_ | refine blk_alloc ?_ _)); exact BKA.out) hb); have mB_ := Aside0.mk (blk_below (by (with_reducible repeat (first | refine blk_drewN ?_ _ | refine blk_drew ?_ | refine blk_alloc ?_ _)); exact BKB.out) hb); have n0_ := Aside0.mk (below_step (by repeat (first | (with_reducible first | exact HB.out | apply bA | apply below_drew | apply bN | apply bD | refine below_set ?_ GEA.out | refine below_set ?_ GEB.out) | exact HB.out)) hb); clear HB BKA BKB; have HB := n0_; have BKA := mA_; have BKB := mB_; clear n0_ mA_ mB_ hb
  refine hK.out _ _ (⟨BKA.out, BKB.out⟩) (fun hHeld => ?_)
  clear hK K
  refine norm_ (a' := ?_) ?_ ?_
  rotate_left
  · show Act.put _ (some 18) _ = _
    simp only [Act.put, List.setIfInBounds_toArray, List.set_cons_zero, List.set_cons_succ, i64_w, i32_w]
    rfl
  obtain ⟨zA0, zA1, zA2, zA3, zA4, zAf0, zAf1, zAf2, zAf3, zAf4⟩ := five BKA.out
  obtain ⟨w4, hw_⟩ : ∃ w3, w3 = (((((w1).setCell ⟨gA, 0, none⟩ (.int .i64 a0)).setCell ⟨gA, 1, none⟩ (.int .i64 a1)).setCell ⟨gA, 2, none⟩ (.string ta)).setCell ⟨gA, 3, none⟩ (.bool a3)).setCell ⟨gA, 4, none⟩ (.int .i64 a4) := ⟨_, rfl⟩
  refine last_ (i := 4) (N := none) #[true, true, true, true, true, false] rfl rfl (one_of HT_.out (by kernel_rfl)) (by decide) (fun K hK => ?_)
  refine skip_ (w1 := w4) (by rfl) rfl ?_ ?_
  · rw [hw_]
    first | (go_simp; done) | (go_simp; rfl)
  have mA_ : Aside0 (w4.heap[gA]? = some (.cells (cs5 a0 a1 ta a3 a4) 24 (0, 0))) := ⟨by rw [hw_]; exact vput BKA.out _ _ _ _ _⟩
  have mB_ : Aside0 (w4.heap[gB]? = some (.cells (cs5 b0 b1 sb b3 b4) 24 (0, 0))) := ⟨by rw [hw_]; exact vfar BKB.out NEBA _ _ _ _ _⟩
  have n0_ : Aside0 (Below w.heap.size w w4) := ⟨by rw [hw_]; exact vbel HB.out GEA.out _ _ _ _ _⟩
  clear zA0 zAf0 zA1 zAf1 zA2 zAf2 zA3 zAf3 zA4 zAf4
  clear HB hw_ BKA BKB
  have HB := n0_
  have BKA := mA_
  have BKB := mB_
  clear n0_ mA_ mB_
  refine hK.out _ _ ?_
  clear hK K
  obtain ⟨zB0, zB1, zB2, zB3, zB4, zBf0, zBf1, zBf2, zBf3, zBf4⟩ := five BKB.out
  obtain ⟨w5, hw_⟩ : ∃ w3, w3 = (((((w4).setCell ⟨gB, 0, none⟩ (.int .i64 b0)).setCell ⟨gB, 1, none⟩ (.int .i64 b1)).setCell ⟨gB, 2, none⟩ (.string tb)).setCell ⟨gB, 3, none⟩ (.bool b3)).setCell ⟨gB, 4, none⟩ (.int .i64 b4) := ⟨_, rfl⟩
  refine last_ (i := 5) (N := none) #[true, true, true, true, true, true] rfl rfl (one_of HT_.out (by kernel_rfl)) (by decide) (fun K hK => ?_)
  refine skip_ (w1 := w5) (by rfl) rfl ?_ ?_
  · rw [hw_]
    first | (go_simp; done) | (go_simp; rfl)
  have mB_ : Aside0 (w5.heap[gB]? = some (.cells (cs5 b0 b1 tb b3 b4) 24 (0, 0))) := ⟨by rw [hw_]; exact vput BKB.out _ _ _ _ _⟩
  have mA_ : Aside0 (w5.heap[gA]? = some (.cells (cs5 a0 a1 ta a3 a4) 24 (0, 0))) := ⟨by rw [hw_]; exact vfar BKA.out NEAB _ _ _ _ _⟩
  have n0_ : Aside0 (Below w.heap.size w w5) := ⟨by rw [hw_]; exact vbel HB.out GEB.out _ _ _ _ _⟩
  clear zB0 zBf0 zB1 zBf1 zB2 zBf2 zB3 zBf3 zB4 zBf4
  clear HB hw_ BKB BKA
  have HB := n0_
  have BKB := mB_
  have BKA := mA_
  clear n0_ mB_ mA_
  refine hK.out _ _ ?_
  clear hK K
  refine done_ (done_of HT_.out (by kernel_rfl)) ?_
  obtain ⟨zA0, zA1, zA2, zA3, zA4, zAf0, zAf1, zAf2, zAf3, zAf4⟩ := five BKA.out
  obtain ⟨zB0, zB1, zB2, zB3, zB4, zBf0, zBf1, zBf2, zBf3, zBf4⟩ := five BKB.out
  cases mA with
  | false =>
    go_wp2_with (first
    | ((with_reducible refine gate_callee (f := 24) rfl ?_); (try (refine gate_guard (by rfl) ?_; dsimp only)); refine goesL_ (some 20) rfl rfl Tryz.func24 (by kernel_rfl) rfl #[.agg #[.int .i64 a0, .int .i64 a1, .string ta, .bool a3, .int .i64 a4]] rfl (by (try simp only [List.map_toArray, List.map_cons, List.map_nil]); first | done | rfl) ?_; (refine (counterpaneref1_May.calls 20000 a0 a1 ta a3 a4 _ _ HMA.out).mono ?_); rintro e_ v2 ⟨rfl, hb⟩; refine ⟨_, rfl, ?_⟩; have mA_ := Aside0.mk (blk_below (by (with_reducible repeat (first | refine blk_drewN ?_ _ | refine blk_drew ?_ | refine blk_alloc ?_ _)); exact BKA.out) hb); have mB_ := Aside0.mk (blk_below (by (with_reducible repeat (first | refine blk_drewN ?_ _ | refine blk_drew ?_ | refine blk_alloc ?_ _)); exact BKB.out) hb); have n0_ := Aside0.mk (below_step (by repeat (first | (with_reducible first | exact HB.out | apply bA | apply below_drew | apply bN | apply bD | refine below_set ?_ GEA.out | refine below_set ?_ GEB.out) | exact HB.out)) hb); clear HB BKA BKB; have HB := n0_; have BKA := mA_; have BKB := mB_; clear n0_ mA_ mB_ hb; clear zA0 zAf0 zA1 zAf1 zA2 zAf2 zA3 zAf3 zA4 zAf4; clear zB0 zBf0 zB1 zBf1 zB2 zBf2 zB3 zBf3 zB4 zBf4; obtain ⟨zA0, zA1, zA2, zA3, zA4, zAf0, zAf1, zAf2, zAf3, zAf4⟩ := five BKA.out; obtain ⟨zB0, zB1, zB2, zB3, zB4, zBf0, zBf1, zBf2, zBf3, zBf4⟩ := five BKB.out))
    go_ret
    exact ⟨by first | rfl | (simp; done) | (simp [*]; done), (by repeat (first | (with_reducible first | exact HB.out | apply bA | apply below_drew | apply bN | apply bD | refine below_set ?_ GEA.out | refine below_set ?_ GEB.out) | exact HB.out))⟩
  | true =>
  cases mB with
  | false =>
    go_wp2_with (first
    | ((with_reducible refine gate_callee (f := 24) rfl ?_); (try (refine gate_guard (by rfl) ?_; dsimp only)); refine goesL_ (some 20) rfl rfl Tryz.func24 (by kernel_rfl) rfl #[.agg #[.int .i64 a0, .int .i64 a1, .string ta, .bool a3, .int .i64 a4]] rfl (by (try simp only [List.map_toArray, List.map_cons, List.map_nil]); first | done | rfl) ?_; (refine (counterpaneref1_May.calls 20000 a0 a1 ta a3 a4 _ _ HMA.out).mono ?_); rintro e_ v2 ⟨rfl, hb⟩; refine ⟨_, rfl, ?_⟩; have mA_ := Aside0.mk (blk_below (by (with_reducible repeat (first | refine blk_drewN ?_ _ | refine blk_drew ?_ | refine blk_alloc ?_ _)); exact BKA.out) hb); have mB_ := Aside0.mk (blk_below (by (with_reducible repeat (first | refine blk_drewN ?_ _ | refine blk_drew ?_ | refine blk_alloc ?_ _)); exact BKB.out) hb); have n0_ := Aside0.mk (below_step (by repeat (first | (with_reducible first | exact HB.out | apply bA | apply below_drew | apply bN | apply bD | refine below_set ?_ GEA.out | refine below_set ?_ GEB.out) | exact HB.out)) hb); clear HB BKA BKB; have HB := n0_; have BKA := mA_; have BKB := mB_; clear n0_ mA_ mB_ hb; clear zA0 zAf0 zA1 zAf1 zA2 zAf2 zA3 zAf3 zA4 zAf4; clear zB0 zBf0 zB1 zBf1 zB2 zBf2 zB3 zBf3 zB4 zBf4; obtain ⟨zA0, zA1, zA2, zA3, zA4, zAf0, zAf1, zAf2, zAf3, zAf4⟩ := five BKA.out; obtain ⟨zB0, zB1, zB2, zB3, zB4, zBf0, zBf1, zBf2, zBf3, zBf4⟩ := five BKB.out)
    | ((with_reducible refine gate_callee (f := 24) rfl ?_); (try (refine gate_guard (by rfl) ?_; dsimp only)); refine goesL_ (some 24) rfl rfl Tryz.func24 (by kernel_rfl) rfl #[.agg #[.int .i64 b0, .int .i64 b1, .string tb, .bool b3, .int .i64 b4]] rfl (by (try simp only [List.map_toArray, List.map_cons, List.map_nil]); first | done | rfl) ?_; (refine (counterpaneref1_May.calls 20000 b0 b1 tb b3 b4 _ _ HMB.out).mono ?_); rintro e_ v3 ⟨rfl, hb⟩; refine ⟨_, rfl, ?_⟩; have mA_ := Aside0.mk (blk_below (by (with_reducible repeat (first | refine blk_drewN ?_ _ | refine blk_drew ?_ | refine blk_alloc ?_ _)); exact BKA.out) hb); have mB_ := Aside0.mk (blk_below (by (with_reducible repeat (first | refine blk_drewN ?_ _ | refine blk_drew ?_ | refine blk_alloc ?_ _)); exact BKB.out) hb); have n0_ := Aside0.mk (below_step (by repeat (first | (with_reducible first | exact HB.out | apply bA | apply below_drew | apply bN | apply bD | refine below_set ?_ GEA.out | refine below_set ?_ GEB.out) | exact HB.out)) hb); clear HB BKA BKB; have HB := n0_; have BKA := mA_; have BKB := mB_; clear n0_ mA_ mB_ hb; clear zA0 zAf0 zA1 zAf1 zA2 zAf2 zA3 zAf3 zA4 zAf4; clear zB0 zBf0 zB1 zBf1 zB2 zBf2 zB3 zBf3 zB4 zBf4; obtain ⟨zA0, zA1, zA2, zA3, zA4, zAf0, zAf1, zAf2, zAf3, zAf4⟩ := five BKA.out; obtain ⟨zB0, zB1, zB2, zB3, zB4, zBf0, zBf1, zBf2, zBf3, zBf4⟩ := five BKB.out))
    go_ret
    exact ⟨by first | rfl | (simp; done) | (simp [*]; done), (by repeat (first | (with_reducible first | exact HB.out | apply bA | apply below_drew | apply bN | apply bD | refine below_set ?_ GEA.out | refine below_set ?_ GEB.out) | exact HB.out))⟩
  | true =>
  by_cases ka : a0 = 4
  · have d1 : (a0 == 4) = true := beq_iff_eq.mpr ka
    clear ka
    go_wp2_with (first
    | ((with_reducible refine gate_callee (f := 24) rfl ?_); (try (refine gate_guard (by rfl) ?_; dsimp only)); refine goesL_ (some 20) rfl rfl Tryz.func24 (by kernel_rfl) rfl #[.agg #[.int .i64 a0, .int .i64 a1, .string ta, .bool a3, .int .i64 a4]] rfl (by (try simp only [List.map_toArray, List.map_cons, List.map_nil]); first | done | rfl) ?_; (refine (counterpaneref1_May.calls 20000 a0 a1 ta a3 a4 _ _ HMA.out).mono ?_); rintro e_ v2 ⟨rfl, hb⟩; refine ⟨_, rfl, ?_⟩; have mA_ := Aside0.mk (blk_below (by (with_reducible repeat (first | refine blk_drewN ?_ _ | refine blk_drew ?_ | refine blk_alloc ?_ _)); exact BKA.out) hb); have mB_ := Aside0.mk (blk_below (by (with_reducible repeat (first | refine blk_drewN ?_ _ | refine blk_drew ?_ | refine blk_alloc ?_ _)); exact BKB.out) hb); have n0_ := Aside0.mk (below_step (by repeat (first | (with_reducible first | exact HB.out | apply bA | apply below_drew | apply bN | apply bD | refine below_set ?_ GEA.out | refine below_set ?_ GEB.out) | exact HB.out)) hb); clear HB BKA BKB; have HB := n0_; have BKA := mA_; have BKB := mB_; clear n0_ mA_ mB_ hb; clear zA0 zAf0 zA1 zAf1 zA2 zAf2 zA3 zAf3 zA4 zAf4; clear zB0 zBf0 zB1 zBf1 zB2 zBf2 zB3 zBf3 zB4 zBf4; obtain ⟨zA0, zA1, zA2, zA3, zA4, zAf0, zAf1, zAf2, zAf3, zAf4⟩ := five BKA.out; obtain ⟨zB0, zB1, zB2, zB3, zB4, zBf0, zBf1, zBf2, zBf3, zBf4⟩ := five BKB.out)
    | ((with_reducible refine gate_callee (f := 24) rfl ?_); (try (refine gate_guard (by rfl) ?_; dsimp only)); refine goesL_ (some 24) rfl rfl Tryz.func24 (by kernel_rfl) rfl #[.agg #[.int .i64 b0, .int .i64 b1, .string tb, .bool b3, .int .i64 b4]] rfl (by (try simp only [List.map_toArray, List.map_cons, List.map_nil]); first | done | rfl) ?_; (refine (counterpaneref1_May.calls 20000 b0 b1 tb b3 b4 _ _ HMB.out).mono ?_); rintro e_ v3 ⟨rfl, hb⟩; refine ⟨_, rfl, ?_⟩; have mA_ := Aside0.mk (blk_below (by (with_reducible repeat (first | refine blk_drewN ?_ _ | refine blk_drew ?_ | refine blk_alloc ?_ _)); exact BKA.out) hb); have mB_ := Aside0.mk (blk_below (by (with_reducible repeat (first | refine blk_drewN ?_ _ | refine blk_drew ?_ | refine blk_alloc ?_ _)); exact BKB.out) hb); have n0_ := Aside0.mk (below_step (by repeat (first | (with_reducible first | exact HB.out | apply bA | apply below_drew | apply bN | apply bD | refine below_set ?_ GEA.out | refine below_set ?_ GEB.out) | exact HB.out)) hb); clear HB BKA BKB; have HB := n0_; have BKA := mA_; have BKB := mB_; clear n0_ mA_ mB_ hb; clear zA0 zAf0 zA1 zAf1 zA2 zAf2 zA3 zAf3 zA4 zAf4; clear zB0 zBf0 zB1 zBf1 zB2 zBf2 zB3 zBf3 zB4 zBf4; obtain ⟨zA0, zA1, zA2, zA3, zA4, zAf0, zAf1, zAf2, zAf3, zAf4⟩ := five BKA.out; obtain ⟨zB0, zB1, zB2, zB3, zB4, zBf0, zBf1, zBf2, zBf3, zBf4⟩ := five BKB.out))
    go_ret
    exact ⟨by first | rfl | (simp; done) | (simp [*]; done), (by repeat (first | (with_reducible first | exact HB.out | apply bA | apply below_drew | apply bN | apply bD | refine below_set ?_ GEA.out | refine below_set ?_ GEB.out) | exact HB.out))⟩
  · by_cases kb : b0 = 4
    · have d1 : (a0 == 4) = false := beq_eq_false_iff_ne.mpr ka
      have d2 : (b0 == 4) = true := beq_iff_eq.mpr kb
      clear ka kb
      go_wp2_with (first
    | ((with_reducible refine gate_callee (f := 24) rfl ?_); (try (refine gate_guard (by rfl) ?_; dsimp only)); refine goesL_ (some 20) rfl rfl Tryz.func24 (by kernel_rfl) rfl #[.agg #[.int .i64 a0, .int .i64 a1, .string ta, .bool a3, .int .i64 a4]] rfl (by (try simp only [List.map_toArray, List.map_cons, List.map_nil]); first | done | rfl) ?_; (refine (counterpaneref1_May.calls 20000 a0 a1 ta a3 a4 _ _ HMA.out).mono ?_); rintro e_ v2 ⟨rfl, hb⟩; refine ⟨_, rfl, ?_⟩; have mA_ := Aside0.mk (blk_below (by (with_reducible repeat (first | refine blk_drewN ?_ _ | refine blk_drew ?_ | refine blk_alloc ?_ _)); exact BKA.out) hb); have mB_ := Aside0.mk (blk_below (by (with_reducible repeat (first | refine blk_drewN ?_ _ | refine blk_drew ?_ | refine blk_alloc ?_ _)); exact BKB.out) hb); have n0_ := Aside0.mk (below_step (by repeat (first | (with_reducible first | exact HB.out | apply bA | apply below_drew | apply bN | apply bD | refine below_set ?_ GEA.out | refine below_set ?_ GEB.out) | exact HB.out)) hb); clear HB BKA BKB; have HB := n0_; have BKA := mA_; have BKB := mB_; clear n0_ mA_ mB_ hb; clear zA0 zAf0 zA1 zAf1 zA2 zAf2 zA3 zAf3 zA4 zAf4; clear zB0 zBf0 zB1 zBf1 zB2 zBf2 zB3 zBf3 zB4 zBf4; obtain ⟨zA0, zA1, zA2, zA3, zA4, zAf0, zAf1, zAf2, zAf3, zAf4⟩ := five BKA.out; obtain ⟨zB0, zB1, zB2, zB3, zB4, zBf0, zBf1, zBf2, zBf3, zBf4⟩ := five BKB.out)
    | ((with_reducible refine gate_callee (f := 24) rfl ?_); (try (refine gate_guard (by rfl) ?_; dsimp only)); refine goesL_ (some 24) rfl rfl Tryz.func24 (by kernel_rfl) rfl #[.agg #[.int .i64 b0, .int .i64 b1, .string tb, .bool b3, .int .i64 b4]] rfl (by (try simp only [List.map_toArray, List.map_cons, List.map_nil]); first | done | rfl) ?_; (refine (counterpaneref1_May.calls 20000 b0 b1 tb b3 b4 _ _ HMB.out).mono ?_); rintro e_ v3 ⟨rfl, hb⟩; refine ⟨_, rfl, ?_⟩; have mA_ := Aside0.mk (blk_below (by (with_reducible repeat (first | refine blk_drewN ?_ _ | refine blk_drew ?_ | refine blk_alloc ?_ _)); exact BKA.out) hb); have mB_ := Aside0.mk (blk_below (by (with_reducible repeat (first | refine blk_drewN ?_ _ | refine blk_drew ?_ | refine blk_alloc ?_ _)); exact BKB.out) hb); have n0_ := Aside0.mk (below_step (by repeat (first | (with_reducible first | exact HB.out | apply bA | apply below_drew | apply bN | apply bD | refine below_set ?_ GEA.out | refine below_set ?_ GEB.out) | exact HB.out)) hb); clear HB BKA BKB; have HB := n0_; have BKA := mA_; have BKB := mB_; clear n0_ mA_ mB_ hb; clear zA0 zAf0 zA1 zAf1 zA2 zAf2 zA3 zAf3 zA4 zAf4; clear zB0 zBf0 zB1 zBf1 zB2 zBf2 zB3 zBf3 zB4 zBf4; obtain ⟨zA0, zA1, zA2, zA3, zA4, zAf0, zAf1, zAf2, zAf3, zAf4⟩ := five BKA.out; obtain ⟨zB0, zB1, zB2, zB3, zB4, zBf0, zBf1, zBf2, zBf3, zBf4⟩ := five BKB.out))
      go_ret
      exact ⟨by first | rfl | (simp; done) | (simp [*]; done), (by repeat (first | (with_reducible first | exact HB.out | apply bA | apply below_drew | apply bN | apply bD | refine below_set ?_ GEA.out | refine below_set ?_ GEB.out) | exact HB.out))⟩
    · have d1 : (a0 == 4) = false := beq_eq_false_iff_ne.mpr ka
      have d2 : (b0 == 4) = false := beq_eq_false_iff_ne.mpr kb
      obtain ⟨qa, qb, za, zb, ha, hb0⟩ := HZ.out
      obtain ⟨X, hX⟩ := txt_ok a0 a1 ta a3 a4 qa ka ha za
      obtain ⟨Y, hY⟩ := txt_ok b0 b1 tb b3 b4 qb kb hb0 zb
      have hFA := filled_f (a0, a1, ta, a3, a4) (b0, b1, tb, b3, b4)
      have hFB := filled_f (b0, b1, tb, b3, b4) (a0, a1, ta, a3, a4)
      have hcc := compare_f 10 (filV (a0, a1, ta, a3, a4) (b0, b1, tb, b3, b4)) (filV (b0, b1, tb, b3, b4) (a0, a1, ta, a3, a4)) (filV_size _ _ (by show ta.size ≤ 1000; omega)) (filV_size _ _ (by show tb.size ≤ 1000; omega)) (Nat.le_refl _)
      obtain ⟨⟨x0, x1, x2, x3, x4⟩, hx⟩ : ∃ x, filV (a0, a1, ta, a3, a4) (b0, b1, tb, b3, b4) = x := ⟨_, rfl⟩
      obtain ⟨⟨y0, y1, y2, y3, y4⟩, hy⟩ : ∃ x, filV (b0, b1, tb, b3, b4) (a0, a1, ta, a3, a4) = x := ⟨_, rfl⟩
      rw [hx] at hFA hcc
      rw [hy] at hFB hcc
      obtain ⟨c, hc⟩ : ∃ c, cmpS (x0, x1, x2, x3, x4) (y0, y1, y2, y3, y4) = c := ⟨_, rfl⟩
      rw [hc] at hcc
      have hbin : ∀ i : Nat, i < 6 → ∀ w, Aside0 (Lq w) → Calls Tryz.prog 31 #[.string (rdOf ByteArray.empty opsC (i : Int)), .agg #[.int .i64 a0, .int .i64 a1, .string ta, .bool a3, .int .i64 a4], .agg #[.int .i64 b0, .int .i64 b1, .string tb, .bool b3, .int .i64 b4]] w fun e w' => e = .returned (.agg #[.int .i64 3, .int .i64 0, .string (⟨#[]⟩ : ByteArray), .bool (qC c i), .int .i64 0]) ∧ Below w.heap.size w w' := by
        intro i hi w hL
        obtain ⟨n1, n2, n3, n4, n5⟩ := opsC_ne i hi
        exact binary_cmp _ n1 n2 n3 n4 n5 a0 a1 ta a3 a4 b0 b1 tb b3 b4 x0 x1 x2 x3 x4 y0 y1 y2 y3 y4 X Y c _ hX hY hFA hFB hcc (compared_f c i hi) w hL
      have HBIN := Aside0.mk hbin
      clear hbin hX hY hFA hFB hcc hx hy hc HZ qa qb za zb ha hb0 ka kb
      go_wp2_with (first
    | ((with_reducible refine gate_callee (f := 24) rfl ?_); (try (refine gate_guard (by rfl) ?_; dsimp only)); refine goesL_ (some 20) rfl rfl Tryz.func24 (by kernel_rfl) rfl #[.agg #[.int .i64 a0, .int .i64 a1, .string ta, .bool a3, .int .i64 a4]] rfl (by (try simp only [List.map_toArray, List.map_cons, List.map_nil]); first | done | rfl) ?_; (refine (counterpaneref1_May.calls 20000 a0 a1 ta a3 a4 _ _ HMA.out).mono ?_); rintro e_ v2 ⟨rfl, hb⟩; refine ⟨_, rfl, ?_⟩; have mA_ := Aside0.mk (blk_below (by (with_reducible repeat (first | refine blk_drewN ?_ _ | refine blk_drew ?_ | refine blk_alloc ?_ _)); exact BKA.out) hb); have mB_ := Aside0.mk (blk_below (by (with_reducible repeat (first | refine blk_drewN ?_ _ | refine blk_drew ?_ | refine blk_alloc ?_ _)); exact BKB.out) hb); have n0_ := Aside0.mk (below_step (by repeat (first | (with_reducible first | exact HB.out | apply bA | apply below_drew | apply bN | apply bD | refine below_set ?_ GEA.out | refine below_set ?_ GEB.out) | exact HB.out)) hb); clear HB BKA BKB; have HB := n0_; have BKA := mA_; have BKB := mB_; clear n0_ mA_ mB_ hb; clear zA0 zAf0 zA1 zAf1 zA2 zAf2 zA3 zAf3 zA4 zAf4; clear zB0 zBf0 zB1 zBf1 zB2 zBf2 zB3 zBf3 zB4 zBf4; obtain ⟨zA0, zA1, zA2, zA3, zA4, zAf0, zAf1, zAf2, zAf3, zAf4⟩ := five BKA.out; obtain ⟨zB0, zB1, zB2, zB3, zB4, zBf0, zBf1, zBf2, zBf3, zBf4⟩ := five BKB.out)
    | ((with_reducible refine gate_callee (f := 24) rfl ?_); (try (refine gate_guard (by rfl) ?_; dsimp only)); refine goesL_ (some 24) rfl rfl Tryz.func24 (by kernel_rfl) rfl #[.agg #[.int .i64 b0, .int .i64 b1, .string tb, .bool b3, .int .i64 b4]] rfl (by (try simp only [List.map_toArray, List.map_cons, List.map_nil]); first | done | rfl) ?_; (refine (counterpaneref1_May.calls 20000 b0 b1 tb b3 b4 _ _ HMB.out).mono ?_); rintro e_ v3 ⟨rfl, hb⟩; refine ⟨_, rfl, ?_⟩; have mA_ := Aside0.mk (blk_below (by (with_reducible repeat (first | refine blk_drewN ?_ _ | refine blk_drew ?_ | refine blk_alloc ?_ _)); exact BKA.out) hb); have mB_ := Aside0.mk (blk_below (by (with_reducible repeat (first | refine blk_drewN ?_ _ | refine blk_drew ?_ | refine blk_alloc ?_ _)); exact BKB.out) hb); have n0_ := Aside0.mk (below_step (by repeat (first | (with_reducible first | exact HB.out | apply bA | apply below_drew | apply bN | apply bD | refine below_set ?_ GEA.out | refine below_set ?_ GEB.out) | exact HB.out)) hb); clear HB BKA BKB; have HB := n0_; have BKA := mA_; have BKB := mB_; clear n0_ mA_ mB_ hb; clear zA0 zAf0 zA1 zAf1 zA2 zAf2 zA3 zAf3 zA4 zAf4; clear zB0 zBf0 zB1 zBf1 zB2 zBf2 zB3 zBf3 zB4 zBf4; obtain ⟨zA0, zA1, zA2, zA3, zA4, zAf0, zAf1, zAf2, zAf3, zAf4⟩ := five BKA.out; obtain ⟨zB0, zB1, zB2, zB3, zB4, zBf0, zBf1, zBf2, zBf3, zBf4⟩ := five BKB.out)
    | ((with_reducible refine gate_dst (N := 38) rfl ?_); refine Kd.R_lit Kd.string _ 9 ?hg (N := 38) ?hd (xs := [(⟨#[60]⟩ : ByteArray), (⟨#[61]⟩ : ByteArray), (⟨#[62]⟩ : ByteArray), (⟨#[60, 61]⟩ : ByteArray), (⟨#[60, 62]⟩ : ByteArray), (⟨#[62, 61]⟩ : ByteArray)]) (inner := [.string (⟨#[60]⟩ : ByteArray), .string (⟨#[61]⟩ : ByteArray), .string (⟨#[62]⟩ : ByteArray), .string (⟨#[60, 61]⟩ : ByteArray), .string (⟨#[60, 62]⟩ : ByteArray), .string (⟨#[62, 61]⟩ : ByteArray)]) (ok := fun _ => True) (okp := fun _ => True) ?hr ?hp (fun _ hk => hk) trivial (Below.refl _ _) (Nat.le_refl _) (by simp) ?_; (case hd => rfl); (case hg => rfl); (case hr => first | (go_simp; done) | (go_simp; rfl)); (case hp => exact (Reps.one (show Kd.M Kd.string _ _ _ (⟨#[60]⟩ : ByteArray) [.string (⟨#[60]⟩ : ByteArray)] from rfl) (Reps.one (show Kd.M Kd.string _ _ _ (⟨#[61]⟩ : ByteArray) [.string (⟨#[61]⟩ : ByteArray)] from rfl) (Reps.one (show Kd.M Kd.string _ _ _ (⟨#[62]⟩ : ByteArray) [.string (⟨#[62]⟩ : ByteArray)] from rfl) (Reps.one (show Kd.M Kd.string _ _ _ (⟨#[60, 61]⟩ : ByteArray) [.string (⟨#[60, 61]⟩ : ByteArray)] from rfl) (Reps.one (show Kd.M Kd.string _ _ _ (⟨#[60, 62]⟩ : ByteArray) [.string (⟨#[60, 62]⟩ : ByteArray)] from rfl) (Reps.one (show Kd.M Kd.string _ _ _ (⟨#[62, 61]⟩ : ByteArray) [.string (⟨#[62, 61]⟩ : ByteArray)] from rfl) (Reps.none _ _)))))))); intro vN wN ho8 hb hg_ hnew_; clear hg_ hnew_; obtain ⟨An, cn, en⟩ := Kd.R_slice ho8; subst en; have hN_ : Kd.string.C wN An opsC.length opsC := (Kd.R_reads' ho8).2.2; obtain ⟨adN, eN, _⟩ := Kd.at_string hN_ 0 (by decide) (by decide); subst eN; have HN := Aside0.mk hN_; clear hN_; clear zA0 zAf0 zA1 zAf1 zA2 zAf2 zA3 zAf3 zA4 zAf4; clear zB0 zBf0 zB1 zBf1 zB2 zBf2 zB3 zBf3 zB4 zBf4; have mA_ := Aside0.mk (blk_below (by (with_reducible repeat (first | refine blk_drewN ?_ _ | refine blk_drew ?_ | refine blk_alloc ?_ _)); exact BKA.out) hb); have mB_ := Aside0.mk (blk_below (by (with_reducible repeat (first | refine blk_drewN ?_ _ | refine blk_drew ?_ | refine blk_alloc ?_ _)); exact BKB.out) hb); have n0_ := Aside0.mk (below_step (by repeat (first | (with_reducible first | exact HB.out | apply bA | apply below_drew | apply bN | apply bD | refine below_set ?_ GEA.out | refine below_set ?_ GEB.out) | exact HB.out)) hb); clear HB BKA BKB; have HB := n0_; have BKA := mA_; have BKB := mB_; clear n0_ mA_ mB_ hb; clear ho8)
    | ((with_reducible refine gate_dst (N := 7) rfl ?_); refine box_event ?hg (N := 7) ?hd (cs := cb6 (qC c) 0) (t := 49) ?hr ?_; (case hd => rfl); (case hg => rfl); (case hr => first | (go_simp; done) | (go_simp; rfl)); intro gT hg wT hbox hb; have GET := Aside0.mk ((by rw [hg]; exact (below_size (by repeat (first | (with_reducible first | exact HB.out | apply bA | apply below_drew | apply bN | apply bD | refine below_set ?_ GEA.out | refine below_set ?_ GEB.out) | exact HB.out))) : w.heap.size ≤ gT)); have NEAT : gA ≠ gT := (by rw [hg]; exact Nat.ne_of_lt (blk_lt (by (with_reducible repeat (first | refine blk_drewN ?_ _ | refine blk_drew ?_ | refine blk_alloc ?_ _)); exact BKA.out))); have NEBT : gB ≠ gT := (by rw [hg]; exact Nat.ne_of_lt (blk_lt (by (with_reducible repeat (first | refine blk_drewN ?_ _ | refine blk_drew ?_ | refine blk_alloc ?_ _)); exact BKB.out))); have NENT : adN.block ≠ gT := (by rw [hg]; exact Nat.ne_of_lt (C_lt (by (with_reducible repeat (first | refine Kd.C_drewN ?_ _ | refine Kd.C_drew ?_)); exact HN.out) (by decide))); have nX_ := Aside0.mk hbox; have nN_ := Aside0.mk (Kd.C_below (by (with_reducible repeat (first | refine Kd.C_drewN ?_ _ | refine Kd.C_drew ?_)); exact HN.out) hb); clear HN; have mA_ := Aside0.mk (blk_below (by (with_reducible repeat (first | refine blk_drewN ?_ _ | refine blk_drew ?_ | refine blk_alloc ?_ _)); exact BKA.out) hb); have mB_ := Aside0.mk (blk_below (by (with_reducible repeat (first | refine blk_drewN ?_ _ | refine blk_drew ?_ | refine blk_alloc ?_ _)); exact BKB.out) hb); have n0_ := Aside0.mk (below_step (by repeat (first | (with_reducible first | exact HB.out | apply bA | apply below_drew | apply bN | apply bD | refine below_set ?_ GEA.out | refine below_set ?_ GEB.out) | exact HB.out)) hb); clear HB BKA BKB; have HB := n0_; have BKA := mA_; have BKB := mB_; clear n0_ mA_ mB_ hb; have BKT := nX_; have HN := nN_; clear nX_ nN_ hbox hg))
      (try simp only [Act.put, List.setIfInBounds_toArray, List.set_cons_zero, List.set_cons_succ])
      go_loopg [8] 7 (fun kq v8 w' => ∃ i : Nat, v8 = .int .i64 (i : Int) ∧ i ≤ 6 ∧ Aside0 (i + kq = 7) ∧ Aside0 (w'.heap[gA]? = some (.cells (cs5 a0 a1 ta a3 a4) 24 (0, 0))) ∧ Aside0 (w'.heap[gB]? = some (.cells (cs5 b0 b1 tb b3 b4) 24 (0, 0))) ∧ Aside0 (w'.heap[gT]? = some (.cells (cb6 (qC c) i) 49 (0, 0))) ∧ Aside0 (Kd.string.C w' (some adN) opsC.length opsC) ∧ Aside0 (Below w.heap.size w w'))
      case atStart => exact ⟨0, by first | rfl | (simp; done), by omega, ⟨rfl⟩, BKA, BKB, BKT, HN, HB⟩
      case round =>
        clear BKA BKB BKT HN HB
        obtain ⟨i, rfl, hi6, HI, BKA, BKB, BKT, HN, HB⟩ := hrel
        by_cases ci : i < 6
        · have e0 : decide ((i : Int) < 6) = true := decide_eq_true (by omega)
          have e1 : decide (0 ≤ (i : Int)) = true := decide_eq_true (by omega)
          have p1 : (0 ≤ (i : Int)) = True := eq_true (by omega)
          have p4 : ((i : Int) < 6) = True := eq_true (by omega)
          have p5 : (i < 6) = True := eq_true ci
          have kw : IntKind.i64.wrap ((i : Int) + 1) = ((i + 1 : Nat) : Int) := by rw [IntKind.wrap_i64]; omega
          obtain ⟨k2, rfl⟩ : ∃ k2, gk = k2 + 1 := ⟨gk - 1, by have := HI.out; omega⟩
          obtain ⟨ad2_, eN, hx⟩ := Kd.at_string HN.out (i : Int) (by omega) (by show (i : Int) < 6; omega)
          cases eN
          rw [Int.toNat_natCast] at hx
          have hbi := HBIN.out i ci
          obtain ⟨nm, hnm⟩ : ∃ nm, rdOf ByteArray.empty opsC (i : Int) = nm := ⟨_, rfl⟩
          rw [hnm] at hx hbi
          obtain ⟨qi, hqi⟩ : ∃ qi, qC c i = qi := ⟨_, rfl⟩
          rw [hqi] at hbi
          have HQI := Aside0.mk hqi
          have HBI := Aside0.mk hbi
          have hN0 := Aside0.mk hx
          clear hbi hnm hx hqi
          go_upto_region 12 with (fail)
          (try simp only [Act.put, List.setIfInBounds_toArray, List.set_cons_zero, List.set_cons_succ])
          refine start_ (n := 9) (S := fun w' => w'.cell? (adN.add i) = some (.string nm) ∧ w'.heap[gA]? = some (.cells (cs5 a0 a1 ta a3 a4) 24 (0, 0)) ∧ w'.heap[gB]? = some (.cells (cs5 b0 b1 tb b3 b4) 24 (0, 0))) (ds := []) #[false, false, false, false, false, false, false, false, false] (by kernel_rfl) rfl rfl (⟨hN0.out, BKA.out, BKB.out⟩) (fun hHeld => ?_)
          refine with_tabW c12_tab c12_bits (fun HT_ HW_ => ?_)
          have hN1 : Aside0 (World.cell? (World.drew _) (adN.add i) = some (.string nm)) := ⟨hHeld.1⟩
          have m0_ := Aside0.mk (blk_drew BKT.out)
          have mN_ := Aside0.mk (Kd.C_drew HN.out)
          have mA_ := Aside0.mk (blk_drew BKA.out)
          have mB_ := Aside0.mk (blk_drew BKB.out)
          have n0_ := Aside0.mk (below_drew1 HB.out)
          clear HB BKA BKB
          have BKA := mA_
          have BKB := mB_
          have HB := n0_
          clear n0_ mA_ mB_
          clear BKT HN hN0
          have BKT := m0_
          have HN := mN_
          have hN0 := hN1
          clear m0_ mN_ hN1
          generalize World.drew _ = wD at BKA BKB BKT HN HB hN0 hHeld ⊢
          refine pure_ (i := 0) (N := some 43) (v := ?_) (a' := ?_) #[true, false, false, false, false, false, false, false, false] rfl rfl (any_of HT_.out (by kernel_rfl)) (fun _ _ _ h => h) (Or.inl ⟨by rfl, ?_⟩) ?_ ?_
          rotate_left
          · intro w'
            go_simp
            with_reducible rfl
          rotate_left
          · simp only [Act.put, List.setIfInBounds_toArray, List.set_cons_zero, List.set_cons_succ, i64_w, i32_w]
            rfl
          refine pure_ (i := 1) (N := some 44) (v := ?_) (a' := ?_) #[true, true, false, false, false, false, false, false, false] rfl rfl (any_of HT_.out (by kernel_rfl)) (fun _ _ _ h => h) (Or.inl ⟨by rfl, ?_⟩) ?_ ?_
          rotate_left
          · intro w'
            go_simp
            with_reducible rfl
          rotate_left
          · simp only [Act.put, List.setIfInBounds_toArray, List.set_cons_zero, List.set_cons_succ, i64_w, i32_w]
            rfl
          refine pure_ (i := 2) (N := some 45) (v := ?_) (a' := ?_) #[true, true, true, false, false, false, false, false, false] rfl rfl (any_of HT_.out (by kernel_rfl)) (fun _ _ _ h => h) (Or.inl ⟨by rfl, ?_⟩) ?_ ?_
          rotate_left
          · intro w'
            go_simp
            with_reducible rfl
          rotate_left
          · simp only [Act.put, List.setIfInBounds_toArray, List.set_cons_zero, List.set_cons_succ, i64_w, i32_w]
            rfl
          refine take_ (i := 3) (N := some 46) (v := ?_) (a' := ?_) #[true, true, true, true, false, false, false, false, false] rfl rfl (take_ofW HT_.out HW_.out (by kernel_rfl)) (fun _ _ _ h => h) (Or.inl ⟨by rfl, ?_⟩) hHeld ?_ ?_
          rotate_left
          · intro w' sA
            obtain ⟨q_, sA1_, sB1_⟩ := sA
            have sA0 : w'.cell? ⟨gA, 0, none⟩ = some (.int .i64 a0) := (blk_cell sA1_ 0).trans rfl
            have sA1 : w'.cell? ⟨gA, 1, none⟩ = some (.int .i64 a1) := (blk_cell sA1_ 1).trans rfl
            have sA2 : w'.cell? ⟨gA, 2, none⟩ = some (.string ta) := (blk_cell sA1_ 2).trans rfl
            have sA3 : w'.cell? ⟨gA, 3, none⟩ = some (.bool a3) := (blk_cell sA1_ 3).trans rfl
            have sA4 : w'.cell? ⟨gA, 4, none⟩ = some (.int .i64 a4) := (blk_cell sA1_ 4).trans rfl
            have sB0 : w'.cell? ⟨gB, 0, none⟩ = some (.int .i64 b0) := (blk_cell sB1_ 0).trans rfl
            have sB1 : w'.cell? ⟨gB, 1, none⟩ = some (.int .i64 b1) := (blk_cell sB1_ 1).trans rfl
            have sB2 : w'.cell? ⟨gB, 2, none⟩ = some (.string tb) := (blk_cell sB1_ 2).trans rfl
            have sB3 : w'.cell? ⟨gB, 3, none⟩ = some (.bool b3) := (blk_cell sB1_ 3).trans rfl
            have sB4 : w'.cell? ⟨gB, 4, none⟩ = some (.int .i64 b4) := (blk_cell sB1_ 4).trans rfl
            clear sA1_ sB1_
            go_simp
            with_reducible rfl
          rotate_left
          · simp only [Act.put, List.setIfInBounds_toArray, List.set_cons_zero, List.set_cons_succ, i64_w, i32_w]
            rfl
          refine take_ (i := 4) (N := some 47) (v := ?_) (a' := ?_) #[true, true, true, true, true, false, false, false, false] rfl rfl (take_ofW HT_.out HW_.out (by kernel_rfl)) (fun _ _ _ h => h) (Or.inl ⟨by rfl, ?_⟩) hHeld ?_ ?_
          rotate_left
          · intro w' sA
            obtain ⟨q_, sA1_, sB1_⟩ := sA
            have sA0 : w'.cell? ⟨gA, 0, none⟩ = some (.int .i64 a0) := (blk_cell sA1_ 0).trans rfl
            have sA1 : w'.cell? ⟨gA, 1, none⟩ = some (.int .i64 a1) := (blk_cell sA1_ 1).trans rfl
            have sA2 : w'.cell? ⟨gA, 2, none⟩ = some (.string ta) := (blk_cell sA1_ 2).trans rfl
            have sA3 : w'.cell? ⟨gA, 3, none⟩ = some (.bool a3) := (blk_cell sA1_ 3).trans rfl
            have sA4 : w'.cell? ⟨gA, 4, none⟩ = some (.int .i64 a4) := (blk_cell sA1_ 4).trans rfl
            have sB0 : w'.cell? ⟨gB, 0, none⟩ = some (.int .i64 b0) := (blk_cell sB1_ 0).trans rfl
            have sB1 : w'.cell? ⟨gB, 1, none⟩ = some (.int .i64 b1) := (blk_cell sB1_ 1).trans rfl
            have sB2 : w'.cell? ⟨gB, 2, none⟩ = some (.string tb) := (blk_cell sB1_ 2).trans rfl
            have sB3 : w'.cell? ⟨gB, 3, none⟩ = some (.bool b3) := (blk_cell sB1_ 3).trans rfl
            have sB4 : w'.cell? ⟨gB, 4, none⟩ = some (.int .i64 b4) := (blk_cell sB1_ 4).trans rfl
            clear sA1_ sB1_
            go_simp
            with_reducible rfl
          rotate_left
          · simp only [Act.put, List.setIfInBounds_toArray, List.set_cons_zero, List.set_cons_succ, i64_w, i32_w]
            rfl
          refine take_ (i := 5) (N := some 48) (v := ?_) (a' := ?_) #[true, true, true, true, true, true, false, false, false] rfl rfl (take_ofW HT_.out HW_.out (by kernel_rfl)) (fun _ _ _ h => h) (Or.inl ⟨by rfl, ?_⟩) hHeld ?_ ?_
          rotate_left
          · intro w' sA
            obtain ⟨q_, sA1_, sB1_⟩ := sA
            have sA0 : w'.cell? ⟨gA, 0, none⟩ = some (.int .i64 a0) := (blk_cell sA1_ 0).trans rfl
            have sA1 : w'.cell? ⟨gA, 1, none⟩ = some (.int .i64 a1) := (blk_cell sA1_ 1).trans rfl
            have sA2 : w'.cell? ⟨gA, 2, none⟩ = some (.string ta) := (blk_cell sA1_ 2).trans rfl
            have sA3 : w'.cell? ⟨gA, 3, none⟩ = some (.bool a3) := (blk_cell sA1_ 3).trans rfl
            have sA4 : w'.cell? ⟨gA, 4, none⟩ = some (.int .i64 a4) := (blk_cell sA1_ 4).trans rfl
            have sB0 : w'.cell? ⟨gB, 0, none⟩ = some (.int .i64 b0) := (blk_cell sB1_ 0).trans rfl
            have sB1 : w'.cell? ⟨gB, 1, none⟩ = some (.int .i64 b1) := (blk_cell sB1_ 1).trans rfl
            have sB2 : w'.cell? ⟨gB, 2, none⟩ = some (.string tb) := (blk_cell sB1_ 2).trans rfl
            have sB3 : w'.cell? ⟨gB, 3, none⟩ = some (.bool b3) := (blk_cell sB1_ 3).trans rfl
            have sB4 : w'.cell? ⟨gB, 4, none⟩ = some (.int .i64 b4) := (blk_cell sB1_ 4).trans rfl
            clear sA1_ sB1_
            go_simp
            with_reducible rfl
          rotate_left
          · simp only [Act.put, List.setIfInBounds_toArray, List.set_cons_zero, List.set_cons_succ, i64_w, i32_w]
            rfl
          refine join_ (σ := Nat) 1 #[true, true, true, true, true, true, true, true, false] (fun g_ => [(49, .agg #[.int .i64 3, .int .i64 0, .string (⟨#[]⟩ : ByteArray), .bool qi, .int .i64 0]), (9, .pointer (some ⟨g_, 0, none⟩))]) (fun g_ w' => Aside0 (w'.heap[gA]? = some (.cells (cs5 a0 a1 ta a3 a4) 24 (0, 0))) ∧ Aside0 (w'.heap[gB]? = some (.cells (cs5 b0 b1 tb b3 b4) 24 (0, 0))) ∧ Aside0 (w'.heap[gT]? = some (.cells (cb6 (qC c) i) 49 (0, 0))) ∧ Aside0 (Kd.string.C w' (some adN) opsC.length opsC) ∧ Aside0 (w'.cell? (adN.add i) = some (.string nm)) ∧ Aside0 (w'.heap[g_]? = some (.cells (cs5 0 0 (⟨#[]⟩ : ByteArray) false 0) 24 (0, 0))) ∧ Aside0 (w.heap.size ≤ g_) ∧ gA ≠ g_ ∧ gB ≠ g_ ∧ gT ≠ g_ ∧ adN.block ≠ g_ ∧ Aside0 (Below w.heap.size w w')) ?cont (fun hcont => ?_)
          rotate_left
          · refine two_ (i := 6) (j := 7) (Ni := some 49) (Nj := some 9) #[true, true, true, true, true, true, true, false, false] #[true, true, true, true, true, true, false, true, false] rfl rfl rfl rfl (two_of HT_.out (by kernel_rfl)) (by decide) (by decide) (fun K hK => ?_) (fun K hK => ?_)
            · refine goes_ Tryz.func31 (by kernel_rfl) rfl #[.string nm, .agg #[.int .i64 a0, .int .i64 a1, .string ta, .bool a3, .int .i64 a4], .agg #[.int .i64 b0, .int .i64 b1, .string tb, .bool b3, .int .i64 b4]] (by rfl) rfl rfl (by (try simp only [List.map_toArray, List.map_cons, List.map_nil]); first | done | rfl) ?_
              refine (HBI.out _ ⟨hL.out.below HB.out⟩).mono ?_
              rintro e_ w1 ⟨rfl, hb⟩
              refine ⟨_, rfl, ?_⟩
              have mA_ := Aside0.mk (blk_below BKA.out hb)
              have mB_ := Aside0.mk (blk_below BKB.out hb)
              have mT_ := Aside0.mk (blk_below BKT.out hb)
              have mN_ := Aside0.mk (Kd.C_below HN.out hb)
              have mC_ := Aside0.mk ((hb.cell (World.block_lt_of_cell? _ _ hN0.out)).trans hN0.out)
              have n0_ := Aside0.mk (below_step HB.out hb)
              clear HB BKA BKB BKT HN hN0
              have BKA := mA_
              have BKB := mB_
              have BKT := mT_
              have HN := mN_
              have hN0 := mC_
              have HB := n0_
              clear n0_ mA_ mB_ mT_ mN_ mC_ hb
              refine hK.out _ _ (⟨hN0.out, BKA.out, BKB.out⟩) (fun hHeld => ?_)
              clear hK K
              refine norm_ (a' := ?_) ?_ ?_
              rotate_left
              · show Act.put _ (some 49) _ = _
                simp only [Act.put, List.setIfInBounds_toArray, List.set_cons_zero, List.set_cons_succ, i64_w, i32_w]
                rfl
              refine one_ (i := 7) (N := some 9) #[true, true, true, true, true, true, true, true, false] rfl rfl (one_of HT_.out (by kernel_rfl)) (by decide) (fun K hK => ?_)
              refine box_step (by rfl) (N := 9) rfl (cs := cs5 0 0 (⟨#[]⟩ : ByteArray) false 0) (t := 24) ?hr ?_
              (case hr => first | (go_simp; done) | (go_simp; rfl))
              intro gR hg wR hbox hb
              have GER : Aside0 (w.heap.size ≤ gR) := ⟨by rw [hg]; exact below_size HB.out⟩
              have NEAR : gA ≠ gR := by rw [hg]; exact Nat.ne_of_lt (blk_lt BKA.out)
              have NEBR : gB ≠ gR := by rw [hg]; exact Nat.ne_of_lt (blk_lt BKB.out)
              have NETR : gT ≠ gR := by rw [hg]; exact Nat.ne_of_lt (blk_lt BKT.out)
              have NENR : adN.block ≠ gR := by rw [hg]; exact Nat.ne_of_lt (C_lt HN.out (by decide))
              have mX_ := Aside0.mk hbox
              have mA_ := Aside0.mk (blk_below BKA.out hb)
              have mB_ := Aside0.mk (blk_below BKB.out hb)
              have mT_ := Aside0.mk (blk_below BKT.out hb)
              have mN_ := Aside0.mk (Kd.C_below HN.out hb)
              have mC_ := Aside0.mk ((hb.cell (World.block_lt_of_cell? _ _ hN0.out)).trans hN0.out)
              have n0_ := Aside0.mk (below_step HB.out hb)
              clear HB BKA BKB BKT HN hN0
              have BKA := mA_
              have BKB := mB_
              have BKT := mT_
              have HN := mN_
              have hN0 := mC_
              have HB := n0_
              clear n0_ mA_ mB_ mT_ mN_ mC_ hb
              have BKR := mX_
              clear mX_ hbox hg
              refine hK.out _ _ (⟨hN0.out, BKA.out, BKB.out⟩) (fun hHeld => ?_)
              clear hK K
              refine norm_ (a' := ?_) ?_ ?_
              rotate_left
              · show Act.put _ (some 9) _ = _
                simp only [Act.put, List.setIfInBounds_toArray, List.set_cons_zero, List.set_cons_succ, i64_w, i32_w]
                rfl
              exact hcont gR _ ⟨BKA, BKB, BKT, HN, hN0, BKR, GER, NEAR, NEBR, NETR, NENR, HB⟩
            · refine box_step (by rfl) (N := 9) rfl (cs := cs5 0 0 (⟨#[]⟩ : ByteArray) false 0) (t := 24) ?hr ?_
              (case hr => first | (go_simp; done) | (go_simp; rfl))
              intro gR hg wR hbox hb
              have GER : Aside0 (w.heap.size ≤ gR) := ⟨by rw [hg]; exact below_size HB.out⟩
              have NEAR : gA ≠ gR := by rw [hg]; exact Nat.ne_of_lt (blk_lt BKA.out)
              have NEBR : gB ≠ gR := by rw [hg]; exact Nat.ne_of_lt (blk_lt BKB.out)
              have NETR : gT ≠ gR := by rw [hg]; exact Nat.ne_of_lt (blk_lt BKT.out)
              have NENR : adN.block ≠ gR := by rw [hg]; exact Nat.ne_of_lt (C_lt HN.out (by decide))
              have mX_ := Aside0.mk hbox
              have mA_ := Aside0.mk (blk_below BKA.out hb)
              have mB_ := Aside0.mk (blk_below BKB.out hb)
              have mT_ := Aside0.mk (blk_below BKT.out hb)
              have mN_ := Aside0.mk (Kd.C_below HN.out hb)
              have mC_ := Aside0.mk ((hb.cell (World.block_lt_of_cell? _ _ hN0.out)).trans hN0.out)
              have n0_ := Aside0.mk (below_step HB.out hb)
              clear HB BKA BKB BKT HN hN0
              have BKA := mA_
              have BKB := mB_
              have BKT := mT_
              have HN := mN_
              have hN0 := mC_
              have HB := n0_
              clear n0_ mA_ mB_ mT_ mN_ mC_ hb
              have BKR := mX_
              clear mX_ hbox hg
              refine hK.out _ _ (⟨hN0.out, BKA.out, BKB.out⟩) (fun hHeld => ?_)
              clear hK K
              refine norm_ (a' := ?_) ?_ ?_
              rotate_left
              · show Act.put _ (some 9) _ = _
                simp only [Act.put, List.setIfInBounds_toArray, List.set_cons_zero, List.set_cons_succ, i64_w, i32_w]
                rfl
              refine one_ (i := 6) (N := some 49) #[true, true, true, true, true, true, true, true, false] rfl rfl (one_of HT_.out (by kernel_rfl)) (by decide) (fun K hK => ?_)
              refine goes_ Tryz.func31 (by kernel_rfl) rfl #[.string nm, .agg #[.int .i64 a0, .int .i64 a1, .string ta, .bool a3, .int .i64 a4], .agg #[.int .i64 b0, .int .i64 b1, .string tb, .bool b3, .int .i64 b4]] (by rfl) rfl rfl (by (try simp only [List.map_toArray, List.map_cons, List.map_nil]); first | done | rfl) ?_
              refine (HBI.out _ ⟨hL.out.below HB.out⟩).mono ?_
              rintro e_ w1 ⟨rfl, hb⟩
              refine ⟨_, rfl, ?_⟩
              have mA_ := Aside0.mk (blk_below BKA.out hb)
              have mB_ := Aside0.mk (blk_below BKB.out hb)
              have mT_ := Aside0.mk (blk_below BKT.out hb)
              have mN_ := Aside0.mk (Kd.C_below HN.out hb)
              have mC_ := Aside0.mk ((hb.cell (World.block_lt_of_cell? _ _ hN0.out)).trans hN0.out)
              have mR_ := Aside0.mk (blk_below BKR.out hb)
              have n0_ := Aside0.mk (below_step HB.out hb)
              clear HB BKA BKB BKT HN hN0 BKR
              have BKA := mA_
              have BKB := mB_
              have BKT := mT_
              have HN := mN_
              have hN0 := mC_
              have HB := n0_
              have BKR := mR_
              clear n0_ mA_ mB_ mT_ mN_ mC_ hb mR_
              refine hK.out _ _ (⟨hN0.out, BKA.out, BKB.out⟩) (fun hHeld => ?_)
              clear hK K
              refine norm_ (a' := ?_) ?_ ?_
              rotate_left
              · show Act.put _ (some 49) _ = _
                simp only [Act.put, List.setIfInBounds_toArray, List.set_cons_zero, List.set_cons_succ, i64_w, i32_w]
                rfl
              exact hcont gR _ ⟨BKA, BKB, BKT, HN, hN0, BKR, GER, NEAR, NEBR, NETR, NENR, HB⟩
          intro gR w2 hF_
          obtain ⟨BKA, BKB, BKT, HN, hN0, BKR, GER, NEAR, NEBR, NETR, NENR, HB⟩ := hF_
          refine norm_ (a' := ?_) ?_ ?_
          rotate_left
          · simp only [putAll, Act.put, List.setIfInBounds_toArray, List.set_cons_zero, List.set_cons_succ]
            rfl
          obtain ⟨zR0, zR1, zR2, zR3, zR4, zRf0, zRf1, zRf2, zRf3, zRf4⟩ := five BKR.out
          obtain ⟨w3, hw3⟩ : ∃ w3, w3 = ((((w2.setCell ⟨gR, 0, none⟩ (.int .i64 3)).setCell ⟨gR, 1, none⟩ (.int .i64 0)).setCell ⟨gR, 2, none⟩ (.string (⟨#[]⟩ : ByteArray))).setCell ⟨gR, 3, none⟩ (.bool qi)).setCell ⟨gR, 4, none⟩ (.int .i64 0) := ⟨_, rfl⟩
          refine one_ (i := 8) (N := none) #[true, true, true, true, true, true, true, true, true] rfl rfl (one_of HT_.out (by kernel_rfl)) (by decide) (fun K hK => ?_)
          refine skip_ (w1 := w3) (by rfl) rfl ?_ ?_
          · rw [hw3]
            first | (go_simp; done) | (go_simp; rfl)
          have mR_ : Aside0 (w3.heap[gR]? = some (.cells (cs5 3 0 (⟨#[]⟩ : ByteArray) qi 0) 24 (0, 0))) := ⟨by rw [hw3]; exact vput BKR.out _ _ _ _ _⟩
          have mA_ : Aside0 (w3.heap[gA]? = some (.cells (cs5 a0 a1 ta a3 a4) 24 (0, 0))) := ⟨by rw [hw3]; exact vfar BKA.out NEAR _ _ _ _ _⟩
          have mB_ : Aside0 (w3.heap[gB]? = some (.cells (cs5 b0 b1 tb b3 b4) 24 (0, 0))) := ⟨by rw [hw3]; exact vfar BKB.out NEBR _ _ _ _ _⟩
          have mT_ : Aside0 (w3.heap[gT]? = some (.cells (cb6 (qC c) i) 49 (0, 0))) := ⟨by rw [hw3]; exact blk_far (blk_far (blk_far (blk_far (blk_far BKT.out NETR _) NETR _) NETR _) NETR _) NETR _⟩
          have mN_ : Aside0 (w3.cell? (adN.add i) = some (.string nm)) := ⟨by rw [hw3]; exact cell_far5 (g := gR) hN0.out (by rw [add_block]; exact NENR) _ _ _ _ _⟩
          have mC_ : Aside0 (Kd.string.C w3 (some adN) opsC.length opsC) := ⟨by rw [hw3]; exact C_far5 HN.out NENR _ _ _ _ _⟩
          have n0_ : Aside0 (Below w.heap.size w w3) := ⟨by rw [hw3]; exact vbel HB.out GER.out _ _ _ _ _⟩
          clear BKR BKA BKB BKT HB HN hN0 hw3 zR0 zR1 zR2 zR3 zR4 zRf0 zRf1 zRf2 zRf3 zRf4
          have BKR := mR_
          have BKA := mA_
          have BKB := mB_
          have BKT := mT_
          have hN0 := mN_
          have HN := mC_
          have HB := n0_
          clear mR_ mA_ mB_ mT_ mN_ mC_ n0_
          refine hK.out _ _ (⟨hN0.out, BKA.out, BKB.out⟩) (fun hHeld => ?_)
          clear hK K
          refine done_ (done_of HT_.out (by kernel_rfl)) ?_
          obtain ⟨zR0, zR1, zR2, zR3, zR4, zRf0, zRf1, zRf2, zRf3, zRf4⟩ := five BKR.out
          have zT : w3.cell? ⟨gT, i, none⟩ = some (.bool (gI (qC c) i i)) := (blk_cell BKT.out i).trans (cb6_cell (qC c) i i ci)
          have zTf := blk_frozen BKT.out i
          go_wp2
          go_roundg k2
          (case measure => omega)
          (case rel => exact ⟨i + 1, by first | rfl | (simp; done), by omega, ⟨by have := HI.out; omega⟩, ⟨(by (with_reducible repeat (first | refine blk_drewN ?_ _ | refine blk_drew ?_ | refine blk_alloc ?_ _)); exact blk_far BKA.out NEAT _)⟩, ⟨(by (with_reducible repeat (first | refine blk_drewN ?_ _ | refine blk_drew ?_ | refine blk_alloc ?_ _)); exact blk_far BKB.out NEBT _)⟩, ⟨(by (with_reducible repeat (first | refine blk_drewN ?_ _ | refine blk_drew ?_ | refine blk_alloc ?_ _)); exact blk_put BKT.out i _ (by rw [← HQI.out]; exact cb6_set (qC c) i ci))⟩, ⟨(by (with_reducible repeat (first | refine Kd.C_drewN ?_ _ | refine Kd.C_drew ?_)); exact C_far1 HN.out NENT _)⟩, ⟨(by repeat (first | (with_reducible first | exact HB.out | apply bA | apply below_drew | apply bN | apply bD | refine below_set ?_ GET.out) | exact HB.out))⟩⟩)
        · obtain rfl : i = 6 := by omega
          have e0 : decide (((6 : Nat) : Int) < 6) = false := by decide
          clear HN HBIN
          go_wp2
          (try simp only [Act.put, List.setIfInBounds_toArray, List.set_cons_zero, List.set_cons_succ])
          clear BKA BKB HI
          go_loopg [10, 11] 4 (fun kq v10 v11 w' => ∃ i : Nat, v10 = .int .i64 (nS (qC c) i) ∧ v11 = .int .i64 (i : Int) ∧ i ≤ 3 ∧ Aside0 (i + kq = 4) ∧ Aside0 (w'.heap[gT]? = some (.cells (cb6 (qC c) 6) 49 (0, 0))) ∧ Aside0 (Below w.heap.size w w'))
          case atStart => exact ⟨0, by first | rfl | (simp; done), by first | rfl | (simp; done), by omega, ⟨rfl⟩, BKT, HB⟩
          case round =>
            clear BKT HB
            obtain ⟨i, rfl, rfl, hi3, HI, BKT, HB⟩ := hrel
            have nr := nS_rng (qC c) i
            by_cases cj : i < 3
            · have e0 : decide ((i : Int) < 3) = true := decide_eq_true (by omega)
              have p1 : (0 ≤ (i : Int)) = True := eq_true (by omega)
              have p4 : ((i : Int) < 6) = True := eq_true (by omega)
              have p5 : (i < 6) = True := eq_true (by omega)
              have kw : IntKind.i64.wrap ((i : Int) + 1) = ((i + 1 : Nat) : Int) := by rw [IntKind.wrap_i64]; omega
              obtain ⟨k2, rfl⟩ : ∃ k2, gk = k2 + 1 := ⟨gk - 1, by have := HI.out; omega⟩
              have zT := (blk_cell BKT.out i).trans (cb6_at (qC c) i (by omega))
              have hs : nS (qC c) (i + 1) = nS (qC c) i + (if qC c i = true then 1 else 0) := rfl
              obtain ⟨qi, hqi⟩ : ∃ qi, qC c i = qi := ⟨_, rfl⟩
              rw [hqi] at zT hs
              obtain ⟨n, hn⟩ : ∃ n, nS (qC c) i = n := ⟨_, rfl⟩
              rw [hn] at nr hs
              have kw2 : IntKind.i64.wrap (n + 1) = n + 1 := by rw [IntKind.wrap_i64]; omega
              rw [hn]
              cases qi with
              | true =>
                have HS : Aside0 (nS (qC c) (i + 1) = n + 1) := ⟨hs⟩
                clear hs hn hqi nr
                go_wp2
                go_roundg k2
                (case measure => omega)
                (case rel => exact ⟨i + 1, by rw [HS.out], by first | rfl | (simp; done), by omega, ⟨by have := HI.out; omega⟩, ⟨(by (with_reducible repeat (first | refine blk_drewN ?_ _ | refine blk_drew ?_ | refine blk_alloc ?_ _)); exact BKT.out)⟩, ⟨(by repeat (first | (with_reducible first | exact HB.out | apply bA | apply below_drew | apply bN | apply bD | refine below_set ?_ GEA.out | refine below_set ?_ GEB.out) | exact HB.out))⟩⟩)
              | false =>
                have HS : Aside0 (nS (qC c) (i + 1) = n) := ⟨by rw [hs]; simp⟩
                clear hs hn hqi nr
                go_wp2
                go_roundg k2
                (case measure => omega)
                (case rel => exact ⟨i + 1, by rw [HS.out], by first | rfl | (simp; done), by omega, ⟨by have := HI.out; omega⟩, ⟨(by (with_reducible repeat (first | refine blk_drewN ?_ _ | refine blk_drew ?_ | refine blk_alloc ?_ _)); exact BKT.out)⟩, ⟨(by repeat (first | (with_reducible first | exact HB.out | apply bA | apply below_drew | apply bN | apply bD | refine below_set ?_ GEA.out | refine below_set ?_ GEB.out) | exact HB.out))⟩⟩)
            · obtain rfl : i = 3 := by omega
              have e0 : decide (((3 : Nat) : Int) < 3) = false := by decide
              rw [nS_three c]
              obtain ⟨h3, h4, h5⟩ := q_not c
              have z0 := (blk_cell BKT.out 0).trans (cb6_at (qC c) 0 (by decide))
              have z1 := (blk_cell BKT.out 1).trans (cb6_at (qC c) 1 (by decide))
              have z2 := (blk_cell BKT.out 2).trans (cb6_at (qC c) 2 (by decide))
              have z3 := (blk_cell BKT.out 3).trans (cb6_at (qC c) 3 (by decide))
              have z4 := (blk_cell BKT.out 4).trans (cb6_at (qC c) 4 (by decide))
              have z5 := (blk_cell BKT.out 5).trans (cb6_at (qC c) 5 (by decide))
              rw [h3] at z3
              rw [h4] at z4
              rw [h5] at z5
              generalize qC c 0 = b0_ at z0 z5
              generalize qC c 1 = b1_ at z1 z4
              generalize qC c 2 = b2_ at z2 z3
              clear h3 h4 h5 nr
              go_wp2
              go_ret
              exact ⟨by first | rfl | (simp; done) | (simp [*]; done), (by repeat (first | (with_reducible first | exact HB.out | apply bA | apply below_drew | apply bN | apply bD | refine below_set ?_ GEA.out | refine below_set ?_ GEB.out) | exact HB.out))⟩
theorem builtinCompare_walk (w : World) (hL : Aside0 (Lq w)) (a0 a1 : Int) (sa : ByteArray) (a3 : Bool) (a4 b0 b1 : Int) (sb : ByteArray) (b3 : Bool) (b4 : Int) (ha : (Lit.int .i64 a1).wf = true) (hb0 : (Lit.int .i64 b1).wf = true) :
    Calls Tryz.prog 7 #[.agg #[.int .i64 a0, .int .i64 a1, .string sa, .bool a3, .int .i64 a4], .agg #[.int .i64 b0, .int .i64 b1, .string sb, .bool b3, .int .i64 b4]] w fun e w' => e = .returned (.bool true) ∧ Below w.heap.size w w' := builtinCompare_in a0 a1 sa a3 a4 b0 b1 sb b3 b4 (nat_wf2 ha) (nat_wf2 hb0) w hL
end Go.Proofs.YtfnbflhoaemmeaaGreatDoor.EBui
end
