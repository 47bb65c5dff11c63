/- The reference's numbers of six digits (arrays by value): one, plus, minus, less. Conditions: digits below 2^32. -/
import Derived.Test.YtfnbflhoaemmeaaGreatDoorExt2
import Derived.RegionTactic
import Derived.ChangeAlike
import Derived.Laws.BitsLemmas
namespace Go.Proofs.YtfnbflhoaemmeaaGreatDoor.Ext
open Go.RowKit Go.Proofs.YtfnbflhoaemmeaaGreatDoorW.PrintWords Go.Proofs.YtfnbflhoaemmeaaGreatDoorW.PrintLast Go.Proofs.YtfnbflhoaemmeaaGreatDoorW.PrintMore
attribute [local go_sem] max2_int min2_int max_two min_two max_three min_three max_four min_four
set_option linter.unusedVariables false
set_option linter.unusedSimpArgs false
/-- the cells of a number of six digits -/
def cs6 (l : List Int) : Array Value := #[.int .u64 (l.getD 0 0), .int .u64 (l.getD 1 0), .int .u64 (l.getD 2 0), .int .u64 (l.getD 3 0), .int .u64 (l.getD 4 0), .int .u64 (l.getD 5 0)]
theorem cs6_at (l : List Int) (m : Nat) (h : m < 6) : (cs6 l)[m]? = some (.int .u64 (l.getD m 0)) := by
 match m, h with
 | 0, _ => rfl
 | 1, _ => rfl
 | 2, _ => rfl
 | 3, _ => rfl
 | 4, _ => rfl
 | 5, _ => rfl
theorem cs6_set (l : List Int) (m : Nat) (x : Int) (h : m < 6) (hl : l.length = 6) : (cs6 l).setIfInBounds m (.int .u64 x) = cs6 (l.set m x) := by
 match l, hl with
 | [a0, a1, a2, a3, a4, a5], _ =>
  match m, h with
  | 0, _ => rfl
  | 1, _ => rfl
  | 2, _ => rfl
  | 3, _ => rfl
  | 4, _ => rfl
  | 5, _ => rfl
def z6 : List Int := [0, 0, 0, 0, 0, 0]
set_option maxHeartbeats 1600000 in
set_option maxRecDepth 100000 in
theorem one_calls (n : Int) (w : World) (h0 : 0 ≤ n) (h1 : n < 18446744073709551616) :
  Calls Tryz.prog 74 #[.int .u64 n] w fun e w' => e = .returned (.agg (cs6 [n % 4294967296, n / 4294967296, 0, 0, 0, 0])) ∧ Below w.heap.size w w' := by
 have HB := Aside0.mk (Below.refl w.heap.size w)
 have q2 : IntKind.u64.wrap (n.tmod 4294967296) = n % 4294967296 := by rw [Int.tmod_eq_emod_of_nonneg h0, wraps_u64 _ (by omega) (by omega)]
 have q4 : n.tmod 4294967296 = n % 4294967296 := Int.tmod_eq_emod_of_nonneg h0
 have q5 : IntKind.u64.wrap (n % 4294967296) = n % 4294967296 := wraps_u64 _ (by omega) (by omega)
 go_enter Tryz.func74, Tryz.ntmps74
 go_wp2
 refine bodyPost_ret (results_cell_row rfl _ _ w.heap.size 91 (cs6 [n % 4294967296, n / 4294967296, 0, 0, 0, 0]) (0, 0) _ rfl ?hg Tryz.underlying91 rfl (by kernel_rfl)) rfl ?_
 case hg => exact blk_alloc (blk_new w _) _
 exact ⟨rfl, below_alloc (below_alloc HB.out _) _⟩


/-- the carry ahead of digit m -/
def plusC (a b : List Int) : Nat → Int
 | 0 => 0
 | m + 1 => (a.getD m 0 + b.getD m 0 + plusC a b m) / 4294967296
/-- the digits below m -/
def plusR (a b : List Int) : Nat → List Int
 | 0 => z6
 | m + 1 => (plusR a b m).set m ((a.getD m 0 + b.getD m 0 + plusC a b m) % 4294967296)
theorem plusR_len (a b : List Int) : ∀ m, (plusR a b m).length = 6
 | 0 => rfl
 | m + 1 => by rw [plusR, List.length_set]; exact plusR_len a b m
def dig6 (a : List Int) : Prop := ∀ m, 0 ≤ a.getD m 0 ∧ a.getD m 0 < 4294967296
theorem plusC_le (a b : List Int) (ha : dig6 a) (hb : dig6 b) : ∀ m, 0 ≤ plusC a b m ∧ plusC a b m ≤ 1
 | 0 => by simp [plusC]
 | m + 1 => by
  have h1 := plusC_le a b ha hb m
  have h2 := ha m
  have h3 := hb m
  rw [plusC]
  omega
set_option maxHeartbeats 4000000 in
set_option maxRecDepth 100000 in
theorem plus_calls (a b : List Int) (ha : dig6 a) (hb : dig6 b) (w : World) :
  Calls Tryz.prog 73 #[.agg (cs6 a), .agg (cs6 b)] w fun e w' => e = .returned (.agg (cs6 (plusR a b 6))) ∧ Below w.heap.size w w' := by
 have HB := Aside0.mk (Below.refl w.heap.size w)
 have hu43 := Tryz.underlying91
 go_enter Tryz.func73, Tryz.ntmps73
 go_upto_block 0 with (first | ((with_reducible refine gate_dst (N := 2) rfl ?_); refine box_event ?hg (N := 2) ?hd (cs := cs6 a) (t := 91) ?hr ?_; (case hd => rfl); (case hg => rfl); (case hr => first | (go_simp; done) | (go_simp; rfl)); intro gA hg wA hbox hb; have n0_ := Aside0.mk (below_step (by repeat (first | (with_reducible first | exact HB.out | apply below_alloc | apply pw_below_drewN | apply below_drew1) | exact HB.out)) hb); have n1_ := Aside0.mk hbox; have GEA := Aside0.mk ((by rw [hg]; exact (below_size (by repeat (first | (with_reducible first | exact HB.out | apply below_alloc | apply pw_below_drewN | apply below_drew1) | exact HB.out))) : w.heap.size ≤ gA)); clear HB; have HB := n0_; have BKA := n1_; clear n0_ n1_; clear hb hbox hg) | ((with_reducible refine gate_dst (N := 3) rfl ?_); refine box_event ?hg (N := 3) ?hd (cs := cs6 b) (t := 91) ?hr ?_; (case hd => rfl); (case hg => rfl); (case hr => first | (go_simp; done) | (go_simp; rfl)); intro gB hg wB hbox hb; have n0_ := Aside0.mk (below_step (by repeat (first | (with_reducible first | exact HB.out | apply below_alloc | apply pw_below_drewN | apply below_drew1) | exact HB.out)) hb); have n1_ := Aside0.mk hbox; have GEB := Aside0.mk ((by rw [hg]; exact (below_size (by repeat (first | (with_reducible first | exact HB.out | apply below_alloc | apply pw_below_drewN | apply below_drew1) | exact HB.out))) : w.heap.size ≤ gB)); have m0_ := Aside0.mk (blk_below BKA.out hb); have NEAB := Aside0.mk (show gA ≠ gB by have := blk_lt BKA.out; omega); clear HB BKA; have HB := n0_; have BKB := n1_; have BKA := m0_; clear n0_ n1_ m0_; clear hb hbox hg) | ((with_reducible refine gate_dst (N := 4) rfl ?_); refine box_event ?hg (N := 4) ?hd (cs := cs6 z6) (t := 91) ?hr ?_; (case hd => rfl); (case hg => rfl); (case hr => first | (go_simp; done) | (go_simp; rfl)); intro gZ hg wZ hbox hb; have n0_ := Aside0.mk (below_step (by repeat (first | (with_reducible first | exact HB.out | apply below_alloc | apply pw_below_drewN | apply below_drew1) | exact HB.out)) hb); have n1_ := Aside0.mk hbox; have GEZ := Aside0.mk ((by rw [hg]; exact (below_size (by repeat (first | (with_reducible first | exact HB.out | apply below_alloc | apply pw_below_drewN | apply below_drew1) | exact HB.out))) : w.heap.size ≤ gZ)); have m0_ := Aside0.mk (blk_below BKA.out hb); have NEAZ := Aside0.mk (show gA ≠ gZ by have := blk_lt BKA.out; omega); have m1_ := Aside0.mk (blk_below BKB.out hb); have NEBZ := Aside0.mk (show gB ≠ gZ by have := blk_lt BKB.out; omega); clear HB BKA BKB; have HB := n0_; have BKZ := n1_; have BKA := m0_; have BKB := m1_; clear n0_ n1_ m0_ m1_; clear hb hbox hg) | ((with_reducible refine gate_dst (N := 5) rfl ?_); refine box_event ?hg (N := 5) ?hd (cs := cs6 z6) (t := 91) ?hr ?_; (case hd => rfl); (case hg => rfl); (case hr => first | (go_simp; done) | (go_simp; rfl)); intro gR hg wR hbox hb; have n0_ := Aside0.mk (below_step (by repeat (first | (with_reducible first | exact HB.out | apply below_alloc | apply pw_below_drewN | apply below_drew1) | exact HB.out)) hb); have n1_ := Aside0.mk hbox; have GER := Aside0.mk ((by rw [hg]; exact (below_size (by repeat (first | (with_reducible first | exact HB.out | apply below_alloc | apply pw_below_drewN | apply below_drew1) | exact HB.out))) : w.heap.size ≤ gR)); have m0_ := Aside0.mk (blk_below BKA.out hb); have NEAR := Aside0.mk (show gA ≠ gR by have := blk_lt BKA.out; omega); have m1_ := Aside0.mk (blk_below BKB.out hb); have NEBR := Aside0.mk (show gB ≠ gR by have := blk_lt BKB.out; omega); have m2_ := Aside0.mk (blk_below BKZ.out hb); have NEZR := Aside0.mk (show gZ ≠ gR by have := blk_lt BKZ.out; omega); clear HB BKA BKB BKZ; have HB := n0_; have BKR := n1_; have BKA := m0_; have BKB := m1_; have BKZ := m2_; clear n0_ n1_ m0_ m1_ m2_; clear hb hbox hg))
 (try simp only [Act.put, List.setIfInBounds_toArray, List.set_cons_zero, List.set_cons_succ])
 go_wp2
 go_loopg [6, 7, 8] 10 (fun kq v6 v7 v8 w' => ∃ m : Nat, v6 = .int .u64 (plusC a b m) ∧ v7 = .int .i64 (m : Int) ∧ m ≤ 6 ∧ m + kq = 10 ∧ Aside0 (w'.heap[gA]? = some (.cells (cs6 a) 91 (0, 0))) ∧ Aside0 (w'.heap[gB]? = some (.cells (cs6 b) 91 (0, 0))) ∧ Aside0 (w'.heap[gZ]? = some (.cells (cs6 z6) 91 (0, 0))) ∧ Aside0 (w'.heap[gR]? = some (.cells (cs6 (plusR a b m)) 91 (0, 0))) ∧ Aside0 (Below w.heap.size w w'))
 case atStart => exact ⟨0, rfl, rfl, by omega, rfl, BKA, BKB, BKZ, BKR, HB⟩
 case round =>
  clear BKA BKB BKZ BKR HB
  obtain ⟨m, rfl, rfl, hm, hk, BKA, BKB, BKZ, BKR, HB⟩ := hrel
  obtain ⟨c, hc⟩ : ∃ c, plusC a b m = c := ⟨_, rfl⟩
  have hc1 := plusC_le a b ha hb m
  have hcn : plusC a b (m + 1) = (a.getD m 0 + b.getD m 0 + plusC a b m) / 4294967296 := rfl
  have hrn : plusR a b (m + 1) = (plusR a b m).set m ((a.getD m 0 + b.getD m 0 + plusC a b m) % 4294967296) := rfl
  have hlr := plusR_len a b m
  rw [hc] at hc1 hcn hrn
  rw [hc]
  have hA := ha m
  have hB := hb m
  by_cases h6 : m < 6
  ·have k1 : decide ((m : Int) < 6) = true := decide_eq_true (by omega)
   have k2 : (0 ≤ (m : Int)) = True := eq_true (by omega)
   have k3 : ((m : Int) < 6) = True := eq_true (by omega)
   have k4 : (m < 6) = True := eq_true h6
   have cA := (blk_cell BKA.out m).trans (cs6_at a m h6)
   have cB := (blk_cell BKB.out m).trans (cs6_at b m h6)
   have cR := (blk_cell BKR.out m).trans (cs6_at _ m h6)
   have fR := blk_frozen BKR.out m
   obtain ⟨x, hx⟩ : ∃ x, a.getD m 0 = x := ⟨_, rfl⟩
   obtain ⟨y, hy⟩ : ∃ y, b.getD m 0 = y := ⟨_, rfl⟩
   rw [hx] at cA hA hcn hrn
   rw [hy] at cB hB hcn hrn
   clear hx hy hc
   have f1 : IntKind.u64.wrap (x + y) = x + y := wraps_u64 _ (by omega) (by omega)
   have f2 : IntKind.u64.wrap (x + y + c) = x + y + c := wraps_u64 _ (by omega) (by omega)
   have f3 : (x + y + c).tmod 4294967296 = (x + y + c) % 4294967296 := Int.tmod_eq_emod_of_nonneg (by omega)
   have f4 : IntKind.u64.wrap ((x + y + c) % 4294967296) = (x + y + c) % 4294967296 := wraps_u64 _ (by omega) (by omega)
   go_wp2
   go_region
   all_goals go_wp2
   all_goals go_roundg (9 - m)
   all_goals first
    | (show _ < _; omega)
    | exact ⟨m + 1, by first | rfl | rw [hcn] | (rw [hcn]; simp [*]; done), by first | rfl | (simp; done), by omega, by omega, ⟨by first | exact blk_far BKA.out NEAR.out _ | exact blk_drew (blk_far BKA.out NEAR.out _)⟩, ⟨by first | exact blk_far BKB.out NEBR.out _ | exact blk_drew (blk_far BKB.out NEBR.out _)⟩, ⟨by first | exact blk_far BKZ.out NEZR.out _ | exact blk_drew (blk_far BKZ.out NEZR.out _)⟩, ⟨by first | exact blk_put BKR.out m _ (by rw [cs6_set _ m _ h6 hlr, ← hrn]) | exact blk_drew (blk_put BKR.out m _ (by rw [cs6_set _ m _ h6 hlr, ← hrn]))⟩, ⟨by first | exact below_set HB.out GER.out | exact below_drew (below_set HB.out GER.out)⟩⟩
  ·obtain rfl : m = 6 := by omega
   clear hcn hrn hlr hc
   have r0 : wr.cell? ⟨gR, 0, none⟩ = some (.int .u64 ((plusR a b 6).getD 0 0)) := (blk_cell BKR.out 0).trans rfl
   have r1 : wr.cell? ⟨gR, 1, none⟩ = some (.int .u64 ((plusR a b 6).getD 1 0)) := (blk_cell BKR.out 1).trans rfl
   have r2 : wr.cell? ⟨gR, 2, none⟩ = some (.int .u64 ((plusR a b 6).getD 2 0)) := (blk_cell BKR.out 2).trans rfl
   have r3 : wr.cell? ⟨gR, 3, none⟩ = some (.int .u64 ((plusR a b 6).getD 3 0)) := (blk_cell BKR.out 3).trans rfl
   have r4 : wr.cell? ⟨gR, 4, none⟩ = some (.int .u64 ((plusR a b 6).getD 4 0)) := (blk_cell BKR.out 4).trans rfl
   have r5 : wr.cell? ⟨gR, 5, none⟩ = some (.int .u64 ((plusR a b 6).getD 5 0)) := (blk_cell BKR.out 5).trans rfl
   have s0 : wr.cell? ⟨gZ, 0, none⟩ = some (.int .u64 0) := (blk_cell BKZ.out 0).trans rfl
   have s1 : wr.cell? ⟨gZ, 1, none⟩ = some (.int .u64 0) := (blk_cell BKZ.out 1).trans rfl
   have s2 : wr.cell? ⟨gZ, 2, none⟩ = some (.int .u64 0) := (blk_cell BKZ.out 2).trans rfl
   have s3 : wr.cell? ⟨gZ, 3, none⟩ = some (.int .u64 0) := (blk_cell BKZ.out 3).trans rfl
   have s4 : wr.cell? ⟨gZ, 4, none⟩ = some (.int .u64 0) := (blk_cell BKZ.out 4).trans rfl
   have s5 : wr.cell? ⟨gZ, 5, none⟩ = some (.int .u64 0) := (blk_cell BKZ.out 5).trans rfl
   have u0 := blk_frozen BKZ.out 0
   have u1 := blk_frozen BKZ.out 1
   have u2 := blk_frozen BKZ.out 2
   have u3 := blk_frozen BKZ.out 3
   have u4 := blk_frozen BKZ.out 4
   have u5 := blk_frozen BKZ.out 5
   go_wp2
   refine bodyPost_ret (results_cell_row rfl _ _ gZ 91 (cs6 (plusR a b 6)) (0, 0) _ rfl ?hg Tryz.underlying91 rfl (by kernel_rfl)) rfl ?_
   case hg => exact blk_put (blk_put (blk_put (blk_put (blk_put (blk_put BKZ.out 0 _ rfl) 1 _ rfl) 2 _ rfl) 3 _ rfl) 4 _ rfl) 5 _ rfl
   exact ⟨rfl, below_set (below_set (below_set (below_set (below_set (below_set HB.out GEZ.out) GEZ.out) GEZ.out) GEZ.out) GEZ.out) GEZ.out⟩


/-- the carry ahead of digit m -/
def minusC (a b : List Int) : Nat → Int
 | 0 => 0
 | m + 1 => 1 - (a.getD m 0 + 4294967296 - b.getD m 0 - minusC a b m) / 4294967296
/-- the digits below m -/
def minusR (a b : List Int) : Nat → List Int
 | 0 => z6
 | m + 1 => (minusR a b m).set m ((a.getD m 0 + 4294967296 - b.getD m 0 - minusC a b m) % 4294967296)
theorem minusR_len (a b : List Int) : ∀ m, (minusR a b m).length = 6
 | 0 => rfl
 | m + 1 => by rw [minusR, List.length_set]; exact minusR_len a b m
theorem minusC_le (a b : List Int) (ha : dig6 a) (hb : dig6 b) : ∀ m, 0 ≤ minusC a b m ∧ minusC a b m ≤ 1
 | 0 => by simp [minusC]
 | m + 1 => by
  have h1 := minusC_le a b ha hb m
  have h2 := ha m
  have h3 := hb m
  rw [minusC]
  omega
/-- below, by the lowest m digits -/
def lessL (a b : List Int) : Nat → Bool
 | 0 => false
 | m + 1 => if a.getD m 0 = b.getD m 0 then lessL a b m else decide (a.getD m 0 < b.getD m 0)
theorem or_zero (x y : Int) (h0 : 0 ≤ x) (h1 : x < 18446744073709551616) (g0 : 0 ≤ y) (g1 : y < 18446744073709551616) : (0 ≤ bits .or .u64 x y ∧ bits .or .u64 x y < 18446744073709551616) ∧ (bits .or .u64 x y = 0 ↔ x = 0 ∧ y = 0) := by
 obtain ⟨a, rfl⟩ := Int.eq_ofNat_of_zero_le h0
 obtain ⟨b, rfl⟩ := Int.eq_ofNat_of_zero_le g0
 have ha : a < 2 ^ 64 := by omega
 have hb : b < 2 ^ 64 := by omega
 have e := (bits_nat .u64 64 (by decide) wraps_u64 a b ha hb).2
 have hl := Nat.or_lt_two_pow ha hb
 rw [e]
 refine ⟨⟨by omega, by omega⟩, ?_⟩
 constructor
 ·intro h
  have h' : a ||| b = 0 := by omega
  have := Nat.or_eq_zero_iff.mp h'
  exact ⟨by omega, by omega⟩
 ·rintro ⟨h1, h2⟩
  have : a = 0 := by omega
  have : b = 0 := by omega
  subst a; subst b
  rfl
def sgnI (u : Int) (neg : Bool) : Int × Bool := if neg then (if u ≤ 9223372036854775808 then (-u, true) else (0, false)) else (if u ≤ 9223372036854775807 then (u, true) else (0, false))
def fixL (l : List Int) (neg : Bool) : Int × Bool := if l.getD 2 0 = 0 ∧ l.getD 3 0 = 0 ∧ l.getD 4 0 = 0 ∧ l.getD 5 0 = 0 then sgnI (l.getD 0 0 + l.getD 1 0 * 4294967296) neg else (0, false)
set_option maxHeartbeats 4000000 in
set_option maxRecDepth 100000 in
theorem fix_calls (l : List Int) (neg : Bool) (hl : dig6 l) (w : World) :
  Calls Tryz.prog 75 #[.agg (cs6 l), .bool neg] w fun e w' => e = .returned (.tuple #[.int .i64 (fixL l neg).1, .bool (fixL l neg).2]) ∧ Below w.heap.size w w' := by
 have HB := Aside0.mk (Below.refl w.heap.size w)
 have hu43 := Tryz.underlying91
 have d0 := hl 0
 have d1 := hl 1
 have d2 := hl 2
 have d3 := hl 3
 have d4 := hl 4
 have d5 := hl 5
 unfold fixL
 obtain ⟨x0, e0⟩ : ∃ x, l.getD 0 0 = x := ⟨_, rfl⟩
 obtain ⟨x1, e1⟩ : ∃ x, l.getD 1 0 = x := ⟨_, rfl⟩
 obtain ⟨x2, e2⟩ : ∃ x, l.getD 2 0 = x := ⟨_, rfl⟩
 obtain ⟨x3, e3⟩ : ∃ x, l.getD 3 0 = x := ⟨_, rfl⟩
 obtain ⟨x4, e4⟩ : ∃ x, l.getD 4 0 = x := ⟨_, rfl⟩
 obtain ⟨x5, e5⟩ : ∃ x, l.getD 5 0 = x := ⟨_, rfl⟩
 have ec : cs6 l = #[.int .u64 x0, .int .u64 x1, .int .u64 x2, .int .u64 x3, .int .u64 x4, .int .u64 x5] := by unfold cs6; rw [e0, e1, e2, e3, e4, e5]
 rw [ec]
 rw [e0] at d0 ⊢
 rw [e1] at d1 ⊢
 rw [e2] at d2 ⊢
 rw [e3] at d3 ⊢
 rw [e4] at d4 ⊢
 rw [e5] at d5 ⊢
 clear e0 e1 e2 e3 e4 e5 ec hl
 have o1 := or_zero x2 x3 (by omega) (by omega) (by omega) (by omega)
 have o2 := or_zero (bits .or .u64 x2 x3) x4 o1.1.1 o1.1.2 (by omega) (by omega)
 have o3 := or_zero (bits .or .u64 (bits .or .u64 x2 x3) x4) x5 o2.1.1 o2.1.2 (by omega) (by omega)
 have s1 : IntKind.u64.wrap (x1 * 4294967296) = x1 * 4294967296 := wraps_u64 _ (by omega) (by omega)
 have s2 : IntKind.u64.wrap (x0 + x1 * 4294967296) = x0 + x1 * 4294967296 := wraps_u64 _ (by omega) (by omega)
 by_cases hz : x2 = 0 ∧ x3 = 0 ∧ x4 = 0 ∧ x5 = 0
 ·rw [if_pos hz]
  obtain ⟨rfl, rfl, rfl, rfl⟩ := hz
  have z0 : bits .or .u64 0 0 = 0 := rfl
  obtain ⟨n, hn⟩ : ∃ n, x0 + x1 * 4294967296 = n := ⟨_, rfl⟩
  have hn0 : 0 ≤ n ∧ n < 18446744073709551616 := by omega
  rw [hn] at s2 ⊢
  clear o1 o2 o3
  unfold sgnI
  cases neg
  ·rw [if_neg Bool.false_ne_true]
   by_cases c : n ≤ 9223372036854775807
   ·rw [if_pos c]
    have k1 : decide (9223372036854775808 ≤ n) = false := decide_eq_false (by omega)
    have k2 : wrap64 n = n := by rw [wrap64]; omega
    clear hn0 c
    go_enter Tryz.func75, Tryz.ntmps75
    go_wp2
    go_ret2
    exact ⟨by first | rfl | (simp; done) | (simp [*]; done), (by repeat (first | (with_reducible first | exact HB.out | apply below_alloc | apply pw_below_drewN | apply below_drew1) | exact HB.out))⟩
   ·rw [if_neg c]
    have k1 : decide (9223372036854775808 ≤ n) = true := decide_eq_true (by omega)
    clear hn0 c
    go_enter Tryz.func75, Tryz.ntmps75
    go_wp2
    go_ret2
    exact ⟨by first | rfl | (simp; done) | (simp [*]; done), (by repeat (first | (with_reducible first | exact HB.out | apply below_alloc | apply pw_below_drewN | apply below_drew1) | exact HB.out))⟩
  ·rw [if_pos rfl]
   by_cases c : n ≤ 9223372036854775808
   ·rw [if_pos c]
    have k1 : decide (9223372036854775808 < n) = false := decide_eq_false (by omega)
    by_cases c0 : n = 0
    ·have k3 : (n == 0) = true := beq_iff_eq.mpr c0
     subst c0
     clear hn0 c
     go_enter Tryz.func75, Tryz.ntmps75
     go_wp2
     go_ret2
     exact ⟨by first | rfl | (simp; done) | (simp [*]; done), (by repeat (first | (with_reducible first | exact HB.out | apply below_alloc | apply pw_below_drewN | apply below_drew1) | exact HB.out))⟩
    ·have k3 : (n == 0) = false := beq_eq_false_iff_ne.mpr c0
     have k3' : (n = 0) = False := eq_false c0
     have k4 : IntKind.u64.wrap (n - 1) = n - 1 := wraps_u64 _ (by omega) (by omega)
     have k5 : wrap64 (n - 1) = n - 1 := by rw [wrap64]; omega
     have k6 : wrap64 (-(n - 1)) = -(n - 1) := by rw [wrap64]; omega
     have k7 : wrap64 (-(n - 1) - 1) = -n := by rw [wrap64]; omega
     clear hn0 c c0
     go_enter Tryz.func75, Tryz.ntmps75
     go_wp2
     go_ret2
     exact ⟨by first | rfl | (simp; done) | (simp [*]; done), (by repeat (first | (with_reducible first | exact HB.out | apply below_alloc | apply pw_below_drewN | apply below_drew1) | exact HB.out))⟩
   ·rw [if_neg c]
    have k1 : decide (9223372036854775808 < n) = true := decide_eq_true (by omega)
    clear hn0 c
    go_enter Tryz.func75, Tryz.ntmps75
    go_wp2
    go_ret2
    exact ⟨by first | rfl | (simp; done) | (simp [*]; done), (by repeat (first | (with_reducible first | exact HB.out | apply below_alloc | apply pw_below_drewN | apply below_drew1) | exact HB.out))⟩
 ·rw [if_neg hz]
  have k0 : ¬ bits .or .u64 (bits .or .u64 (bits .or .u64 x2 x3) x4) x5 = 0 := fun h => hz (by
   have a1 := o3.2.mp h
   have a2 := o2.2.mp a1.1
   have a3 := o1.2.mp a2.1
   exact ⟨a3.1, a3.2, a2.2, a1.2⟩)
  have k1 : (bits .or .u64 (bits .or .u64 (bits .or .u64 x2 x3) x4) x5 != 0) = true := bne_iff_ne.mpr k0
  have k2 : (bits .or .u64 (bits .or .u64 (bits .or .u64 x2 x3) x4) x5 == 0) = false := beq_eq_false_iff_ne.mpr k0
  clear o1 o2 o3 hz k0
  go_enter Tryz.func75, Tryz.ntmps75
  go_wp2
  go_ret2
  exact ⟨by first | rfl | (simp; done) | (simp [*]; done), (by repeat (first | (with_reducible first | exact HB.out | apply below_alloc | apply pw_below_drewN | apply below_drew1) | exact HB.out))⟩

end Go.Proofs.YtfnbflhoaemmeaaGreatDoor.Ext
